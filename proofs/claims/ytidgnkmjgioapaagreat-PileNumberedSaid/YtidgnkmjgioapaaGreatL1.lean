/-
  Part 3 of the proof. gladstonelaw04.PileNumbered answers true for every list of numbers, and leaves its argument as it was. No conditions.
-/
import Derived.Test.YtidgnkmjgioapaaGreatChecked
import Derived.KernelRfl
import Derived.WalkKit
import Derived.WalkSpells
import Derived.WalkLawsBesides
import GoSem.Step
import Derived.RegionTactic
import Derived.ChangeAlike
import Derived.Deep.QuietTactic
import Derived.BigQuiet
import Derived.OneCell
import Derived.Maps.AppendAt
import Derived.Lib.Hide
import Derived.Maps.Range
import Derived.Deep.AppendLies
import Derived.Deep.RegionHeld3
import Derived.Deep.RegionLawGrows
import Derived.LoopTactic
import Derived.Deep.DeepCutAuto
import Derived.LoopIn
import Derived.LoopNIn
import Derived.BigRegion
import Derived.Deep.RegionLaw
import Derived.Recover
import Derived.Defers
import Derived.Deep.OwnRows
import Derived.StillTail
import Derived.Maps.RangeWalk
import Derived.OrdersHeld
import Derived.RangeFuncNested
import Derived.RangeFuncBound
import Derived.RangeFuncCalls
import Derived.RangeFuncLeaves
import Derived.RangeFuncFrom
import Derived.OrdersIn
import Derived.TacticsIn
import Derived.Conc.WgGenN3
import Derived.Laws.StructEq
import Derived.RangeFuncBox
set_option maxRecDepth 100000
set_option maxHeartbeats 8000000
set_option linter.all false
open And renaming intro->Mm
open Array renaming all_eq_true_iff_forall_mem->NG,getElem?_eq_some_iff->Lz,getElem?_modify->Pt,getElem?_setIfInBounds->My,getElem?_setIfInBounds_ne->ML,getElem?_setIfInBounds_self_of_lt->Rt,mem_of_getElem?->NN,mem_toList_iff->Oy,replicate->MR,replicate_succ->MF,replicate_zero->MG
open Bool renaming and_eq_true->Mg,false_eq_true->Mx,not_eq_true'->OM,not_true->Ri,or_eq_true->OH,false->LH,true->LG
open Classical renaming byContradiction->MX
open Exists renaming intro->QV
open Go renaming Act->ON,Addr->MN,BinOp->UL,Calls->MH,Code->Og,Exit->SS,IntKind->Tf,Obj->SQ,Oper->NB,Operand->MS,PanicEntry->QU,Program->LV,Sem->Ps,TypeDesc->Tm,TypeId->LZ,TypeInfo->Qg,Value->LA,World->Lt,bits->Ut,bodyPost_ret->Ot,bytes->SK,callsIn_wide->NM,execOp->OZ,grownBy_putObj'->Pi,heap_alloc_new->LS,info_parts->Pd,leaves_cons->Sw,madeCells->RP,maxLen->Qe,ready_mono->Xd,recoverD->Xb,results->Om,results_cell_tmp->Ui,sizeOf->SY,typeInfo->PT,undef->LI,underlying->Pp,wpAny_of_seq->VX,wpList->Ua,wpOpsS->XL,wpS_region->Uw,wpS_seq->XK,yielded->Od,zeroValue->QL
open Go.Addr renaming block->TM
open Go.Builtin renaming append_->PI,zeroCells->Ol
open Go.Calls renaming quiet_of_same->Ov
open Go.Instr renaming endRound->OR,index->Sr,makeFunc->Xc,makeSlice->Tu,typeAssert->PQ
open Go.IntWalk renaming i64_in->MI
open Go.Lib renaming hid->Lu
open Go.Proofs.Tryz renaming f136->Td,f137->Vf,f15->SJ,f54->Sc,f82->US,f85->PO,ntmps109->Sd,ntmps110->Vw,ntmps125->Xr,ntmps133->Xq,ntmps161->Ub,ntmps162->Xo,ntmps211->Xs,ntmps31->XM,ntmps51->XP,ntmps52->XJ,ntmps65->XO,ntmps68->XN,ntmps81->VW,prog->Ma,results133->Rf,results161->WJ,results81->UT,t3->VV,underlying29->QC
open Go.Region renaming Mode->PL,binds->MW,chainB->Uc,free->WE,noSelect->UD,ready->Mi,seqB->QT,sinkB->Ux,wanted->MA
open Go.Result renaming andThen->RF,andThen_ok->NC
open Go.RowKit.Below renaming heap_setCell->Nd,refl->RH
open Go.Sem renaming run_bind->NF,run_pure->RO
open Go.Value renaming int->Mp,oneCell'->OV,ownBlock->MP,slice->MU
open Go.World renaming alloc_heap_new->UU,cell?->Mz,cell?_setCell_other->NL,cell?_setCell_same->QJ,frozen?->Pw,grownBy_alloc->Lr,news_of_block->Of,ownsRow_nil->OF,putObj_heap_other->QP,putObj_heap_same->Rb,setCell->NS,size_alloc->Mc
open Go.World.grownBy renaming refl->Mf
open Int renaming eq_ofNat_of_zero_le->Qb,toNat_natCast->Pe
open List renaming all_eq_true->MD,append_toArray->OY,cons_append->Mk,drop_eq_getElem_cons->Oc,drop_eq_nil_of_le->Pm,drop_succ_cons->MQ,drop_zero->Nu,eq_nil_of_length_eq_zero->MT,ext_getElem?->QE,find?_eq_none->Qt,flatMap_cons->Oo,foldl_cons->OI,getElem?_append_left->Mv,getElem?_append_right->Nz,getElem?_drop->QY,getElem?_eq_getElem->LO,getElem?_eq_none->Nc,getElem?_eq_some_iff->Md,getElem?_map->NO,getElem?_of_mem->Tt,getElem?_range->Qh,getElem?_set_ne->PZ,getElem?_set_self->Pn,getElem?_take->QZ,getElem?_take_of_lt->Oi,getElem?_toArray->SU,getElem_mem->Qo,length_append->Na,length_cons->LX,length_drop->Qn,length_map->On,length_nil->Mj,length_set->OW,map_cons->PS,map_nil->Ra,map_toArray->RQ,mem_append->Ob,mem_cons->MK,mem_iff_getElem?->Qv,mem_map->Nt,mem_of_getElem?->Mh,mem_of_mem_take->QD,mem_range->Nj,mem_singleton->Nl,nil_append->Mu,not_mem_nil->NQ,pairwise_iff_getElem->PN,perm_append_comm->Rr,push_toArray->MZ,range->Mr,range'->QS,range_succ->Qx,set_cons_succ->TO,set_cons_zero->TN,size_toArray->Mt,take_add_one->Np,take_length->NH,take_of_length_le->Uv
open Nat renaming add_assoc->RY,add_mul->Sx,le_refl->LC,le_trans->LN,lt_of_lt_of_le->LY,lt_or_ge->NK,mul_le_mul_right->PF,reduceAdd->Ms,reduceSub->NA,zero_add->Mn
open Option renaming getD_some->LQ,map_some->Ng,none->Lw,some->Lq
open Option.some renaming inj->OQ,injEq->MM
open _root_ renaming Array->LM,Bool->MC,False->PC,Int->LJ,List->Lx,Nat->Ly,Option->LU
namespace Go.Proofs
section
open Go Go.RowKit
def Js{Y:Type}(p q:LV)(w:Lt)(r:Unsupported):(unsupported r:Ps Y).run p w=(unsupported r:Ps Y).run q w:=by unfold unsupported;rfl
section
variable(p q:LV)(h:p.toTables=q.toTables)(w:Lt)(t:LZ)
include h
theorem qb:p.info? t=q.info? t:=congrArg (λT=>Tables.info? T t) h
theorem Fx:p.underlying t=q.underlying t:=by
 unfold Program.underlying;simp only[qb p q h]
theorem Fy:(PT t).run p w=(PT t).run q w:=by
 unfold PT;show(match p.info? t with | some i=>(pure i:Ps Qg) | none=>stuck "no such type").run p w=(match q.info? t with | some i=>(pure i:Ps Qg) | none=>stuck "no such type").run q w;rw[qb p q h];cases q.info? t<;>rfl
theorem Il:(Pp t).run p w=(Pp t).run q w:=by
 unfold Pp;show(match p.underlying t with | some i=>(pure i:Ps Tm) | none=>stuck "no such type").run p w=(match q.underlying t with | some i=>(pure i:Ps Tm) | none=>stuck "no such type").run q w;rw[Fx p q h];cases q.underlying t<;>rfl
theorem Hu:(SY t).run p w=(SY t).run q w:=by
 unfold SY;simp only[NF,Fy p q h];cases(PT t).run q w<;>rfl
theorem Ht:(QL t).run p w=(QL t).run q w:=by
 unfold QL;simp only[NF,Fy p q h];cases hh:(PT t).run q w with
 | ok i w'=>
  simp only[NC];split
  ·rfl
  ·exact Js p q w' _
 | _=>simp only[RF]
theorem Jt:(isAgg t).run p w=(isAgg t).run q w:=by
 unfold isAgg;simp only[NF,Il p q h];cases hh:(Pp t).run q w with
 | ok i w'=>
  simp only[NC];split<;>simp only[RO]
 | _=>simp only[RF]
end
noncomputable def Ya:LV:={ Ma with funcs:=Tryz.prog.funcs.setIfInBounds 85 { PO with body:=Lq (.exit 0) } }
section
variable(w:Lt)(t:LZ)
@[simp] theorem Tp.tables:Ya.toTables=Tryz.prog.toTables:=rfl
@[simp] theorem Tp.und:Ya.underlying t=Tryz.prog.underlying t:=Fx _ _ Tp.tables t
@[simp] theorem Tp.rTypeInfo:(PT t).run Ya w=(PT t).run Ma w:=Fy _ _ Tp.tables w t
@[simp] theorem Tp.rUnder:(Pp t).run Ya w=(Pp t).run Ma w:=Il _ _ Tp.tables w t
@[simp] theorem Tp.rSizeOf:(SY t).run Ya w=(SY t).run Ma w:=Hu _ _ Tp.tables w t
@[simp] theorem Tp.rIsAgg:(isAgg t).run Ya w=(isAgg t).run Ma w:=Jt _ _ Tp.tables w t
@[simp] theorem Tp.rZero:(QL t).run Ya w=(QL t).run Ma w:=Ht _ _ Tp.tables w t
end
end
section
open Go Go.RowKit
abbrev Yc (f:Ly)(g:Func):Prop:=Ya.funcs[f]?=Lq g
abbrev Ye (f:Ly):Prop:=∀(a:LM LA) (w:Lt),(callFunc f a).run Ya w=.ok (.enter f a) w
def Yf(f:Ly)(h:(match Ya.funcs[f]? with | some g=>!(g.name == "runtime.NumGoroutine") && g.body.isSome | none=>LH)=LG:=by kernel_rfl):Ye f:=by
 intro a w;cases e:Ya.funcs[f]? with
 | none=>rw[e] at h;cases h
 | some g=>
  rw[e] at h;simp only[Mg,OM] at h;have d:g.name ≠ "runtime.NumGoroutine" := λb=>by rw[b] at h;exact absurd h.1 (by decide)
  have c:g.body≠Lw:=λb=>by rw[b] at h;cases h.2
  simp[callFunc,go_sem,e,d,c]
def Yd{f:Ly}{g:Func}(h:Ya.funcs[f]?=Lq g:=by kernel_rfl):Yc f g:=h
def Tp.x15:Yc 15 SJ:=Yd
def Tp.x23:Yc 23 Tryz.f23:=Yd
def Tp.x24:Yc 24 Tryz.f24:=Yd
def Tp.x27:Yc 27 Tryz.f27:=Yd
def Tp.x29:Yc 29 Tryz.f29:=Yd
def Tp.x31:Yc 31 Tryz.f31:=Yd
def Tp.x33:Yc 33 Tryz.f33:=Yd
def Tp.x34:Yc 34 Tryz.f34:=Yd
def Tp.x35:Yc 35 Tryz.f35:=Yd
def Tp.x36:Yc 36 Tryz.f36:=Yd
def Tp.x37:Yc 37 Tryz.f37:=Yd
def Tp.x39:Yc 39 Tryz.f39:=Yd
def Tp.x44:Yc 44 Tryz.f44:=Yd
def Tp.x51:Yc 51 Tryz.f51:=Yd
def Tp.x52:Yc 52 Tryz.f52:=Yd
def Tp.x54:Yc 54 Sc:=Yd
def Tp.x59:Yc 59 Tryz.f59:=Yd
def Tp.x62:Yc 62 Tryz.f62:=Yd
def Tp.x63:Yc 63 Tryz.f63:=Yd
def Tp.x65:Yc 65 Tryz.f65:=Yd
def Tp.x68:Yc 68 Tryz.f68:=Yd
def Tp.x69:Yc 69 Tryz.f69:=Yd
def Tp.x70:Yc 70 Tryz.f70:=Yd
def Tp.x72:Yc 72 Tryz.f72:=Yd
def Tp.x80:Yc 80 Tryz.f80:=Yd
def Tp.x81:Yc 81 Tryz.f81:=Yd
def Tp.x82:Yc 82 US:=Yd
def Tp.x83:Yc 83 Tryz.f83:=Yd
def Tp.x84:Yc 84 Tryz.f84:=Yd
def Tp.x90:Yc 90 Tryz.f90:=Yd
def Tp.x91:Yc 91 Tryz.f91:=Yd
def Tp.x92:Yc 92 Tryz.f92:=Yd
def Tp.x93:Yc 93 Tryz.f93:=Yd
def Tp.x94:Yc 94 Tryz.f94:=Yd
def Tp.x95:Yc 95 Tryz.f95:=Yd
def Tp.x96:Yc 96 Tryz.f96:=Yd
def Tp.x98:Yc 98 Tryz.f98:=Yd
def Tp.x99:Yc 99 Tryz.f99:=Yd
def Tp.x100:Yc 100 Tryz.f100:=Yd
def Tp.x101:Yc 101 Tryz.f101:=Yd
def Tp.x102:Yc 102 Tryz.f102:=Yd
def Tp.x103:Yc 103 Tryz.f103:=Yd
def Tp.x109:Yc 109 Tryz.f109:=Yd
def Tp.x110:Yc 110 Tryz.f110:=Yd
def Tp.x112:Yc 112 Tryz.f112:=Yd
def Tp.x113:Yc 113 Tryz.f113:=Yd
def Tp.x114:Yc 114 Tryz.f114:=Yd
def Tp.x117:Yc 117 Tryz.f117:=Yd
def Tp.x120:Yc 120 Tryz.f120:=Yd
def Tp.x121:Yc 121 Tryz.f121:=Yd
def Tp.x122:Yc 122 Tryz.f122:=Yd
def Tp.x123:Yc 123 Tryz.f123:=Yd
def Tp.x125:Yc 125 Tryz.f125:=Yd
def Tp.x126:Yc 126 Tryz.f126:=Yd
def Tp.x129:Yc 129 Tryz.f129:=Yd
def Tp.x133:Yc 133 Tryz.f133:=Yd
def Tp.x134:Yc 134 Tryz.f134:=Yd
def Tp.x135:Yc 135 Tryz.f135:=Yd
def Tp.x136:Yc 136 Td:=Yd
def Tp.x137:Yc 137 Vf:=Yd
def Tp.x145:Yc 145 Tryz.f145:=Yd
def Tp.x147:Yc 147 Tryz.f147:=Yd
def Tp.x149:Yc 149 Tryz.f149:=Yd
def Tp.x150:Yc 150 Tryz.f150:=Yd
def Tp.x151:Yc 151 Tryz.f151:=Yd
def Tp.x152:Yc 152 Tryz.f152:=Yd
def Tp.x153:Yc 153 Tryz.f153:=Yd
def Tp.x154:Yc 154 Tryz.f154:=Yd
def Tp.x155:Yc 155 Tryz.f155:=Yd
def Tp.x156:Yc 156 Tryz.f156:=Yd
def Tp.x157:Yc 157 Tryz.f157:=Yd
def Tp.x160:Yc 160 Tryz.f160:=Yd
def Tp.x161:Yc 161 Tryz.f161:=Yd
def Tp.x162:Yc 162 Tryz.f162:=Yd
def Tp.x163:Yc 163 Tryz.f163:=Yd
def Tp.x164:Yc 164 Tryz.f164:=Yd
def Tp.x165:Yc 165 Tryz.f165:=Yd
def Tp.x188:Yc 188 Tryz.f188:=Yd
def Tp.x197:Yc 197 Tryz.f197:=Yd
def Tp.x198:Yc 198 Tryz.f198:=Yd
def Tp.x199:Yc 199 Tryz.f199:=Yd
@[simp] theorem Tp.callPf:Ye 24/\Ye 27/\Ye 31/\Ye 33/\Ye 34/\Ye 35/\Ye 36/\Ye 37/\Ye 39/\Ye 44/\Ye 51/\Ye 52/\Ye 54/\Ye 59/\Ye 62/\Ye 63/\Ye 65/\Ye 68/\Ye 69/\Ye 70/\Ye 72/\Ye 80/\Ye 81/\Ye 82/\Ye 84/\Ye 90/\Ye 91/\Ye 92/\Ye 93/\Ye 94/\Ye 95/\Ye 96/\Ye 98/\Ye 99/\Ye 100/\Ye 102/\Ye 103/\Ye 109/\Ye 110/\Ye 112/\Ye 113/\Ye 114/\Ye 117/\Ye 121/\Ye 122/\Ye 123/\Ye 125/\Ye 126/\Ye 129/\Ye 133/\Ye 134/\Ye 135/\Ye 136/\Ye 145/\Ye 147/\Ye 150/\Ye 151/\Ye 152/\Ye 153/\Ye 154/\Ye 155/\Ye 156/\Ye 157/\Ye 160/\Ye 161/\Ye 162/\Ye 163/\Ye 164/\Ye 188/\Ye 197/\Ye 198/\Ye 199:=⟨Yf 24,Yf 27,Yf 31,Yf 33,Yf 34,Yf 35,Yf 36,Yf 37,Yf 39,Yf 44,Yf 51,Yf 52,Yf 54,Yf 59,Yf 62,Yf 63,Yf 65,Yf 68,Yf 69,Yf 70,Yf 72,Yf 80,Yf 81,Yf 82,Yf 84,Yf 90,Yf 91,Yf 92,Yf 93,Yf 94,Yf 95,Yf 96,Yf 98,Yf 99,Yf 100,Yf 102,Yf 103,Yf 109,Yf 110,Yf 112,Yf 113,Yf 114,Yf 117,Yf 121,Yf 122,Yf 123,Yf 125,Yf 126,Yf 129,Yf 133,Yf 134,Yf 135,Yf 136,Yf 145,Yf 147,Yf 150,Yf 151,Yf 152,Yf 153,Yf 154,Yf 155,Yf 156,Yf 157,Yf 160,Yf 161,Yf 162,Yf 163,Yf 164,Yf 188,Yf 197,Yf 198,Yf 199⟩
end
end Go.Proofs
namespace Go
section
instance:Coe Ly MN:=⟨λx=>⟨x,0,Lw⟩⟩
instance:Coe LJ LA:=⟨λx=>.int .i64 x⟩
instance:Coe Ly LA:=⟨λx=>.int .i64 x⟩
end
end Go
namespace Go.Proofs.YtidgnkmjgioapaaGreat
section
open Go.RowKit
theorem _root_.Go.World.grownBy.t{w u v:Lt}{r:LU Ly}(h:w.grownBy u r)(d:u.grownBy v r):w.grownBy v r:=h.trans d
abbrev _root_.Go.World.gb:=World.grownBy
theorem _root_.Eq.t{Y:Type}{a b c:Y}(h:a=b)(d:b=c):a=c:=h.trans d
theorem _root_.List.Perm.t{Y:Type}{a b c:Lx Y}(h:a.Perm b)(d:b.Perm c):a.Perm c:=h.trans d
theorem _root_.List.Sublist.t{Y:Type}{a b c:Lx Y}(h:a.Sublist b)(d:b.Sublist c):a.Sublist c:=h.trans d
theorem _root_.Go.RowKit.Below.t{n:Ly}{a b c:Lt}(h:Below n a b)(d:Below n b c):Below n a c:=h.trans d
def ar{w:Lt}{b:Ly}{a:LM LA}{e:LZ}{o:Ly}{v:LA}(h:w.heap[b]?=Lq (.cells a e (0,0))) :(w.setCell ⟨b,o,Lw⟩ v).heap[b]?=Lq (.cells (a.setIfInBounds o v) e (0,0)):=by
 simp[NS,Pt,h]
def an(w:Lt)(b o:Ly)(v:LA):w.gb (w.setCell ⟨b,o,Lw⟩ v) (Lq b) :=
 ⟨rfl,rfl,rfl,by simp[NS],λk _ a=>Nd _ _ _ _ (λe=>a (by rw[e]))⟩
def ay(w:Lt)(n:Ly)(a:LU Ly):w.gb (w.drewN n) a:=⟨rfl,rfl,rfl,LC _,λ_ _ _=>rfl⟩
def ak(w:Lt)(a:LU Ly):w.gb w.drew a:=⟨rfl,rfl,rfl,LC _,λ_ _ _=>rfl⟩
def blk{w c:Lt}{a:LU Ly}{X:Ly}{o:SQ}(d:w.gb c a)(b:Lq X≠a)(h:w.heap[X]?=Lq o):c.heap[X]?=Lq o :=
 (d.block X (Lz.1 h).1 b).trans h
def bk{w c:Lt}{a:LU Ly}{X:Ly}{o:SQ}(d:w.gb c a)(h:w.heap[X]?=Lq o)(b:Lq X≠a:=by simp):c.heap[X]?=Lq o:=blk d b h
def _root_.Go.World.grownBy.cl{w d:Lt}{b:LU Ly}(e:w.grownBy d b){a:MN}{v:LA}(h:w.cell? a=Lq v)(c:Lq a.block≠b:=by simp):d.cell? a=Lq v:=e.cell h c
def aS{b a:Prop}(d:b)(c:a):Hid b/\Hid a:=⟨Lu d,Lu c⟩
def bL{c b a:Prop}(f:c)(e:b)(d:a):Hid c/\Hid b/\Hid a:=⟨Lu f,Lu e,Lu d⟩
def dD{d c b a:Prop}(h:d)(g:c)(f:b)(e:a):Hid d/\Hid c/\Hid b/\Hid a:=⟨Lu h,Lu g,Lu f,Lu e⟩
def oC{e d c b a:Prop}(j:e)(i:d)(h:c)(g:b)(f:a):Hid e/\Hid d/\Hid c/\Hid b/\Hid a:=⟨Lu j,Lu i,Lu h,Lu g,Lu f⟩
def sr{f e d c b a:Prop}(l:f)(k:e)(j:d)(i:c)(h:b)(g:a):Hid f/\Hid e/\Hid d/\Hid c/\Hid b/\Hid a:=⟨Lu l,Lu k,Lu j,Lu i,Lu h,Lu g⟩
def BP{g f e d c b a:Prop}(o:g)(n:f)(l:e)(k:d)(j:c)(i:b)(h:a):Hid g/\Hid f/\Hid e/\Hid d/\Hid c/\Hid b/\Hid a:=⟨Lu o,Lu n,Lu l,Lu k,Lu j,Lu i,Lu h⟩
def GI{h g f e d c b a:Prop}(q:h)(p:g)(o:f)(n:e)(l:d)(k:c)(j:b)(i:a):Hid h/\Hid g/\Hid f/\Hid e/\Hid d/\Hid c/\Hid b/\Hid a:=⟨Lu q,Lu p,Lu o,Lu n,Lu l,Lu k,Lu j,Lu i⟩
def aD{w:Lt}{X:Ly}{o p:SQ}(h:w.heap[X]?=Lq o):(w.alloc p).heap[X]?=Lq o:=blk (Lr w p Lw) (by simp) h
def fg(w:Lt)(a:SQ):∃A b,A=w.heap.size/\b=w.alloc a/\w.gb b Lw/\b.heap[A]?=Lq a:=⟨_,_,rfl,rfl,Lr _ _ Lw,LS w _⟩
def de(w:Lt)(a b:SQ):∃A c,A=w.heap.size/\c=(w.alloc a).alloc b/\w.gb c Lw/\c.heap[A]?=Lq a/\c.heap[A+1]?=Lq b/\c.heap.size=A+2:=⟨_,_,rfl,rfl,(Lr _ _ Lw).t (Lr _ _ Lw),aD (LS w _),by
 have:=LS (w.alloc a) b
 rwa [Mc] at this,by rw[Mc,Mc]⟩
def aa{w:Lt}{Q o b:Ly}{a:LM LA}{d:Ly × Ly}{v:LA}(h:w.heap[Q]?=Lq (.cells a b d))(c:a[o]?=Lq v):w.cell? ⟨Q,o,Lw⟩=Lq v:=by simp[Mz,h,c]
def aB{w:Lt}{Q o a:Ly}{b:LM LA}(h:w.heap[Q]?=Lq (.cells b a (0,0))):w.frozen? ⟨Q,o,Lw⟩=LH:=by simp[Pw,h]
def gS(w:Lt)(a:LM LA)(b:LZ)(k:Ly):(w.alloc (.cells a b)).cell? ⟨w.heap.size,k,Lw⟩=a[k]?:=by
 unfold Mz;rw[show(w.alloc (.cells a b)).heap[(⟨w.heap.size,k,Lw⟩:MN).block]?=Lq (.cells a b) from LS w _];simp
def ai(c d:Ly)(w:Lt)(v:LA)(l:Lx LJ):Prop :=
 ∃base a,v=.slice base l.length a/\(l.length:LJ)<=1000000 /\
  (l≠[]->∃B o b e,base=Lq ⟨B,o,Lw⟩/\c<=B/\B<d/\w.heap[B]?=Lq (.cells b 3 e)/\∀i,i<l.length->b[o+i]?=Lq (.int .i64 (l[i]?.getD 0)))
def ai.nil(a b:Ly)(w:Lt):ai a b w (.slice Lw 0 0) []:=⟨Lw,0,rfl,by decide,λh=>absurd rfl h⟩
def ai.mono{e f a b:Ly}{w:Lt}{v:LA}{l:Lx LJ}(h:ai e f w v l)(s:a<=e)(r:f<=b):ai a b w v l:=by
 obtain⟨base,d,rfl,i,g⟩:=h;refine⟨base,d,rfl,i,λc=>?_⟩;have⟨B,o,q,j,p,u,t,n,k⟩:=g c;exact⟨B,o,q,j,p,by omega,by omega,n,k⟩
def ai.kept{a g:Ly}{w j:Lt}{v:LA}{l:Lx LJ}{row:LU Ly}(h:ai a g w v l)(q:w.gb j row)(k:∀R,row=Lq R->R<a\/g<=R:=by simp):ai a g j v l:=by
 obtain⟨base,i,rfl,p,d⟩:=h;refine⟨base,i,rfl,p,λf=>?_⟩;have⟨B,o,z,r,y,x,u,t,s⟩:=d f;exact⟨B,o,z,r,y,x,u,blk q (λe=>by have:=k B e.symm;omega) t,s⟩
def ai.alloc{a b:Ly}{w:Lt}{v:LA}{l:Lx LJ}(h:ai a b w v l)(o:SQ):ai a b (w.alloc o) v l:=h.kept (Lr w o Lw) (by simp)
def ai.own{d n:Ly}{w:Lt}{v:LA}{l:Lx LJ}(h:w.ownsRow d 3 1 v n (l.map (Mp .i64)))(e:(l.length:LJ)<=1000000):ai d w.heap.size w v l:=by
 obtain⟨t,s⟩:=h;have q:l.length=n:=by simpa using t
 subst q;rcases s with⟨rfl,o⟩ | ⟨g,c,a,rfl,r,j,x,hm,u,p⟩
 ·exact⟨Lw,0,by rw[o],e,λb=>absurd (MT o) b⟩
 ·refine⟨_,c,rfl,e,λ_=>⟨g,0,a,(0,0),rfl,r,(Lz.1 j).1,j,λi f=>?_⟩⟩;have k:(a.toList.take (l.length*1))[i]?=Lq (.int .i64 (l[i]?.getD 0)):=by
   rw[p];simp[LO f]
  rw[QZ] at k;simpa[f] using k
def ai.cell{e b:Ly}{w:Lt}{v:LA}{l:Lx LJ}(h:ai e b w v l):∃base a,v=.slice base l.length a/\(l.length:LJ)<=1000000 /\(l≠[]->∃B o,base=Lq ⟨B,o,Lw⟩/\e<=B/\B<b/\B<w.heap.size/\∀i,i<l.length->w.cell? ⟨B,o+i,Lw⟩=Lq (.int .i64 (l[i]?.getD 0))):=by
 obtain⟨base,a,rfl,g,c⟩:=h;refine⟨base,a,rfl,g,λd=>?_⟩;have⟨B,o,s,r,q,n,k,f,j⟩:=c d;exact⟨B,o,q,n,k,(Lz.1 f).1,λi b=>by simp[Mz,f,j i b]⟩
def aR(g:Ly->LJ):SQ:=.cells #[(g 0),(g 1),(g 2),(g 3),(g 4)] 101 (0,0)
def kA{w:Lt}{A:Ly}{g:Ly->LJ}{e:Ly}{v:LJ}(h:w.heap[A]?=Lq (aR g))(a:e<5):(w.setCell ⟨A,e,Lw⟩ (.int .i64 v)).heap[A]?=Lq (aR λd=>if d=e then v else g d):=by
 unfold aR at h ⊢;rw[ar h];obtain rfl | rfl | rfl | rfl | rfl:e=0\/e=1\/e=2\/e=3\/e=4:=by omega
 all_goals simp
def aA{w:Lt}{A:Ly}{g:Ly->LJ}{e:Ly}(h:w.heap[A]?=Lq (aR g))(a:e<5):w.cell? ⟨A,e,Lw⟩=Lq (.int .i64 (g e)):=by
 unfold aR at h;obtain rfl | rfl | rfl | rfl | rfl:e=0\/e=1\/e=2\/e=3\/e=4:=by omega
 all_goals simp[Mz,h]
def dC{w:Lt}{A:Ly}{g:Ly->LJ}(h:w.heap[A]?=Lq (aR g))(e:Ly):w.frozen? ⟨A,e,Lw⟩=LH:=by
 unfold aR at h;simp[Pw,h]
def eZ{g a:Ly->LJ}(h:∀d,d<5->g d=a d):aR g=aR a:=by
 unfold aR;rw[h 0 (by omega),h 1 (by omega),h 2 (by omega),h 3 (by omega),h 4 (by omega)]
structure Par where
 mn:LJ
 mx:LJ
 bears:LJ
 tall:LJ
deriving DecidableEq
def aC(d e:Ly)(w:Lt)(v:LA)(a:Lx Par):Prop :=
 ∃base c,v=.slice base a.length c/\(a.length:LJ)<=1000000 /\
  (a≠[]->∃B o b f,base=Lq ⟨B,o,Lw⟩/\d<=B/\B<e/\w.heap[B]?=Lq (.cells b 28 f) /\
   ∀i,i<a.length->∃p,a[i]?=Lq p/\b[o+i*4]?=Lq (.int .i64 p.mn)/\b[o+(i*4+1)]?=Lq (.int .i64 p.mx)/\b[o+(i*4+2)]?=Lq (.int .i64 p.bears)/\b[o+(i*4+3)]?=Lq (.int .i64 p.tall))
def aC.kept{a g:Ly}{w j:Lt}{v:LA}{k:Lx Par}{row:LU Ly}(h:aC a g w v k)(q:w.gb j row)(l:∀R,row=Lq R->R<a\/g<=R:=by simp):aC a g j v k:=by
 obtain⟨base,i,rfl,p,d⟩:=h;refine⟨base,i,rfl,p,λf=>?_⟩;have⟨B,o,z,r,y,x,u,t,s⟩:=d f;exact⟨B,o,z,r,y,x,u,blk q (λe=>by have:=l B e.symm;omega) t,s⟩
def aC.alloc{b c:Ly}{w:Lt}{v:LA}{a:Lx Par}(h:aC b c w v a)(o:SQ):aC b c (w.alloc o) v a:=h.kept (Lr w o Lw) (by simp)
def aC.mono{f g a b:Ly}{w:Lt}{v:LA}{e:Lx Par}(h:aC f g w v e)(s:a<=f)(r:g<=b):aC a b w v e:=by
 obtain⟨base,d,rfl,j,i⟩:=h;refine⟨base,d,rfl,j,λc=>?_⟩;have⟨B,o,q,k,p,u,t,n,l⟩:=i c;exact⟨B,o,q,k,p,by omega,by omega,n,l⟩
def aC.cell{g d:Ly}{w:Lt}{v:LA}{b:Lx Par}(h:aC g d w v b):∃base a,v=.slice base b.length a/\(b.length:LJ)<=1000000 /\(b≠[]->∃B o,base=Lq ⟨B,o,Lw⟩/\g<=B/\B<d/\B<w.heap.size/\∀i,i<b.length->∃p,b[i]?=Lq p/\w.cell? ⟨B,o+i*4,Lw⟩=Lq (.int .i64 p.mn)/\w.cell? ⟨B,o+i*4+1,Lw⟩=Lq (.int .i64 p.mx)/\w.cell? ⟨B,o+i*4+2,Lw⟩=Lq (.int .i64 p.bears)/\w.cell? ⟨B,o+i*4+3,Lw⟩=Lq (.int .i64 p.tall)):=by
 obtain⟨base,a,rfl,j,e⟩:=h;refine⟨base,a,rfl,j,λf=>?_⟩;have⟨B,o,z,y,x,u,t,c,s⟩:=e f;refine⟨B,o,x,u,t,(Lz.1 c).1,λi d=>?_⟩;have⟨p,r,q,n,l,k⟩:=s i d;exact⟨p,r,by simp[Mz,c,q],by simp[Mz,c,RY,n],by simp[Mz,c,RY,l],by simp[Mz,c,RY,k]⟩
def dh(d e:Ly)(w:Lt)(v:LA)(c:Lx Par)(a:LJ):Prop:=∃b,v=.agg #[b,a]/\aC d e w b c
def wts(g:Ly->LJ):LA:=.agg #[(g 0),(g 1),(g 2),(g 3),(g 4)]
def nN(l:Lx LJ):LJ:=l.foldl (·+·) 0
def sR(l:Lx LJ)(k:Ly)(x:LJ)(h:l[k]?=Lq x):nN (l.take (k+1))=nN (l.take k)+x:=by
 rw[Np,h];simp[nN]
def FS(u y:Ly)(v:LA)(l:Lx LJ)(w:Lt)(q:ai u y w v l)(n:∀k,k<=l.length->-1000000000<=nN (l.take k)/\nN (l.take k)<=1000000000) :MH Ya 145 #[v] w λe t=>e=.returned (.int .i64 (nN l))/\w=t:=by
 obtain⟨base,F,rfl,H,p⟩:=q.cell;have⟨G,r⟩:=aS p n;clear p n q;go_enter Tp.x145,Tryz.ntmps145;go_wp2;go_loopw [3,8] (λa i wr=>∃k:Ly,i=.int .i64 k/\k<=l.length/\a=.int .i64 (nN (l.take k))/\w=wr) (λ_ i _=>(l.length - intOf i).toNat)
 case atStart=>exact⟨0,rfl,by omega,by simp[nN],rfl⟩
 case round=>
  obtain⟨k,rfl,I,rfl,rfl⟩:=hrel;by_cases c:k<l.length
  ·obtain⟨B,o,rfl,C,A,z,d⟩:=G.out (by intro e;rw[e] at c;simp at c);have g:=d k c;have D:=r.out k (by omega);have h:=r.out (k+1) (by omega);have f:l[k]?=Lq (l[k]?.getD 0):=by simp[LO c]
   rw[sR l k _ f] at h;have b:=sR l k _ f;generalize l[k]?.getD 0=x at g h b;generalize nN (l.take k)=s at D h b;have j:=Lu b;clear d f b;go_wp2;go_roundw
   case rel=>exact⟨k+1,by simp,by omega,by rw[j],by first | rfl | trivial⟩
   case measure=>simp[intOf];omega
  ·obtain rfl:k=l.length:=by omega
   go_wp2;go_ret;exact⟨by simp,rfl⟩
def pre(f:Par->LJ)(a:Lx Par)(k:Ly):Ly->LJ:=λi=>if i<k then(match a[i]? with | some p=>f p | none=>0) else 0
def wG(f:Par->LJ)(a:Lx Par)(k:Ly)(p:Par)(h:a[k]?=Lq p)(d:Ly):pre f a (k+1) d=if d=k then f p else pre f a k d:=by
 unfold pre;by_cases e:d=k
 ·subst e;simp[h]
 ·by_cases b:d<k
  ·rw[if_pos (by omega),if_neg e,if_pos b]
  ·rw[if_neg (by omega),if_neg e,if_neg b]
def lj(lo L:Ly)(v:LA)(a:Lx Par)(b:LJ)(w:Lt)(M:dh lo L w v a b)(c8:L<=w.heap.size)(h5:a.length<=5) :MH Ya 93 #[v] w λe w'=>e=.returned (wts (pre Par.mn a a.length))/\w.gb w' Lw:=by
 obtain⟨pv,rfl,P⟩:=M;obtain⟨base,c,rfl,hl,-⟩:=P.cell;obtain⟨A,u⟩:∃A,A=w.heap.size:=⟨_,rfl⟩;have HP:=Lu P;clear P;go_enter Tp.x93,Tryz.ntmps93;go_upto_region 2 with(fail);have h:w.gb (((w.alloc (.cells #[.slice base a.length c,b] 91)).alloc (aR λ_=>0)).alloc (aR λ_=>0)) Lw:=((Lr _ _ Lw).t (Lr _ _ Lw)).t (Lr _ _ Lw);have M:(((w.alloc (.cells #[.slice base a.length c,b] 91)).alloc (aR λ_=>0)).alloc (aR λ_=>0)).cell? A=Lq (.slice base a.length c):=aa (aD (aD (by rw[u];exact LS w _))) rfl;have N:(((w.alloc (.cells #[.slice base a.length c,b] 91)).alloc (aR λ_=>0)).alloc (aR λ_=>0)).heap[A+1]?=Lq (aR λ_=>0):=aD (by
  have:=LS (w.alloc (.cells #[.slice base a.length c,b] 91)) (aR λ_=>0);rw[Mc,<- u] at this;exact this)
 have x:(((w.alloc (.cells #[.slice base a.length c,b] 91)).alloc (aR λ_=>0)).alloc (aR λ_=>0)).heap[A+2]?=Lq (aR λ_=>0):=by
  have:=LS ((w.alloc (.cells #[.slice base a.length c,b] 91)).alloc (aR λ_=>0)) (aR λ_=>0);rw[Mc,Mc,<- u] at this;exact this
 rw[<- u];show Code.wp _ _ _ _ (((w.alloc (.cells #[.slice base a.length c,b] 91)).alloc (aR λ_=>0)).alloc (aR λ_=>0));have H:A+2<(((w.alloc (.cells #[.slice base a.length c,b] 91)).alloc (aR λ_=>0)).alloc (aR λ_=>0)).heap.size:=(Lz.1 x).1;generalize (((w.alloc (.cells #[.slice base a.length c,b] 91)).alloc (aR λ_=>0)).alloc (aR λ_=>0))=w1 at h M N x H ⊢;have c9:L<=A:=by omega
 obtain⟨D,S⟩:∃D,D=A+2:=⟨_,rfl⟩;obtain⟨R,r⟩:∃R,R=A+1:=⟨_,rfl⟩;rw[show A+1+1=A+2 from rfl,<- S,<- r];rw[<- S] at x H;rw[<- r] at N;have Z:=Lu (HP.kept h);have⟨HG,HR,HW⟩:=bL h N x;have c3:¬ R=D:=by omega
 have e6:¬ A=D:=by omega
 have e5:A<=R/\A<=D:=by omega
 have HA:=Lu u;have F:L<=D:=by omega
 clear h N x u HP S r;go_wp2;go_loopw [10] (λi wr=>∃k:Ly,i=.int .i64 k/\k<=a.length/\w1.gb wr (Lq D)/\wr.heap[D]?=Lq (aR (pre Par.mn a k))) (λi _=>(a.length - intOf i).toNat)
 case atStart=>exact⟨0,rfl,by omega,Mf _ _,by rw[HW];congr 1⟩
 case round=>
  obtain⟨k,rfl,hk,h,l⟩:=hrel;have d7:D<wr.heap.size:=(Lz.1 l).1;have s:=Z.out.kept h (by rintro R e;cases e;exact .inr F);have d6:=h.cell M (by simp;omega);have⟨I,HB⟩:=aS h l;by_cases n:k<a.length
  ·obtain⟨T,a8,he,-,g⟩:=s.cell;cases he;obtain⟨B,o,rfl,e4,d9,d8,G⟩:=g (by intro e;rw[e] at n;simp at n);have⟨p,hp,q0,q1,q2,q3⟩:=G k n;have Q:=aA l (show k<5 by omega);have e7:=dC l k;have Y:=Lu hp;have O:k<5:=by omega
   generalize pre Par.mn a k k=y at Q;clear G g s h l hp;go_wp2;go_roundw
   case rel=>
    refine⟨k+1,by simp,by omega,(I.t (an _ _ _ _)).t (Lr _ _ _),?_⟩;rw[aD (kA HB O)]
    congr 1
    exact eZ λd _=>(wG _ _ _ _ Y d).symm
   case measure=>simp[intOf];omega
  ·obtain rfl:k=a.length:=by omega
   have f:=blk h (by simp;omega) HR;have a0:=aA l (show 0<5 by omega);have a1:=aA l (show 1<5 by omega);have a2:=aA l (show 2<5 by omega);have a3:=aA l (show 3<5 by omega);have a4:=aA l (show 4<5 by omega);have b0:=aA f (show 0<5 by omega);have b1:=aA f (show 1<5 by omega);have b2:=aA f (show 2<5 by omega);have b3:=aA f (show 3<5 by omega);have b4:=aA f (show 4<5 by omega);have fz:=dC f;have e9:=Lu f;have V:=Lu (show wts (pre Par.mn a a.length)=.agg #[(pre Par.mn a a.length 0),(pre Par.mn a a.length 1),(pre Par.mn a a.length 2),(pre Par.mn a a.length 3),(pre Par.mn a a.length 4)] from rfl);generalize pre Par.mn a a.length 0=g0 at *
   generalize pre Par.mn a a.length 1=g1 at *
   generalize pre Par.mn a a.length 2=g2 at *
   generalize pre Par.mn a a.length 3=g3 at *
   generalize pre Par.mn a a.length 4=g4 at *
   obtain⟨W,q⟩:∃W,W=((((wr.setCell R (.int .i64 g0)).setCell ⟨R,1,Lw⟩ (.int .i64 g1)).setCell ⟨R,2,Lw⟩ (.int .i64 g2)).setCell ⟨R,3,Lw⟩ (.int .i64 g3)).setCell ⟨R,4,Lw⟩ (.int .i64 g4):=⟨_,rfl⟩;have z:W.heap[R]?=Lq (.cells #[g0,g1,g2,g3,g4] 101 (0,0)):=by
    rw[q,ar (ar (ar (ar (ar f))))];rfl
   have C:w.gb W Lw:=(HG.andThen I (by rintro j e;cases e;exact .inl (by have:=HA.out;omega))).andThen (row':=Lq R)
    (by rw[q];exact((((an _ _ _ _).t (an _ _ _ _)).t (an _ _ _ _)).t (an _ _ _ _)).t (an _ _ _ _)) (by rintro j e;cases e;exact .inl (by have:=HA.out;omega))
   have⟨X,a6,U⟩:=bL z C q;clear f h l s n z C q;go_wp2;rw[<- U,V];exact Ot (v:=.agg #[g0,g1,g2,g3,g4]) (by simp[Om,Tryz.results93,go_sem,Mz,X.out]) rfl ⟨rfl,a6⟩
def kG(lo L:Ly)(v:LA)(a:Lx Par)(b:LJ)(w:Lt)(M:dh lo L w v a b)(c8:L<=w.heap.size)(h5:a.length<=5) :MH Ya 92 #[v] w λe w'=>e=.returned (wts (pre Par.mx a a.length))/\w.gb w' Lw:=by
 obtain⟨pv,rfl,P⟩:=M;obtain⟨base,c,rfl,hl,-⟩:=P.cell;obtain⟨A,u⟩:∃A,A=w.heap.size:=⟨_,rfl⟩;have HP:=Lu P;clear P;go_enter Tp.x92,Tryz.ntmps92;go_upto_region 2 with(fail);have h:w.gb (((w.alloc (.cells #[.slice base a.length c,b] 91)).alloc (aR λ_=>0)).alloc (aR λ_=>0)) Lw:=((Lr _ _ Lw).t (Lr _ _ Lw)).t (Lr _ _ Lw);have M:(((w.alloc (.cells #[.slice base a.length c,b] 91)).alloc (aR λ_=>0)).alloc (aR λ_=>0)).cell? A=Lq (.slice base a.length c):=aa (aD (aD (by rw[u];exact LS w _))) rfl;have N:(((w.alloc (.cells #[.slice base a.length c,b] 91)).alloc (aR λ_=>0)).alloc (aR λ_=>0)).heap[A+1]?=Lq (aR λ_=>0):=aD (by
  have:=LS (w.alloc (.cells #[.slice base a.length c,b] 91)) (aR λ_=>0);rw[Mc,<- u] at this;exact this)
 have x:(((w.alloc (.cells #[.slice base a.length c,b] 91)).alloc (aR λ_=>0)).alloc (aR λ_=>0)).heap[A+2]?=Lq (aR λ_=>0):=by
  have:=LS ((w.alloc (.cells #[.slice base a.length c,b] 91)).alloc (aR λ_=>0)) (aR λ_=>0);rw[Mc,Mc,<- u] at this;exact this
 rw[<- u];show Code.wp _ _ _ _ (((w.alloc (.cells #[.slice base a.length c,b] 91)).alloc (aR λ_=>0)).alloc (aR λ_=>0));have H:A+2<(((w.alloc (.cells #[.slice base a.length c,b] 91)).alloc (aR λ_=>0)).alloc (aR λ_=>0)).heap.size:=(Lz.1 x).1;generalize (((w.alloc (.cells #[.slice base a.length c,b] 91)).alloc (aR λ_=>0)).alloc (aR λ_=>0))=w1 at h M N x H ⊢;have c9:L<=A:=by omega
 obtain⟨D,S⟩:∃D,D=A+2:=⟨_,rfl⟩;obtain⟨R,r⟩:∃R,R=A+1:=⟨_,rfl⟩;rw[show A+1+1=A+2 from rfl,<- S,<- r];rw[<- S] at x H;rw[<- r] at N;have Z:=Lu (HP.kept h);have⟨HG,HR,HW⟩:=bL h N x;have c3:¬ R=D:=by omega
 have e6:¬ A=D:=by omega
 have e5:A<=R/\A<=D:=by omega
 have HA:=Lu u;have F:L<=D:=by omega
 clear h N x u HP S r;go_wp2;go_loopw [10] (λi wr=>∃k:Ly,i=.int .i64 k/\k<=a.length/\w1.gb wr (Lq D)/\wr.heap[D]?=Lq (aR (pre Par.mx a k))) (λi _=>(a.length - intOf i).toNat)
 case atStart=>exact⟨0,rfl,by omega,Mf _ _,by rw[HW];congr 1⟩
 case round=>
  obtain⟨k,rfl,hk,h,l⟩:=hrel;have d7:D<wr.heap.size:=(Lz.1 l).1;have s:=Z.out.kept h (by rintro R e;cases e;exact .inr F);have d6:=h.cell M (by simp;omega);have⟨I,HB⟩:=aS h l;by_cases n:k<a.length
  ·obtain⟨T,a8,he,-,g⟩:=s.cell;cases he;obtain⟨B,o,rfl,e4,d9,d8,G⟩:=g (by intro e;rw[e] at n;simp at n);have⟨p,hp,q0,q1,q2,q3⟩:=G k n;have Q:=aA l (show k<5 by omega);have e7:=dC l k;have Y:=Lu hp;have O:k<5:=by omega
   generalize pre Par.mx a k k=y at Q;clear G g s h l hp;go_wp2;go_roundw
   case rel=>
    refine⟨k+1,by simp,by omega,(I.t (an _ _ _ _)).t (Lr _ _ _),?_⟩;rw[aD (kA HB O)]
    congr 1
    exact eZ λd _=>(wG _ _ _ _ Y d).symm
   case measure=>simp[intOf];omega
  ·obtain rfl:k=a.length:=by omega
   have f:=blk h (by simp;omega) HR;have a0:=aA l (show 0<5 by omega);have a1:=aA l (show 1<5 by omega);have a2:=aA l (show 2<5 by omega);have a3:=aA l (show 3<5 by omega);have a4:=aA l (show 4<5 by omega);have b0:=aA f (show 0<5 by omega);have b1:=aA f (show 1<5 by omega);have b2:=aA f (show 2<5 by omega);have b3:=aA f (show 3<5 by omega);have b4:=aA f (show 4<5 by omega);have fz:=dC f;have e9:=Lu f;have V:=Lu (show wts (pre Par.mx a a.length)=.agg #[(pre Par.mx a a.length 0),(pre Par.mx a a.length 1),(pre Par.mx a a.length 2),(pre Par.mx a a.length 3),(pre Par.mx a a.length 4)] from rfl);generalize pre Par.mx a a.length 0=g0 at *
   generalize pre Par.mx a a.length 1=g1 at *
   generalize pre Par.mx a a.length 2=g2 at *
   generalize pre Par.mx a a.length 3=g3 at *
   generalize pre Par.mx a a.length 4=g4 at *
   obtain⟨W,q⟩:∃W,W=((((wr.setCell R (.int .i64 g0)).setCell ⟨R,1,Lw⟩ (.int .i64 g1)).setCell ⟨R,2,Lw⟩ (.int .i64 g2)).setCell ⟨R,3,Lw⟩ (.int .i64 g3)).setCell ⟨R,4,Lw⟩ (.int .i64 g4):=⟨_,rfl⟩;have z:W.heap[R]?=Lq (.cells #[g0,g1,g2,g3,g4] 101 (0,0)):=by
    rw[q,ar (ar (ar (ar (ar f))))];rfl
   have C:w.gb W Lw:=(HG.andThen I (by rintro j e;cases e;exact .inl (by have:=HA.out;omega))).andThen (row':=Lq R)
    (by rw[q];exact((((an _ _ _ _).t (an _ _ _ _)).t (an _ _ _ _)).t (an _ _ _ _)).t (an _ _ _ _)) (by rintro j e;cases e;exact .inl (by have:=HA.out;omega))
   have⟨X,a6,U⟩:=bL z C q;clear f h l s n z C q;go_wp2;rw[<- U,V];exact Ot (v:=.agg #[g0,g1,g2,g3,g4]) (by simp[Om,Tryz.results92,go_sem,Mz,X.out]) rfl ⟨rfl,a6⟩
def zw(p:Par)(load:LJ)(w:Lt) :MH Ya 160 #[.agg #[p.mn,p.mx,p.bears,p.tall],load] w λe a=>e=.returned (if p.bears<load then .iface 170 (.agg #[]) else .iface 171 (.agg #[]))/\w.gb a Lw:=by
 go_enter Tp.x160,Tryz.ntmps160;by_cases h:p.bears<load
 ·go_wp2;go_ret;exact⟨rfl,Lr _ _ _⟩
 ·go_wp2;go_ret;exact⟨rfl,Lr _ _ _⟩
def tot:Lx LJ->LJ
 | []=>0
 | a::t=>tot t+a
def loadAt(g:Ly->LJ)(l:Lx LJ)(i:Ly):LJ:=tot ((l.drop (i+1)).map λx=>g x.toNat)
def oZ(g:Ly->LJ)(l:Lx LJ)(i:Ly)(h:l.length<=i+1):loadAt g l i=0:=by
 unfold loadAt;rw[Pm h];rfl
def wZ(g:Ly->LJ)(l:Lx LJ)(i:Ly)(x:LJ)(h:l[i+1]?=Lq x):loadAt g l i=loadAt g l (i+1)+g x.toNat:=by
 unfold loadAt;have a:=(Md.1 h).1;rw[Oc a];have:l[i+1]=x:=(Md.1 h).2;simp[tot,this]
def Iw(l:Lx LJ)(h:∀x∈l,0<=x/\x<=1000):0<=tot l/\tot l<=1000*l.length:=by
 induction l with
 | nil=>simp[tot]
 | cons a t b=>
  have e:=b λx c=>h x (by simp[c]);have d:=h a (by simp);simp only[tot,LX];omega
def tH(g:Ly->LJ)(l:Lx LJ)(i:Ly)(a:∀i,0<=g i/\g i<=1000)(b:l.length<=1000):0<=loadAt g l i/\loadAt g l i<=1000000:=by
 have:=Iw ((l.drop (i+1)).map λx=>g x.toNat) (by simp only[Nt];rintro x ⟨y,-,rfl⟩;exact a _);simp only[On,Qn] at this;unfold loadAt;omega
def ldL(g:Ly->LJ)(l:Lx LJ):Lx LJ:=(Mr l.length).map (loadAt g l)
def fP(w:Lt)(O n:Ly)(f:Ly->LJ):Prop:=∃a,w.heap[O]?=Lq (.cells a 3 (0,0))/\a.size=n/\∀i,i<n->a[i]?=Lq (.int .i64 (f i))
def fP.lt{w:Lt}{O n:Ly}{f:Ly->LJ}(h:fP w O n f):O<w.heap.size:=by
 obtain⟨a,h,-⟩:=h;exact(Lz.1 h).1
def fP.cell{w:Lt}{O n i:Ly}{f:Ly->LJ}(h:fP w O n f)(a:i<n):w.cell? ⟨O,i,Lw⟩=Lq (.int .i64 (f i)):=by
 obtain⟨c,h,-,b⟩:=h;simp[Mz,h,b i a]
def fP.thaw{w:Lt}{O n:Ly}{f:Ly->LJ}(h:fP w O n f)(i:Ly):w.frozen? ⟨O,i,Lw⟩=LH:=by
 obtain⟨a,h,-⟩:=h;simp[Pw,h]
def fP.congr{w:Lt}{O n:Ly}{f g:Ly->LJ}(h:fP w O n f)(e:∀i,i<n->f i=g i):fP w O n g:=by
 obtain⟨d,h,b,c⟩:=h;exact⟨d,h,b,λi a=>by rw[c i a,e i a]⟩
def fP.set{w:Lt}{O n i:Ly}{f:Ly->LJ}{x:LJ}(h:fP w O n f)(d:i<n):fP (w.setCell ⟨O,i,Lw⟩ (.int .i64 x)) O n λj=>if j=i then x else f j:=by
 obtain⟨g,h,a,c⟩:=h;refine⟨_,ar h,by simp[a],λj b=>?_⟩;by_cases e:j=i
 ·subst e;simp[a,b]
 ·rw[My,if_neg (by omega),c j b];show _=Lq (Mp .i64 (if j=i then x else f j));rw[if_neg e]
def fP.kept{w d:Lt}{O n:Ly}{f:Ly->LJ}{row:LU Ly}(h:fP w O n f)(g:w.gb d row)(a:Lq O≠row:=by simp):fP d O n f:=by
 obtain⟨j,h,e,i⟩:=h;exact⟨j,blk g a h,e,i⟩
def fP.made(w:Lt)(n:Ly):fP (w.alloc (.cells (RP #[.int .i64 0] n) 3)) w.heap.size n λ_=>0:=by
 refine⟨_,LS w _,size_madeCells _ _,λi a=>?_⟩;unfold RP;simp[a,Nat.mod_one]
def fP.ints{w:Lt}{O n b a:Ly}{f:Ly->LJ}{l:Lx LJ}(h:fP w O n f)(k:b<=O)(j:O<a)(d:l.length=n)(q:n<=1000000)(e:∀i,i<n->l[i]?=Lq (f i)):ai b a w (.slice (Lq O) n n) l:=by
 obtain⟨o,h,p,g⟩:=h;subst d;exact⟨_,_,rfl,by omega,λ_=>⟨O,0,o,_,rfl,k,j,h,λi a=>by rw[Mn,g i a,e i a];rfl⟩⟩
def ai.laid(w:Lt)(l:Lx LJ)(n:Ly)(c:n=l.length)(d:l.length<=1000)(b:Ly × Ly:=(0,0))(a:Ly:=w.heap.size+1)(hhi:w.heap.size<a:=by omega) :ai w.heap.size a (w.alloc (.cells (l.map (Mp .i64)).toArray 3 b)) (.slice (Lq w.heap.size) n n) l:=by
 subst c;refine⟨_,_,rfl,by omega,λ_=>⟨w.heap.size,0,_,b,rfl,LC _,hhi,LS w _,λi a=>?_⟩⟩;simp[LO a]
def rh{w:Lt}{D n:Ly}{x v:LA}{o:SQ}{a:MN}(h:w.cell? a=Lq v)(b:a≠⟨D,n,Lw⟩):((w.setCell ⟨D,n,Lw⟩ x).alloc o).drew.cell? a=Lq v:=by
 have c:(w.setCell ⟨D,n,Lw⟩ x).cell? a=Lq v:=by rw[NL _ _ _ _ (Ne.symm b)];exact h
 exact(ak _ Lw).cl ((Lr _ o Lw).cell c (by simp))
def FU{q r:LJ}(h:0<=q/\q<=1000000)(b:0<=r/\r<=1000000):∀k,k<=[q,r].length->-1000000000<=nN ([q,r].take k)/\nN ([q,r].take k)<=1000000000:=by
 intro k a;obtain rfl | rfl | rfl:k=0\/k=1\/k=2:=by simp at a;omega
 all_goals simp[nN]
 all_goals omega
def qk(b c:Ly)(v:LA)(q r:LJ)(w:Lt)(d:ai b c w v [q,r])(h:0<=q/\q<=1000000)(f:0<=r/\r<=1000000) :MH Ya 145 #[v] w λe a=>e=.returned (.int .i64 (q+r))/\w=a:=by
 refine(FS b c v [q,r] w d (FU h f)).mono ?_;rintro e a ⟨rfl,rfl⟩;exact⟨by simp[nN],rfl⟩
def lh(lo H:Ly)(yv pv:LA)(l:Lx LJ)(g:Ly->LJ)(w:Lt)(hI:ai lo H w pv l)(k7:H<=w.heap.size)(y:∀x∈l,0<=x/\x<5)(hl:l.length<=1000)(hg:∀i,0<=g i/\g i<=1000)(Z:∃a b,yv=.agg #[a,b]) :MH Ya 91 #[yv,pv,wts g] w λe v=>∃v',e=.returned v'/\w.gb v Lw/\ai w.heap.size v.heap.size v v' (ldL g l):=by
 obtain⟨u,s,rfl⟩:=Z;obtain⟨base,l9,rfl,h8,hc⟩:=hI.cell;have L:∀w,(Tu 29 (.int .i64 l.length) (.int .i64 l.length)).run Ya w=.ok (.slice (Lq ⟨w.heap.size,0,Lw⟩) l.length l.length) (w.alloc (.cells (RP #[.int .i64 0] l.length) 3)):=λw=>by
  have:=run_make (P:=Ya) w 29 3 VV (.int .i64 0) (by rw[Tp.und];exact QC) (by rw[qb _ _ Tp.tables];exact Tryz.type3) rfl .i64 .i64 l.length l.length (by omega) (by omega) (by simp[VV];omega) (by omega);simpa[Value.cells,VV] using this
 have Q:=Lu L;unfold wts;go_enter Tp.x91,Tryz.ntmps91;go_upto_region 3 with(first | rw[Q]);obtain⟨A,O⟩:∃A,A=w.heap.size:=⟨_,rfl⟩;have f:w.gb (((w.alloc (.cells #[u,s] 91)).alloc (aR g)).alloc (.cells (RP #[.int .i64 0] l.length) 3)) Lw:=((Lr _ _ Lw).t (Lr _ _ Lw)).t (Lr _ _ Lw);have U:(((w.alloc (.cells #[u,s] 91)).alloc (aR g)).alloc (.cells (RP #[.int .i64 0] l.length) 3)).heap[A+1]?=Lq (aR g):=aD (by
  have:=LS (w.alloc (.cells #[u,s] 91)) (aR g);rw[Mc,<- O] at this;exact this)
 have W:fP (((w.alloc (.cells #[u,s] 91)).alloc (aR g)).alloc (.cells (RP #[.int .i64 0] l.length) 3)) (A+2) l.length λ_=>0:=by
  have:=fP.made ((w.alloc (.cells #[u,s] 91)).alloc (aR g)) l.length;rw[Mc,Mc,<- O] at this;exact this
 rw[<- O];show Code.wp _ _ _ _ (((w.alloc (.cells #[u,s] 91)).alloc (aR g)).alloc (.cells (RP #[.int .i64 0] l.length) 3));generalize ((w.alloc (.cells #[u,s] 91)).alloc (aR g)).alloc (.cells (RP #[.int .i64 0] l.length) 3)=w1 at f U W ⊢;obtain⟨D,X⟩:∃D,D=A+2:=⟨_,rfl⟩;obtain⟨V,hV⟩:∃V,V=A+1:=⟨_,rfl⟩;rw[show A+1+1=A+2 from rfl,<- X,<- hV];rw[<- X] at W;rw[<- hV] at U;have d6:=Lu (hI.kept f);have⟨HG,HW,HR,HA,HX,T⟩:=sr f U W O y hg;have b8:¬ V=D:=by omega
 have a8:H<=D/\A<=D:=by omega
 clear f U W O X hV hc hI y hg Q L;go_wp2;go_loopw [8] (λi wr=>∃k:LJ,i=.int .i64 k/\-2<=k/\k<l.length/\(0<=k->k+1<l.length)/\w1.gb wr (Lq D)/\fP wr D l.length λj=>if k<(j:LJ) then loadAt g l j else 0) (λi _=>(intOf i+1).toNat)
 case atStart=>
  refine⟨(l.length:LJ) - 2,rfl,by omega,by omega,by omega,Mf _ _,HR.congr λi H=>?_⟩;by_cases e:(l.length:LJ) - 2<i
  ·rw[if_pos e,oZ g l i (by omega)]
  ·rw[if_neg e]
 case round=>
  obtain⟨k,rfl,k6,k5,k0,f,p⟩:=hrel;by_cases g9:0<=k
  ·obtain⟨n,rfl⟩:∃n:Ly,k=n:=⟨k.toNat,by omega⟩;have I:n+1<l.length:=by omega
   have S:=d6.out.kept f (by rintro R e;cases e;exact .inr a8.1);obtain⟨c9,e7,he,-,d⟩:=S.cell;cases he;obtain⟨B,o,rfl,l8,l7,l6,N⟩:=d (by intro e;rw[e] at I;simp at I);have hp:=N (n+1) I;obtain⟨x,y⟩:∃x,l[n+1]?=Lq x:=⟨_,LO I⟩;have⟨g5,e9⟩:=HX.out x (Mh y);rw[y] at hp;simp only[LQ] at hp;obtain⟨m,rfl⟩:∃m:Ly,x=m:=⟨x.toNat,by omega⟩;have a7:m<5:=by omega
   have F:=blk f (by simp;omega) HW;have M:=aA F a7;have C:=p.cell (i:=n+1) I;have c:=wZ g l n m y;rw[if_pos (by omega)] at C;have b7:=tH g l (n+1) T hl;have b6:=T.out m;simp only[Pe] at c;have b0:=p.cell (i:=n) (by omega);have fz:=p.thaw n;have l5:=p.lt;have c8:¬ B=D:=by omega
   have l4:V<wr.heap.size:=(Lz.1 F).1;generalize loadAt g l (n+1)=q at C c b7;generalize g m=r at M c b6;have⟨d5,G,Y⟩:=bL c f p;generalize (if(n:LJ)<(n:LJ) then loadAt g l n else 0)=z at b0;clear f p F N d S y c;have g8:(n:LJ)+1<(l.length:LJ):=by omega
   have e4:0<=(n:LJ)+1:=by omega
   have g6:IntKind.i64.wrap ((n:LJ)+1)=(n:LJ)+1:=MI _ (by omega);have g7:((n:LJ)+1).toNat=n+1:=by omega
   have h:=Lu (Mm C (Mm hp M));go_upto_region 5 with(fail);go_region_held3 (λv=>v.cell? ⟨D,n+1,Lw⟩=Lq (.int .i64 q)/\v.cell? ⟨B,o+(n+1),Lw⟩=Lq (.int .i64 m)/\v.cell? ⟨V,m,Lw⟩=Lq (.int .i64 r))
    (first | exact h | exact⟨rh h.1 (by simp),rh h.2.1 (λe=>c8 (congrArg TM e)),rh h.2.2 (λe=>b8 (congrArg TM e))⟩ | go_keep)
    (first
     | (go_at_call 145;refine(qk _ _ _ q r _ (by exact ai.laid _ [q,r] 2 rfl (by simp)) (by omega) (by omega)).mono ?_;rintro e w2 ⟨rfl,rfl⟩))
   go_wp2;go_roundw
   case rel=>
    refine⟨(n:LJ) - 1,rfl,by omega,by omega,by omega,((G.t (an _ _ _ _)).t (Lr _ _ _)).t (ak _ _),?_⟩;refine((Y.set (i:=n) (x:=q+r) (by omega)).kept ((Lr _ _ Lw).t (ak _ _))).congr λj hj=>?_;have c:=d5.out;show(if j=n then q+r else if(n:LJ)<(j:LJ) then loadAt g l j else 0)=if(n:LJ) - 1<(j:LJ) then loadAt g l j else 0;by_cases e:j=n
    ·subst e;rw[if_pos rfl,if_pos (by omega),c]
    ·by_cases e2:(n:LJ)<j
     ·rw[if_neg e,if_pos e2,if_pos (by omega)]
     ·rw[if_neg e,if_neg e2,if_neg (by omega)]
   case measure=>simp[intOf]
  ·have G:=Lu f;have Y:=Lu p;clear f p;go_wp2;go_ret;have X:=HA.out;refine⟨_,rfl,HG.andThen G (by rintro j e;cases e;exact .inl (by omega)),Y.ints (by omega) Y.lt (by simp[ldL]) (by omega) λi H=>?_⟩;rw[if_pos (by omega)];simp[ldL,H]
def cF{w:Lt}{base b n:Ly}{e:LZ}{v:LA}{d:Lx LA}(h:w.ownsRow base e b v n d):∃a m c,v=.slice a m c:=by
 rcases h.2 with⟨rfl,_⟩ | ⟨g,i,f,rfl,_⟩<;>exact⟨_,_,_,rfl⟩
def Tp.info141p:(Ya.info? 141).map (λi=>(i.zero,i.size,i.bytes))=Lq (Lq .nilIface,1,16):=by kernel_rfl
def Tp.und138:Ya.underlying 138=Lq (.slice 141):=by rw[Tp.und];exact Tryz.underlying138
def gd(g:Ly->LJ)(l:Lx LJ):(ldL g l).length=l.length:=by simp[ldL]
def pV(g:Ly->LJ)(l:Lx LJ)(i:Ly)(h:i<l.length):(ldL g l)[i]?.getD 0=loadAt g l i:=by simp[ldL,h]
def rv(p:Par)(load:LJ):LZ:=if p.bears<load then 170 else 171
def EF(p:Par)(load:LJ):(if p.bears<load then Value.iface 170 (.agg #[]) else .iface 171 (.agg #[]))=.iface (rv p load) (.agg #[]):=by unfold rv;split<;>rfl
def ru(p:Par)(load:LJ):LA:=.iface (rv p load) (.agg #[])
def wJ{w:Lt}{b j a n:Ly}{e:LZ}{v:LA}{i:Lx LA}(h:w.ownsRow b e a v n i)(k:j<=b):w.ownsRow j e a v n i:=by
 obtain⟨l,c⟩:=h;refine⟨l,?_⟩;rcases c with c | ⟨g,f,d,q,p,o⟩
 ·exact .inl c
 ·exact .inr ⟨g,f,d,q,LN k p,o⟩
def ry(a:Lx Par)(g:Ly->LJ)(l:Lx LJ)(i:Ly):LA:=match a[(l[i]?.getD 0).toNat]? with | some p=>ru p (loadAt g l i) | none=>.nilIface
def gQ(a:Lx Par)(g:Ly->LJ)(l:Lx LJ):Lx LA:=(Mr l.length).map (ry a g l)
def xC(a:Lx Par)(g:Ly->LJ)(l:Lx LJ)(k:Ly)(h:k<l.length):(gQ a g l).take (k+1)=(gQ a g l).take k++[ry a g l k]:=by
 rw[Np];simp[gQ,h]
def Ca(lo I:Ly)(yv pv:LA)(b:Lx Par)(y:LJ)(l:Lx LJ)(g:Ly->LJ)(w:Lt)(hY:dh lo I w yv b y)(hI:ai lo I w pv l)(p4:I<=w.heap.size)(h5:b.length<=5)(C:∀x∈l,0<=x/\x<b.length)(hl:l.length<=1000)(hg:∀i,0<=g i/\g i<=1000) :MH Ya 126 #[yv,pv,wts g] w λe w'=>∃v',e=.returned v'/\w.gb w' Lw/\w'.ownsRow w.heap.size 141 1 v' l.length (gQ b g l):=by
 have⟨i0,b8,b7,b6,b0⟩:=Pd Tp.info141p;obtain⟨qv,rfl,hP⟩:=hY;obtain⟨yb,yc,rfl,m9,-⟩:=hP.cell;obtain⟨base,d6,rfl,n8,-⟩:=hI.cell;have⟨A,w1,hA,G,u,n,c,n6⟩:=de w (.cells #[.slice yb b.length yc,y] 91) (aR g);have S:=Lu (hI.kept u);have d8:=Lu (hP.kept u);have⟨HX,e5,d7,HA,U,q8⟩:=sr C hg G hA u n;have q0:=aa n (o:=0) rfl;have q1:=aa n (o:=1) rfl;have r0:=aA c (show 0<5 by omega);have r1:=aA c (show 1<5 by omega);have r2:=aA c (show 2<5 by omega);have r3:=aA c (show 3<5 by omega);have r4:=aA c (show 4<5 by omega);have p5:I<=A:=by omega
 clear hI hP C hg G hA u n c;unfold wts;go_enter Tp.x126,Tryz.ntmps126;go_upto_region 2 with(fail);rw[<- HA,show(w.alloc (.cells #[.slice yb b.length yc,y] 91)).alloc (.cells #[(g 0),(g 1),(g 2),(g 3),(g 4)] 101)=w1 from d7.symm];go_wp2_with (go_at_call 91;(refine(lh lo I _ _ l g _ S (by omega) (by intro x C;have:=HX.out x C;omega) hl e5 ⟨_,_,rfl⟩).mono ?_);rintro e V ⟨lv,rfl,O,s⟩;have h:=s.cell;rw[gd] at h;obtain⟨lb,lc,rfl,-,h⟩:=h;have e8:=Lu h;clear h;have q:=Lu O;have q6:=Lu s;clear O s);have Z:=q.out.cl q0;have n4:=q.out.size;clear r0 r1 r2 r3 r4 q0 q1;go_loopw [7,15] (λov iv wr=>∃k:Ly,iv=.int .i64 k/\k<=l.length/\V.gb wr Lw/\wr.ownsRow V.heap.size 141 1 ov k ((gQ b g l).take k)) (λ_ iv _=>(l.length - intOf iv).toNat)
 case atStart=>exact⟨0,rfl,by omega,Mf _ _,OF _ _ _ _⟩
 case round=>
  obtain⟨k,rfl,hk,F,X⟩:=hrel;obtain⟨oa,om,oc,rfl⟩:=cF X;have⟨HG,HO⟩:=aS F X;have m5:=F.cl Z;have n3:=F.size;by_cases a:k<l.length
  ·have R:=(S.kept q).kept F;have Q:=(d8.kept q).kept F;obtain⟨b1,c1,he,-,W⟩:=R.cell;cases he;obtain⟨B,o,rfl,n,q5,q4,P⟩:=W (by intro e;rw[e] at a;simp at a);have C:=P k a;obtain⟨x,r⟩:∃x,l[k]?=Lq x:=⟨_,LO a⟩;have⟨n2,z⟩:=HX.out x (Mh r);rw[r] at C;simp only[LQ] at C;obtain⟨m,rfl⟩:∃m:Ly,x=m:=⟨x.toNat,by omega⟩;obtain⟨b2,c2,he,-,W⟩:=Q.cell;cases he;obtain⟨YB,yo,rfl,p8,p7,p6,M⟩:=W (by intro e;rw[e] at z;simp at z;omega);have⟨p,hp,p0,p1,p2,p3⟩:=M m (by omega);obtain⟨LB,m7,rfl,q3,s,q2,N⟩:=e8.out (by intro e;have:=gd g l;rw[e] at this;simp at this;omega);have H:=HG.out.cl (N k a);rw[pV g l k a] at H;have L:Hid (ry b g l k=ru p (loadAt g l k)):=Lu (by unfold ry;rw[r];simp[hp]);have n7:(m:LJ)<(b.length:LJ):=z;generalize loadAt g l k=ld at H L;clear F X R Q W P M N r hp;go_wp2;go_region_law
    (first
     | (go_simp;go_at_call 160;refine(zw p ld _).mono ?_;rintro e Y ⟨rfl,D⟩;rw[EF];have a8:=D.size;have T:=Lu ((ak wr Lw).t D);clear D)
     | (refine step_append_lies _ (by rfl) _ _ _ (by rfl) V.heap.size 141 i0 _ 1 16 Tp.und138 b8 b7 b6 b0 rfl (by omega) (.slice oa om oc) k ((gQ b g l).take k) (by rfl) (by exact(HO.kept T (by cases(MU oa om oc).ownBlock<;>simp)).alloc _) ⟨Y.heap.size,0,Lw⟩ 1 1 [.iface (rv p ld) (.agg #[])] (by rfl) (by rfl) (Of (cs:=#[.iface (rv p ld) (.agg #[])]) (t:=141) (fr:=(0,0)) (LS Y _)) (by simp[OV]) (by omega) (by unfold Qe;omega) (by omega) (by simp at a8 ⊢;omega) (Y.heap.size+1) (by simp) ?_;intro gg d6 w5 d f c8 b9;have d9:=Lu d;have e6:=Lu f;clear d f c8 b9))
   all_goals
    have v:V.gb w5 Lw:=((HG.t T).t (Lr _ _ Lw)).andThen e6 (λj e=>.inl (HO.lt j e).1);have HF:=Lu v;clear v;go_wp2;go_roundw
    case rel=>
     refine⟨k+1,by simp,by omega,HF,?_⟩;rw[xC b g l k a,L];exact d9
    case measure=>simp[intOf];omega
  ·obtain rfl:k=l.length:=by omega
   clear F X;go_wp2;go_ret;have h0:=HO.out;rw[show(gQ b g l).take l.length=gQ b g l from Uv (by simp[gQ])] at h0;refine⟨_,rfl,(U.t q).t HG,?_⟩;exact wJ h0 (by have:=U.out.size;omega)
def oh{w:Lt}{base n:Ly}{e:LZ}{v:LA}{b:Lx LA}(h:w.ownsRow base e 1 v n b) :∃a c,v=.slice a n c/\(0<n->∃g,a=Lq ⟨g,0,Lw⟩/\base<=g/\g<w.heap.size/\∀i,i<n->w.cell? ⟨g,i,Lw⟩=b[i]?):=by
 rcases h.2 with⟨rfl,j⟩ | ⟨g,l,k,rfl,f,d,o⟩
 ·exact⟨_,_,by rw[j],λp=>by omega⟩
 ·exact⟨_,_,rfl,λ_=>⟨g,rfl,f,(Lz.1 d).1,λi q=>h.cellAt i (by omega)⟩⟩
@[simp] theorem ta170(w:Lt):(PQ (.iface 170 (.agg #[])) 141 170 LG).run Ya w=.ok (.tuple #[.agg #[],.bool LG]) w:=by kernel_rfl
@[simp] theorem KO(w:Lt):(PQ (.iface 171 (.agg #[])) 141 170 LG).run Ya w=.ok (.tuple #[.agg #[],.bool LH]) w:=by kernel_rfl
@[simp] theorem ta171(w:Lt):(PQ (.iface 171 (.agg #[])) 141 171 LG).run Ya w=.ok (.tuple #[.agg #[],.bool LG]) w:=by kernel_rfl
def uG(a:Lx Par)(g:Ly->LJ)(l:Lx LJ)(i:Ly):MC:=match a[(l[i]?.getD 0).toNat]? with | some p=>decide (loadAt g l i<=p.bears) | none=>LH
def aL(a:Lx Par)(g:Ly->LJ)(l:Lx LJ):MC:=(Mr l.length).all (uG a g l)
def gG(H j:Ly)(W Y:LA)(a:Lx Par)(c:LJ)(l:Lx LJ)(g:Ly->LJ)(w:Lt)(hY:dh H j w W a c)(Q:ai H j w Y l)(e5:j<=w.heap.size)(h5:a.length<=5)(Z:∀x∈l,0<=x/\x<a.length)(hl:l.length<=1000)(hg:∀i,0<=g i/\g i<=1000) :MH Ya 96 #[W,Y,wts g] w λe w'=>e=.returned (.bool (aL a g l))/\w.gb w' Lw:=by
 obtain⟨qv,rfl,P⟩:=hY;obtain⟨N,M,rfl,d5,-⟩:=P.cell;obtain⟨base,g5,rfl,d9,-⟩:=Q.cell;have⟨A,X,hA,y,q,v,d,d8⟩:=de w (.cells #[.slice N a.length M,c] 91) (aR g);have T:=Lu (Q.kept q);have R:=Lu (show dh H j X (.agg #[.slice N a.length M,c]) a c from⟨_,rfl,P.kept q⟩);have⟨HX,U,S,HA,G⟩:=oC Z hg y hA q;have q0:=aa v (o:=0) rfl;have q1:=aa v (o:=1) rfl;have r0:=aA d (show 0<5 by omega);have r1:=aA d (show 1<5 by omega);have r2:=aA d (show 2<5 by omega);have r3:=aA d (show 3<5 by omega);have r4:=aA d (show 4<5 by omega);have e6:j<=A:=by omega
 clear Q P Z hg y hA q v d;unfold wts;go_enter Tp.x96,Tryz.ntmps96;go_upto_region 1 with(fail);rw[<- HA,show(w.alloc (.cells #[.slice N a.length M,c] 91)).alloc (.cells #[(g 0),(g 1),(g 2),(g 3),(g 4)] 101)=X from S.symm];go_wp2_with (go_at_call 126;refine(Ca H j _ _ a c l g _ R T (by omega) h5 HX hl U).mono ?_;rintro e w2 ⟨lv,rfl,C,u⟩;obtain⟨lb,lc,rfl,B⟩:=oh u;have F:=Lu C;have V:=Lu B;clear C u B);clear r0 r1 r2 r3 r4 q0 q1;go_loopw [14] (λO wr=>∃k:Ly,O=.int .i64 k/\k<=l.length/\(∀i,i<k->uG a g l i=LG)/\w2=wr) (λO _=>(l.length - intOf O).toNat)
 case atStart=>exact⟨0,rfl,by omega,λi j=>absurd j (by omega),rfl⟩
 case round=>
  obtain⟨k,rfl,hk,b,rfl⟩:=hrel;have D:=Lu b;clear b;by_cases n:k<l.length
  ·obtain⟨LB,rfl,e8,u,s⟩:=V.out (by omega);have r:=s k n;obtain⟨x,f⟩:∃x,l[k]?=Lq x:=⟨_,LO n⟩;have⟨d7,d6⟩:=HX.out x (Mh f);obtain⟨p,I⟩:∃p,a[x.toNat]?=Lq p:=⟨_,LO (by omega)⟩;have b:uG a g l k=decide (loadAt g l k<=p.bears):=by unfold uG;rw[f];simp[I]
   rw[show(gQ a g l)[k]?=Lq (ru p (loadAt g l k)) by simp only[gQ,NO,Qh n,Ng,ry,f,LQ,I]] at r;by_cases L:p.bears<loadAt g l k
   ·rw[show ru p (loadAt g l k)=.iface 170 (.agg #[]) by simp[ru,rv,L]] at r;have z:Hid (aL a g l=LH):=Lu (by
     have:uG a g l k=LH:=by rw[b];simp;omega
     unfold aL;rw[Bool.eq_false_iff];intro h;rw[MD] at h;have:=h k (by simp[n])
     simp_all)
    clear s b I f L;go_wp2;go_ret;exact⟨by rw[z];rfl,G.t F⟩
   ·rw[show ru p (loadAt g l k)=.iface 171 (.agg #[]) by simp[ru,rv,L]] at r;have z:Hid (uG a g l k=LG):=Lu (by rw[b];simp;omega);clear s b I f L;go_wp2;go_roundw
    case rel=>
     refine⟨k+1,by simp,by omega,λi j=>?_,by first | rfl | trivial⟩;by_cases e:i=k
     ·rw[e];exact z
     ·exact D i (by omega)
    case measure=>simp[intOf];omega
  ·obtain rfl:k=l.length:=by omega
   have z:Hid (aL a g l=LG):=Lu (by
    unfold aL;rw[MD];intro i j;exact D i (by simpa using j))
   go_wp2;go_ret;exact⟨by rw[z];rfl,G.t F⟩
def dK(x a b:LJ)(w:Lt)(f:a<=x)(d:x<=b) :MH Ya 110 #[x,a,b] w λe c=>e=.returned (.bool LG)/\w=c:=by
 go_enter Tp.x110,Vw;go_wp2;go_ret;exact⟨rfl,rfl⟩
def fD(x a b:LJ)(w:Lt)(c:¬ (a<=x/\x<=b)) :MH Ya 110 #[x,a,b] w λe d=>e=.returned (.bool LH)/\w=d:=by
 by_cases f:a<=x
 ·have g:¬ x<=b:=λh=>c ⟨f,h⟩;clear c;go_enter Tp.x110,Vw;go_wp2;go_ret;exact⟨rfl,rfl⟩
 ·clear c;go_enter Tp.x110,Vw;go_wp2;go_ret;exact⟨rfl,rfl⟩
def pL(p:Par):LJ:=if 1<=p.mn/\p.mn<=12 then if 1<=p.mx/\p.mx<=12 then if p.mx<p.mn then 5 else if 0<=p.bears/\p.bears<=30 then if 1<=p.tall/\p.tall<=3 then 0 else 1 else 1 else 1 else 1
def vg(a b c d:LJ)(w:Lt)(h:¬ (1<=a/\a<=12)) :MH Ya 109 #[.agg #[a,b,c,d]] w λe f=>e=.returned (.int .i64 1)/\w.gb f Lw:=by
 have g:=Lu h;clear h;go_enter Tp.x109,Sd;go_wp2_with (first
  | (go_at_call 110;refine(dK _ _ _ _ (by have:=g.out;omega) (by have:=g.out;omega)).mono ?_;rintro e f ⟨rfl,rfl⟩)
  | (go_at_call 110;(refine(fD _ _ _ _ (by have:=g.out;omega)).mono ?_);rintro e f ⟨rfl,rfl⟩))
 go_ret;exact⟨rfl,Lr _ _ _⟩
def vf(a b c d:LJ)(w:Lt)(i:1<=a/\a<=12)(h:¬ (1<=b/\b<=12)) :MH Ya 109 #[.agg #[a,b,c,d]] w λe f=>e=.returned (.int .i64 1)/\w.gb f Lw:=by
 have g:=Lu (Mm i h);clear i h;go_enter Tp.x109,Sd;go_wp2_with (first
  | (go_at_call 110;refine(dK _ _ _ _ (by have:=g.out;omega) (by have:=g.out;omega)).mono ?_;rintro e f ⟨rfl,rfl⟩)
  | (go_at_call 110;(refine(fD _ _ _ _ (by have:=g.out;omega)).mono ?_);rintro e f ⟨rfl,rfl⟩))
 go_ret;exact⟨rfl,Lr _ _ _⟩
def ve(a b c d:LJ)(w:Lt)(i:1<=a/\a<=12)(h:1<=b/\b<=12)(j:b<a) :MH Ya 109 #[.agg #[a,b,c,d]] w λe f=>e=.returned (.int .i64 5)/\w.gb f Lw:=by
 have g:=Lu (Mm i (Mm h j));clear i h;go_enter Tp.x109,Sd;go_wp2_with (first
  | (go_at_call 110;refine(dK _ _ _ _ (by have:=g.out;omega) (by have:=g.out;omega)).mono ?_;rintro e f ⟨rfl,rfl⟩)
  | (go_at_call 110;(refine(fD _ _ _ _ (by have:=g.out;omega)).mono ?_);rintro e f ⟨rfl,rfl⟩))
 go_ret;exact⟨rfl,Lr _ _ _⟩
def vd(a b c d:LJ)(w:Lt)(j:1<=a/\a<=12)(i:1<=b/\b<=12)(k:¬ b<a)(h:¬ (0<=c/\c<=30)) :MH Ya 109 #[.agg #[a,b,c,d]] w λe f=>e=.returned (.int .i64 1)/\w.gb f Lw:=by
 have g:=Lu (Mm j (Mm i (Mm k h)));clear j i h;go_enter Tp.x109,Sd;go_wp2_with (first
  | (go_at_call 110;refine(dK _ _ _ _ (by have:=g.out;omega) (by have:=g.out;omega)).mono ?_;rintro e f ⟨rfl,rfl⟩)
  | (go_at_call 110;(refine(fD _ _ _ _ (by have:=g.out;omega)).mono ?_);rintro e f ⟨rfl,rfl⟩))
 go_ret;exact⟨rfl,Lr _ _ _⟩
def uZ(a b c d:LJ)(w:Lt)(k:1<=a/\a<=12)(j:1<=b/\b<=12)(l:¬ b<a)(i:0<=c/\c<=30)(h:¬ (1<=d/\d<=3)) :MH Ya 109 #[.agg #[a,b,c,d]] w λe f=>e=.returned (.int .i64 1)/\w.gb f Lw:=by
 have g:=Lu (Mm k (Mm j (Mm l (Mm i h))));clear k j i h;go_enter Tp.x109,Sd;go_wp2_with (first
  | (go_at_call 110;refine(dK _ _ _ _ (by have:=g.out;omega) (by have:=g.out;omega)).mono ?_;rintro e f ⟨rfl,rfl⟩)
  | (go_at_call 110;(refine(fD _ _ _ _ (by have:=g.out;omega)).mono ?_);rintro e f ⟨rfl,rfl⟩))
 go_ret;exact⟨rfl,Lr _ _ _⟩
def uY(a b c d:LJ)(w:Lt)(k:1<=a/\a<=12)(j:1<=b/\b<=12)(l:¬ b<a)(i:0<=c/\c<=30)(h:1<=d/\d<=3) :MH Ya 109 #[.agg #[a,b,c,d]] w λe f=>e=.returned (.int .i64 0)/\w.gb f Lw:=by
 have g:=Lu (Mm k (Mm j (Mm l (Mm i h))));clear k j i h;go_enter Tp.x109,Sd;go_wp2_with (first
  | (go_at_call 110;refine(dK _ _ _ _ (by have:=g.out;omega) (by have:=g.out;omega)).mono ?_;rintro e f ⟨rfl,rfl⟩)
  | (go_at_call 110;(refine(fD _ _ _ _ (by have:=g.out;omega)).mono ?_);rintro e f ⟨rfl,rfl⟩))
 go_ret;exact⟨rfl,Lr _ _ _⟩
def jW(p:Par)(w:Lt):MH Ya 109 #[.agg #[p.mn,p.mx,p.bears,p.tall]] w λe g=>e=.returned (.int .i64 (pL p))/\w.gb g Lw:=by
 unfold pL;by_cases a:1<=p.mn/\p.mn<=12
 ·by_cases b:1<=p.mx/\p.mx<=12
  ·by_cases c:p.mx<p.mn
   ·rw[if_pos a,if_pos b,if_pos c];exact ve _ _ _ _ w a b c
   ·by_cases d:0<=p.bears/\p.bears<=30
    ·by_cases f:1<=p.tall/\p.tall<=3
     ·rw[if_pos a,if_pos b,if_neg c,if_pos d,if_pos f];exact uY _ _ _ _ w a b c d f
     ·rw[if_pos a,if_pos b,if_neg c,if_pos d,if_neg f];exact uZ _ _ _ _ w a b c d f
    ·rw[if_pos a,if_pos b,if_neg c,if_neg d];exact vd _ _ _ _ w a b c d
  ·rw[if_pos a,if_neg b];exact vf _ _ _ _ w a b
 ·rw[if_neg a];exact vg _ _ _ _ w a
def bX(b:Lx Par)(a:LJ):LJ:=if 5<b.length then 6 else match b.find? (λp=>decide (pL p≠0)) with
 | some p=>pL p
 | none=>if 1<=a/\a<=12 then 0 else 1
def uP{Y:Type}(q:Y->MC)(l:Lx Y)(k:Ly)(x:Y)(h:l[k]?=Lq x)(e:q x=LG)(b:∀(i:Ly) (y:Y),i<k->l[i]?=Lq y->q y=LH):l.find? q=Lq x:=by
 induction l generalizing k with
 | nil=>simp at h
 | cons a t c=>
  cases k with
  | zero=>simp at h;subst h;simp[e]
  | succ k=>
   rw[List.find?_cons_of_neg (by rw[b 0 a (by omega) (by simp)];simp)];exact c k (by simpa using h) (λi y f d=>b (i+1) y (by omega) (by simpa using d))
def pY{Y:Type}(q:Y->MC)(l:Lx Y)(c:∀(i:Ly) (y:Y),l[i]?=Lq y->q y=LH):l.find? q=Lw:=by
 rw[Qt];intro x a;have⟨i,b⟩:=Tt a;rw[c i x b];simp
def oL(lo j:Ly)(T:LA)(b:Lx Par)(a:LJ)(w:Lt)(hY:dh lo j w T b a)(b9:j<=w.heap.size) :MH Ya 52 #[T] w λe N=>e=.returned (.int .i64 (bX b a))/\w.gb N Lw:=by
 obtain⟨qv,rfl,I⟩:=hY;obtain⟨Y,X,rfl,b8,-⟩:=I.cell;by_cases L:5<b.length
 ·have f:=Lu (show bX b a=6 by unfold bX;rw[if_pos L]);have Q:(5:LJ)<b.length:=by omega
  clear I;go_enter Tp.x52,XJ;go_wp2;go_ret;exact⟨by rw[f];rfl,Lr _ _ _⟩
 ·have⟨A,w1,W,v,l,n⟩:=fg w (.cells #[.slice Y b.length X,a] 24);have S:=Lu (I.kept l);have⟨R,HA,s⟩:=bL v W l;have q0:=aa n (o:=0) rfl;have q1:=aa n (o:=1) rfl;have Q:¬ (5:LJ)<b.length:=by omega
  clear I v W l n;go_enter Tp.x52,XJ;go_upto_region 1 with(fail);rw[<- HA,<- R];go_wp2;go_loopw [13] (λO wr=>∃k:Ly,O=.int .i64 k/\k<=b.length/\(∀i p,i<k->b[i]?=Lq p->pL p=0)/\w1.gb wr Lw) (λO _=>(b.length - intOf O).toNat)
  case atStart=>exact⟨0,rfl,by omega,λi p j=>absurd j (by omega),Mf _ _⟩
  case round=>
   obtain⟨k,rfl,hk,x,D⟩:=hrel;have⟨d,M⟩:=aS x D;have F:=S.out.kept D;have b0:=D.cl q0;have a7:=D.cl q1;clear x D;by_cases B:k<b.length
   ·obtain⟨b2,c2,he,-,V⟩:=F.cell;cases he;obtain⟨YB,yo,rfl,d5,c9,c8,C⟩:=V (by intro e;rw[e] at B;simp at B);have⟨p,U,p0,p1,p2,p3⟩:=C k (by omega);have G:=Lu U;clear V C U F;by_cases H:pL p=0
    ·go_wp2_with (go_at_call 109;refine(jW p _).mono ?_;rintro e Z ⟨rfl,c⟩;rw[H];have r:=Lu c;clear c);go_roundw
     case rel=>
      refine⟨k+1,by simp,by omega,λi q j P=>?_,(M.t (Lr _ _ _)).t r⟩;by_cases e:i=k
      ·subst e;rw[G] at P;cases P;exact H
      ·exact d i q (by omega) P
     case measure=>simp[intOf];omega
    ·have f:=Lu (show bX b a=pL p by
      unfold bX;rw[if_neg L,uP _ b k p G (by simp[H]) (λi y j h=>by simp[d.out i y j h])])
     obtain⟨z,g⟩:∃z,pL p=z:=⟨_,rfl⟩;rw[g] at H f;have HZ:=Lu g;clear g;go_wp2_with (go_at_call 109;refine(jW p _).mono ?_;rintro e Z ⟨rfl,c⟩;rw[HZ];have r:=Lu c;clear c);go_ret;exact⟨by rw[f];rfl,((s.t M).t (Lr _ _ _)).t r⟩
   ·obtain rfl:k=b.length:=by omega
    by_cases u:1<=a/\a<=12
    ·have f:=Lu (show bX b a=0 by
      unfold bX;rw[if_neg L,pY _ b (λi y h=>by simp[d.out i y (Md.1 h).1 h])];exact if_pos u)
     go_wp2_with (go_at_call 110;refine(dK _ _ _ _ u.1 u.2).mono ?_;rintro e N ⟨rfl,rfl⟩);go_ret;exact⟨by rw[f];rfl,s.t M⟩
    ·have f:=Lu (show bX b a=1 by
      unfold bX;rw[if_neg L,pY _ b (λi y h=>by simp[d.out i y (Md.1 h).1 h])];exact if_neg u)
     have HL:=Lu u;clear u;go_wp2_with (go_at_call 110;refine(fD _ _ _ _ HL).mono ?_;rintro e N ⟨rfl,rfl⟩);go_ret;exact⟨by rw[f];rfl,s.t M⟩
def Fi:∀m:Fin 32,∀n:Fin 5,(Ut .and .u8 (m.1:LJ) ((2 ^ n.1:Ly):LJ) != 0)=m.1.testBit n.1:=by decide
def Hp:∀m:Fin 32,∀n:Fin 5,Ut .or .u8 (m.1:LJ) ((2 ^ n.1:Ly):LJ)=((m.1 ||| 2 ^ n.1:Ly):LJ):=by decide
@[simp] theorem KN(w:Lt):(Sr 205 (.agg #[.int .u8 1,.int .u8 2,.int .u8 4,.int .u8 8,.int .u8 16]) (.int .i64 0)).run Ya w=.ok (.int .u8 1) w:=by kernel_rfl
@[simp] theorem KM(w:Lt):(Sr 205 (.agg #[.int .u8 1,.int .u8 2,.int .u8 4,.int .u8 8,.int .u8 16]) (.int .i64 1)).run Ya w=.ok (.int .u8 2) w:=by kernel_rfl
@[simp] theorem KL(w:Lt):(Sr 205 (.agg #[.int .u8 1,.int .u8 2,.int .u8 4,.int .u8 8,.int .u8 16]) (.int .i64 2)).run Ya w=.ok (.int .u8 4) w:=by kernel_rfl
@[simp] theorem KJ(w:Lt):(Sr 205 (.agg #[.int .u8 1,.int .u8 2,.int .u8 4,.int .u8 8,.int .u8 16]) (.int .i64 3)).run Ya w=.ok (.int .u8 8) w:=by kernel_rfl
@[simp] theorem KI(w:Lt):(Sr 205 (.agg #[.int .u8 1,.int .u8 2,.int .u8 4,.int .u8 8,.int .u8 16]) (.int .i64 4)).run Ya w=.ok (.int .u8 16) w:=by kernel_rfl
def jO(n:Ly)(w:Lt)(h:n<5):MH Ya 153 #[n] w λe a=>e=.returned (.int .u8 ((2 ^ n:Ly):LJ))/\w=a:=by
 obtain rfl | rfl | rfl | rfl | rfl:n=0\/n=1\/n=2\/n=3\/n=4:=by omega
 all_goals
  go_enter Tp.x153,Tryz.ntmps153;go_wp2;go_ret;exact⟨rfl,rfl⟩
def pX(m n:Ly)(w:Lt)(hm:m<32)(h:n<5):MH Ya 129 #[.int .u8 m,n] w λe b=>e=.returned (.bool (m.testBit n))/\w=b:=by
 have a:=Fi ⟨m,hm⟩ ⟨n,h⟩;simp only at a;have f:=Lu a;clear a;obtain⟨z,c⟩:∃z:LJ,((2 ^ n:Ly):LJ)=z:=⟨_,rfl⟩;have d:=Lu c;clear c;go_enter Tp.x129,Tryz.ntmps129;go_wp2_with (go_at_call 153;refine(jO n _ h).mono ?_;rintro e b ⟨rfl,rfl⟩;rw[d]);go_ret;exact⟨by rw[<- f,d];rfl,rfl⟩
def mE(m n:Ly)(w:Lt)(hm:m<32)(h:n<5):MH Ya 151 #[.int .u8 m,n] w λe b=>e=.returned (.int .u8 ((m ||| 2 ^ n:Ly):LJ))/\w=b:=by
 have a:=Hp ⟨m,hm⟩ ⟨n,h⟩;simp only at a;have f:=Lu a;clear a;obtain⟨z,c⟩:∃z:LJ,((2 ^ n:Ly):LJ)=z:=⟨_,rfl⟩;have d:=Lu c;clear c;go_enter Tp.x151,Tryz.ntmps151;go_wp2_with (go_at_call 153;refine(jO n _ h).mono ?_;rintro e b ⟨rfl,rfl⟩;rw[d]);go_ret;exact⟨by rw[<- f,d];rfl,rfl⟩
def qO(k:LJ)(w:Lt):MH Ya 162 #[.bool LG,k] w λe a=>e=.returned (.tuple #[])/\w=a:=by
 go_enter Tp.x162,Xo;go_wp2;go_end0;exact⟨rfl,rfl⟩
def rK(p:MN)(w:Lt) :CallsD Ya 161 #[.pointer (Lq p)] .returning w λe d c=>e=.returned (.tuple #[])/\d=.returning/\c=w.alloc (.cells #[.int .i64 0] 181):=by
 have a:∀w,(PQ .nilIface 20 181 LG).run Ya w=.ok (.tuple #[.agg #[.int .i64 0],.bool LH]) w:=λw=>by kernel_rfl
 refine callsD_of_wpS Tp.x161 rfl λc₀ f b=>?_;apply XK;apply Uw;simp[XL,go_sem,Xb,b,Ub,Exit.thenS,a];apply XK;apply Uw;simp[XL,go_sem,Xb,b,Ub,Exit.thenS];refine wpS_cond (t:=LH) (by simp[Act.eval,MR]) ?_;simp only[Mx,if_false];refine wpS_of_wp (wp_skip ?_);cases c₀
 simp_all [bodyPostS,Om,WJ]
def lx(B:Ly)(x k:LJ)(a:Lx QU)(w:Lt)(d:w.heap[B]?=Lq (.cells #[x] 40 (0,0))) :CallsD Ya 161 #[.pointer (Lq B)] (.panicking ({ v:=.iface 181 (.agg #[k]),recovered:=LH }::a)) w λe g f =>e=.returned (.tuple #[])/\g=.panicking ({ v:=.iface 181 (.agg #[k]),recovered:=LG }::a)/\f=(w.alloc (.cells #[k] 181)).setCell B (.int .i64 k):=by
 have b:∀w,(PQ (.iface 181 (.agg #[k])) 20 181 LG).run Ya w=.ok (.tuple #[.agg #[k],.bool LG]) w:=λw=>by kernel_rfl
 have i:=aa (aD (p:=.cells #[k] 181) d) (o:=0) rfl;have h:=aB (aD (p:=.cells #[k] 181) d) (o:=0);refine callsD_of_wpS Tp.x161 rfl λc₀ j c=>?_;apply XK;apply Uw;simp[XL,go_sem,Xb,c,Ub,Exit.thenS,b];apply XK;apply Uw;simp[XL,go_sem,Xb,c,Ub,Exit.thenS];refine wpS_cond (t:=LG) (by simp[Act.eval,MR]) ?_;simp only[if_true];apply Uw;simp[XL,go_sem,i,h,bodyPostS,Om,WJ]
def uJ(k:LJ)(w:Lt):MH Ya 162 #[.bool LH,k] w λe b=>e=.panicked [{ v:=.iface 181 (.agg #[k]),recovered:=LH }]/\w=b:=by
 have a:∀(x:MC) (w:Lt),(Op.unary .not (.bool x)).run Ya w=.ok (.bool (!x)) w:=λ_ _=>rfl;go_enter Tp.x162,Xo;go_wp2;exact⟨rfl,rfl,rfl⟩
def aP(l:Lx LJ):Ly:=l.foldl (λm x=>m ||| 2 ^ x.toNat) 0
def ox(l:Lx LJ)(k:Ly)(x:LJ)(h:l[k]?=Lq x):aP (l.take (k+1))=aP (l.take k) ||| 2 ^ x.toNat:=by
 rw[Np,h];simp[aP]
def ir(l:Lx LJ)(n:Ly)(h:∀x∈l,x.toNat<n):aP l<2 ^ n:=by
 unfold aP;have b:∀(l:Lx LJ) (m:Ly),m<2 ^ n->(∀x∈l,x.toNat<n)->l.foldl (λm x=>m ||| 2 ^ x.toNat) m<2 ^ n:=by
  intro l;induction l with
  | nil=>exact λm hm _=>hm
  | cons a t e=>exact λm hm d=>e _ (Nat.or_lt_two_pow hm (Nat.pow_lt_pow_right (by omega) (d a (by simp)))) λx c=>d x (by simp[c])
 exact b l 0 (Nat.two_pow_pos n) h
def da(l:Lx LJ)(b:Ly):(aP l).testBit b=LG↔∃x∈l,x.toNat=b:=by
 unfold aP;have c:∀(l:Lx LJ) (m:Ly),(l.foldl (λm x=>m ||| 2 ^ x.toNat) m).testBit b=LG↔m.testBit b=LG\/∃x∈l,x.toNat=b:=by
  intro l;induction l with
  | nil=>simp
  | cons a t d=>
   intro m;simp only[OI,d,Nat.testBit_or,OH,Nat.testBit_two_pow,decide_eq_true_eq,MK,exists_eq_or_imp];constructor
   ·rintro((h | h) | h)
    ·exact .inl h
    ·exact .inr (.inl h)
    ·exact .inr (.inr h)
   ·rintro(h | h | h)
    ·exact .inl (.inl h)
    ·exact .inl (.inr h)
    ·exact .inr h
 rw[c l 0];simp
def dQ(a:Lx Par)(x:LJ):LJ:=match a[x.toNat]? with | some p=>p.tall | none=>0
def aV(a:Lx Par)(l:Lx LJ):LJ:=(l.map (dQ a)).foldl (·+·) 0
def qi(a:Lx Par)(l:Lx LJ)(k:Ly)(x:LJ)(h:l[k]?=Lq x):aV a (l.take (k+1))=aV a (l.take k)+dQ a x:=by
 rw[Np,h];simp[aV]
def xS(b:Lx Par)(a:LJ)(l:Lx LJ):LJ:=if aV b l<=a then 0 else 10
def iD(lo hi:Ly)(yv pv:LA)(a:Lx Par)(b:LJ)(l:Lx LJ)(w:Lt)(hY:dh lo hi w yv a b)(hI:ai lo hi w pv l)(n8:hi<=w.heap.size)(h5:a.length<=5)(P:∀x∈l,0<=x/\x<a.length)(G:l.Nodup)(ht:∀p∈a,0<=p.tall/\p.tall<=1000)(k5:l.length<=100) :MH Ya 133 #[yv,pv] w λe u=>e=.returned (.int .i64 (xS a b l))/\w.gb u Lw:=by
 have n6:∀(fn:Fn) (first I:LM LA) (w:Lt),(Xc fn first I).run Ya w=.ok (.func fn first I) w:=λ_ _ _ _=>rfl;have k0:∀(x:MC) (w:Lt),(Op.unary .not (.bool x)).run Ya w=.ok (.bool (!x)) w:=λ_ _=>rfl;obtain⟨qv,rfl,hP⟩:=hY;obtain⟨yb,yc,rfl,m6,-⟩:=hP.cell;obtain⟨base,I,rfl,n7,-⟩:=hI.cell;have⟨A,w1,hA,Q,r,s,V,b9⟩:=de w (.cells #[.slice yb a.length yc,b] 91) (.cells #[.int .i64 0] 40);have g5:=Lu (hI.kept r);have e7:=Lu (hP.kept r);have⟨HX,e8,HT,e5,HA,a6,e6⟩:=BP P G ht Q hA r V;have q0:=aa s (o:=0) rfl;have q1:=aa s (o:=1) rfl;clear hI hP P G ht Q hA r s V;go_enter_defers Tp.x133,Xq;go_upto_region 4 with(fail);rw[<- HA,<- e5];go_wp2;go_loopw [5,6,12] (λmv tv iv wr=>∃k:Ly,iv=.int .i64 k/\k<=l.length/\mv=.int .u8 (aP (l.take k))/\tv=.int .i64 (aV a (l.take k))/\0<=aV a (l.take k)/\aV a (l.take k)<=1000*k/\w1.gb wr Lw) (λ_ _ iv _=>(l.length - intOf iv).toNat)
 case atStart=>exact⟨0,rfl,by omega,by simp[aP],by simp[aV],by simp[aV],by simp[aV],Mf _ _⟩
 case round=>
  obtain⟨k,rfl,hk,rfl,rfl,F,D,W⟩:=hrel;have O:=Lu W;have l9:=W.cl q0;have l7:=W.cl q1;have m9:=W.size;clear W;by_cases g:k<l.length
  ·have Z:=g5.out.kept O;have Y:=e7.out.kept O;obtain⟨b1,c1,he,-,hc⟩:=Z.cell;cases he;obtain⟨B,o,rfl,s,q2,p9,X⟩:=hc (by intro e;rw[e] at g;simp at g);have P:=X k g;obtain⟨x,c⟩:∃x,l[k]?=Lq x:=⟨_,LO g⟩;have⟨m8,C⟩:=HX.out x (Mh c);rw[c] at P;simp only[LQ] at P;have d:(aP (l.take k)).testBit x.toNat=LH:=by
    rw[Bool.eq_false_iff];intro h;have⟨y,hy,m5⟩:=(da _ _).1 h;have⟨j,hj⟩:=Tt hy;have S:j<k:=by have:=(Md.1 hj).1;simp at this;omega
    rw[Oi S] at hj;have m7:=HX.out y (Mh hj);obtain rfl:y=x:=by omega
    have⟨h1,h2⟩:=Md.1 hj;have⟨h3,h4⟩:=Md.1 c;exact PN.1 e8 j k h1 h3 S (h2.t h4.symm)
   have hM:aP (l.take k)<32:=ir _ 5 λy hy=>by have:=HX.out y (QD hy);omega
   have q:=ox l k x c;have i:=qi a l k x c;obtain⟨m,rfl⟩:∃m:Ly,x=m:=⟨x.toNat,by omega⟩;obtain⟨b2,c2,he,-,hc⟩:=Y.cell;cases he;obtain⟨YB,yo,rfl,p5,p4,n9,U⟩:=hc (by intro e;rw[e] at C;simp at C;omega);have⟨p,hp,p0,p1,p2,p3⟩:=U m (by omega);have n3:=HT.out p (Mh hp);rw[show dQ a m=p.tall by unfold dQ;simp[hp]] at i;simp only[Pe] at d q;have n4:(m:LJ)<(a.length:LJ):=C;have R:m<5:=by omega
   generalize aP (l.take k)=M at d hM q;generalize aV a (l.take k)=T at F D i;have⟨a7,e9,L,q7⟩:=dD d q i c;clear Z Y hc X U hp d q i c;go_wp2_with (first
    | (go_at_call 110;refine(dK _ _ _ _ (by omega) (by omega)).mono ?_;rintro e u ⟨rfl,rfl⟩)
    | (go_at_call 162;refine(qO _ _).mono ?_;rintro e u ⟨rfl,rfl⟩)
    | (go_at_call 129;refine(pX M m _ hM R).mono ?_;rintro e u ⟨rfl,rfl⟩;rw[a7])
    | (go_at_call 151;refine(mE M m _ hM R).mono ?_;rintro e u ⟨rfl,rfl⟩)
    | (go_at_call 145;refine(qk _ _ _ T p.tall _ (by exact ai.laid _ [T,p.tall] 2 rfl (by simp)) (by omega) (by omega)).mono ?_;rintro e u ⟨rfl,rfl⟩))
   go_roundw
   case rel=>
    refine⟨k+1,by simp,by omega,by rw[e9],by rw[L],by rw[L];omega,by rw[L];omega,O.t (Lr _ _ _)⟩
   case measure=>simp[intOf];omega
  ·obtain rfl:k=l.length:=by omega
   rw[NH] at F D;rw[NH];have HZ:=Lu (show xS a b l=if aV a l<=b then 0 else 10 from rfl);generalize aV a l=T at F D HZ;generalize aP l=M;have n:=bk O e6;have p8:=aa (o:=0) n rfl;have p7:=aB (o:=0) n;have N:=Lu n;have n2:=b9;clear n;by_cases z:T<=b
   ·have HC:=Lu (HZ.t (if_pos z));go_wp2_with (go_at_call 162;refine(qO _ _).mono ?_;rintro e u ⟨rfl,rfl⟩);refine Sw (f:=161) (args:=#[.pointer (Lq (A+1:Ly))]) (by simp) (by simp[go_sem]) ?_;refine(rK ⟨A+1,0,Lw⟩ _).mono ?_;rintro e u' b6 ⟨rfl,rfl,rfl⟩;have H:(((wr.setCell (A+1:Ly) (.int .i64 0)).alloc (.cells #[.int .i64 0] 181)).heap[A+1]?=Lq (.cells #[.int .i64 0] 40 (0,0))):=aD (by rw[ar N];rfl);refine⟨.int .i64 0,?_,by rw[HC],?_⟩
    ·simp[Om,Rf,go_sem,Mz,H]
    ·have hh:=a6.out.t O;exact(hh.andThen (an _ _ _ _) (by rintro j e;cases e;exact .inl (by have:=HA.out;omega))).t (Lr _ _ _)
   ·have HC:=Lu (HZ.t (if_neg z));have G:decide (T<=b)=LH:=by simp;omega
    go_wp2_with (go_at_call 162;refine(uJ _ _).mono ?_;rintro e u ⟨rfl,rfl⟩);refine Sw (f:=161) (args:=#[.pointer (Lq (A+1:Ly))]) (by simp) (by simp[go_sem]) ?_;refine(lx (A+1) 0 10 [] _ N).mono ?_;rintro e u' b6 ⟨rfl,rfl,rfl⟩;have hh:=a6.out.t O;have H:=ar (o:=0) (v:=.int .i64 10) (aD (p:=.cells #[.int .i64 10] 181) N);simp[Leaves,settle,Om,Rf,go_sem,Mz,H,HC.out];exact(hh.t (Lr _ _ Lw)).andThen (an _ _ _ _) (by rintro j e;cases e;exact .inl (by have:=HA.out;omega))
structure YOk(ps:Lx Par)(lim:LJ):Prop where
 len:ps.length<=5
 each:∀p∈ps,1<=p.mn/\p.mn<=p.mx/\p.mx<=12/\0<=p.bears/\p.bears<=30/\1<=p.tall/\p.tall<=3
 l1:1<=lim
 l2:lim<=12
def YOk.chk{b:Lx Par}{a:LJ}(h:YOk b a):bX b a=0:=by
 have e:=h.len;unfold bX;rw[if_neg (by omega),pY _ b (λi y d=>by
  have:=h.each y (Mh d);have c:pL y=0:=by unfold pL;rw[if_pos (by omega),if_pos (by omega),if_neg (by omega),if_pos (by omega),if_pos (by omega)]
  simp[c])]
 exact if_pos ⟨h.l1,h.l2⟩
structure POk(ps:Lx Par)(lim:LJ)(l:Lx LJ):Prop where
 ok:∀x∈l,0<=x/\x<ps.length
 nd:l.Nodup
 tall:aV ps l<=lim
 len:l.length<=100
structure PIn(ps:Lx Par)(l:Lx LJ):Prop where
 ok:∀x∈l,0<=x/\x<ps.length
 nd:l.Nodup
 len:l.length<=100
def POk.pin{b:Lx Par}{a:LJ}{l:Lx LJ}(h:POk b a l):PIn b l:=⟨h.ok,h.nd,h.len⟩
def POk.chk{b:Lx Par}{a:LJ}{l:Lx LJ}(h:POk b a l):xS b a l=0:=if_pos h.tall
def DZ(O z:Ly)(T qv:LA)(d:Lx Par)(a:LJ)(l:Lx LJ)(w:Lt)(U:aC O z w T d)(V:ai O z w qv l)(e8:z<=w.heap.size)(C:YOk d a)(P:PIn d l) :MH Ya 81 #[.agg #[T,a],qv] w λe w'=>e=.returned (.tuple #[.agg #[T,a],(xS d a l)])/\w.gb w' Lw:=by
 obtain⟨x,u,rfl,d9,-⟩:=U.cell;obtain⟨base,g6,rfl,e7,-⟩:=V.cell;have⟨A,w1,hA,B,n,r,G,e6⟩:=de w (.cells #[.slice x d.length u,a] 24) (.cells #[.slice Lw 0 0,.int .i64 0] 91);have b7:=Lu (V.kept n);have M:=Lu (U.kept n);have⟨a6,HA,c3,a8,g7⟩:=oC B hA n G r;have S:=aa r (o:=0) rfl;have R:=aa r (o:=1) rfl;have e9:z<=A:=by omega
 have⟨X,s⟩:=aS C P;clear U V C P B hA n G r;go_enter Tp.x81,VW;go_upto_region 1 with(fail);rw[<- HA,<- a6];go_upto_region 4 with(go_at_call 52;refine(oL O z _ d a _ ⟨_,rfl,M⟩ (by omega)).mono ?_;rintro e Q ⟨rfl,L⟩;rw[X.chk];have c:=Lu L;clear L);have p0:=c.out.cl S;have p1:=c.out.cl R;have e5:=c.out.size;clear S R;go_upto_region 5 with(fail);obtain⟨Y,i⟩:∃Y,Y=Q.heap.size:=⟨_,rfl⟩;obtain⟨y,f⟩:∃y,y=Q.alloc (.cells #[.slice x d.length u,a] 91):=⟨_,rfl⟩;have g:Q.gb y Lw:=by rw[f];exact Lr _ _ Lw
 have q:y.heap[Y]?=Lq (.cells #[.slice x d.length u,a] 91 (0,0)):=by rw[f,i];exact LS _ _
 have e4:y.heap.size=Y+1:=by rw[f,Mc,i]
 rw[<- i,<- f];have S:=aa q (o:=0) rfl;have R:=aa q (o:=1) rfl;have h:=Lu (bk g (blk c (by simp) a8));have N:=Lu q;have b9:=Lu ((c3.t c).t g);have b6:=Lu ((b7.kept c).kept g);have b0:=Lu ((M.kept c).kept g);have g5:A+1<Y:=by omega
 clear g q f i p0 p1;go_region_law
  (first
   | (go_simp;go_at_call 133;refine(iD O z _ _ d a l _ ⟨_,rfl,b0.kept (ak _ Lw)⟩ (b6.kept (ak _ Lw)) (by simp;omega) X.len s.ok s.nd (λp P=>by have:=X.out.each p P;omega) s.len).mono ?_;rintro e w4 ⟨rfl,I⟩;have b:=Lu ((ak y Lw).t I);have r0:=aa (o:=0) (bk b N) rfl;have r1:=aa (o:=1) (bk b N) rfl;have s0:=aa (o:=0) (bk b h) rfl;have s1:=aa (o:=1) (bk b h) rfl;have f0:=aB (o:=0) (bk b h);have f1:=aB (o:=1) (bk b h);clear I))
 all_goals
  have D:=bk b h;obtain⟨W,k⟩:∃W,W=(w4.setCell (A+1:Ly) (.slice x d.length u)).setCell ⟨A+1,1,Lw⟩ (.int .i64 a):=⟨_,rfl⟩;have F:W.heap[A+1]?=Lq (.cells #[.slice x d.length u,a] 91 (0,0)):=by rw[k,ar (ar D)];rfl
  have H:w.gb W Lw:=(b9.t b).andThen (row':=Lq (A+1)) (by rw[k];exact(an _ _ _ _).t (an _ _ _ _)) (by rintro j e;cases e;exact .inl (by have:=HA.out;omega));have⟨a7,b8,Z⟩:=bL F H k;clear D F H k;go_wp2;rw[<- Z];exact Ot (v:=.tuple #[.agg #[.slice x d.length u,a],(xS d a l)]) (by simp[Om,UT,go_sem,Mz,a7.out]) rfl ⟨rfl,b8⟩
def fA(f d:Ly)(b qv:LA)(c:Lx Par)(a:LJ)(l:Lx LJ)(w:Lt)(n:aC f d w b c)(o:ai f d w qv l)(i:d<=w.heap.size)(g:YOk c a)(j:POk c a l) :MH Ya 81 #[.agg #[b,a],qv] w λe k=>e=.returned (.tuple #[.agg #[b,a],.int .i64 0])/\w.gb k Lw:=by
 have h:=DZ f d b qv c a l w n o i g j.pin
 rwa [j.chk] at h
def FK(a b:MC):LJ:=if a != b then 3 else if a then 1 else 2
def vC(a b:MC)(w:Lt):MH Ya 95 #[.bool a,.bool b] w λe c=>e=.returned (.int .i64 (FK a b))/\w=c:=by
 cases a<;>cases b;all_goals
  go_enter Tp.x95,Tryz.ntmps95;go_wp2;go_ret;exact⟨rfl,rfl⟩
def yU(a b c d:LJ)(w:Lt):MH Ya 39 #[a,b,c,d] w λe y=>e=.returned (.agg #[a,b,c,d])/\w.gb y Lw:=by
 obtain⟨A,n⟩:∃A,A=w.heap.size:=⟨_,rfl⟩;obtain⟨i,f⟩:∃i,i=w.alloc (.cells #[.int .i64 0,.int .i64 0,.int .i64 0,.int .i64 0] 28):=⟨_,rfl⟩;have h:i.heap[A]?=Lq (.cells #[.int .i64 0,.int .i64 0,.int .i64 0,.int .i64 0] 28 (0,0)):=by rw[f,n];exact LS w _
 have u:w.gb i Lw:=by rw[f];exact Lr _ _ Lw
 have⟨x,q,z,B⟩:=dD n f h u;have r0:=aa (o:=0) h rfl;have F:=aa (o:=1) h rfl;have D:=aa (o:=2) h rfl;have C:=aa (o:=3) h rfl;have G:∀o,i.frozen? ⟨A,o,Lw⟩=LH:=λo=>aB h;clear n f h u;go_enter Tp.x39,Tryz.ntmps39;go_upto_region 1 with(fail);rw[<- x,<- q];obtain⟨W,g⟩:∃W,W=(((i.setCell A (.int .i64 a)).setCell ⟨A,1,Lw⟩ (.int .i64 b)).setCell ⟨A,2,Lw⟩ (.int .i64 c)).setCell ⟨A,3,Lw⟩ (.int .i64 d):=⟨_,rfl⟩;have k:W.heap[A]?=Lq (.cells #[a,b,c,d] 28 (0,0)):=by rw[g,ar (ar (ar (ar z)))];rfl
 have l:w.gb W Lw:=B.out.andThen (row':=Lq A) (by rw[g];exact(((an _ _ _ _).t (an _ _ _ _)).t (an _ _ _ _)).t (an _ _ _ _)) (by rintro j e;cases e;exact .inl (by have:=x.out;omega));have⟨r,s,p⟩:=bL k l g;clear k l g;go_wp2;rw[<- p];exact Ot (v:=.agg #[a,b,c,d]) (by simp[Om,Tryz.results39,go_sem,Mz,r.out]) rfl ⟨rfl,s⟩
def bD(n:LJ):Lx Par:=[⟨8,10,n,2⟩,⟨4,6,6,2⟩,⟨2,3,3,1⟩,⟨5,5,0,1⟩]
def YOk.mn{a:Lx Par}{b:LJ}(h:YOk a b)(i:Ly):0<=pre Par.mn a a.length i/\pre Par.mn a a.length i<=1000:=by
 unfold pre;split
 ·rename_i c
  rw[LO c];have:=h.each _ (Qo c);simp only;omega
 ·omega
def YOk.mx{a:Lx Par}{b:LJ}(h:YOk a b)(i:Ly):0<=pre Par.mx a a.length i/\pre Par.mx a a.length i<=1000:=by
 unfold pre;split
 ·rename_i c
  rw[LO c];have:=h.each _ (Qo c);simp only;omega
 ·omega
def standsV(a:Lx Par)(l:Lx LJ):LJ:=FK (aL a (pre Par.mn a a.length) l) (aL a (pre Par.mx a a.length) l)
def nR(B k:Ly)(pv qv:LA)(c:Lx Par)(a:LJ)(l:Lx LJ)(w:Lt)(hP:aC B k w pv c)(hI:ai B k w qv l)(h8:k<=w.heap.size)(O:YOk c a)(hp:POk c a l) :MH Ya 37 #[.agg #[pv,a],qv] w λe Z=>e=.returned (.tuple #[(standsV c l),.int .i64 0])/\w.gb Z Lw:=by
 obtain⟨y,x,rfl,g8,-⟩:=hP.cell;obtain⟨base,c3,rfl,g9,-⟩:=hI.cell;have⟨A,w1,hA,C,s,G⟩:=fg w (.cells #[.slice y c.length x,a] 24);have b6:w1.heap.size=A+1:=by rw[C,Mc,hA]
 have U:=Lu (hI.kept s);have T:=Lu (hP.kept s);have⟨c8,HA,d8⟩:=bL C hA s;have q0:=aa G (o:=0) rfl;have q1:=aa G (o:=1) rfl;have h9:k<=A:=by omega
 have⟨M,I⟩:=aS O hp;clear hP hI O hp C hA s G;go_enter Tp.x37,Tryz.ntmps37;go_upto_region 1 with(fail);rw[<- HA,<- c8];go_upto_region 2 with(go_at_call 81;refine(fA B k _ _ c a l _ T U (by omega) M I).mono ?_;rintro e w2 ⟨rfl,S⟩;have v:=Lu S;clear S);have b0:=v.out.size;obtain⟨Y,q⟩:∃Y,Y=w2.heap.size:=⟨_,rfl⟩;obtain⟨g,j⟩:∃g,g=w2.alloc (.cells #[.slice y c.length x,a] 91):=⟨_,rfl⟩;have r:w2.gb g Lw:=by rw[j];exact Lr _ _ Lw
 have u:g.heap[Y]?=Lq (.cells #[.slice y c.length x,a] 91 (0,0)):=by rw[j,q];exact LS _ _
 have a8:g.heap.size=Y+1:=by rw[j,Mc,q]
 rw[<- q,<- j];clear q0 q1;have s0:=aa u (o:=0) rfl;have s1:=aa u (o:=1) rfl;have d:=Lu u;have d7:=Lu ((d8.t v).t r);have d6:=Lu ((U.kept v).kept r);have c9:=Lu ((T.kept v).kept r);have k0:A<Y:=by omega
 have n:k<=g.heap.size:=by omega
 clear r u j q b6 b0 a8;go_upto_region 4 with(fail);have b:=Lu (Mf g Lw);have N:∀W,g.gb W Lw->dh B k W (.agg #[.slice y c.length x,a]) c a:=λW h=>⟨_,rfl,c9.kept h⟩;have P:∀W,g.gb W Lw->ai B k W (.slice base l.length c3) l:=λW h=>d6.kept h;have⟨H,d5⟩:=aS N P;clear N P;have SC:=Lu (Mm s0 s1);obtain⟨L,F⟩:∃L,L=pre Par.mn c c.length:=⟨_,rfl⟩;obtain⟨gx,D⟩:∃gx,gx=pre Par.mx c c.length:=⟨_,rfl⟩;have R:∀i,0<=L i/\L i<=1000:=by rw[F];exact M.mn
 have Q:∀i,0<=gx i/\gx i<=1000:=by rw[D];exact M.mx
 have⟨X,V,e4,d9⟩:=dD F D R Q;clear F D R Q;go_region_held3 (λZ=>Z.cell? Y=Lq (.slice y c.length x)/\Z.cell? ⟨Y,1,Lw⟩=Lq (.int .i64 a))
  (first | exact SC)
  (first
   | (go_at_call 93;refine(lj B k _ c a _ (H _ (by first | exact b | exact b.t (ak _ _))) (LN n (by first | exact b.size | exact(b.t (ak _ Lw)).size)) M.len).mono ?_;rintro e f ⟨rfl,p⟩;rw[<- X];replace b:=Lu (show g.gb f Lw by first | exact b.t p | exact(b.t (ak _ _)).t p);replace SC:=Lu (show f.cell? Y=Lq (.slice y c.length x)/\f.cell? ⟨Y,1,Lw⟩=Lq (.int .i64 a) from⟨aa (bk b d) rfl,aa (bk b d) rfl⟩);clear p)
   | (go_at_call 92;refine(kG B k _ c a _ (H _ (by first | exact b | exact b.t (ak _ _))) (LN n (by first | exact b.size | exact(b.t (ak _ Lw)).size)) M.len).mono ?_;rintro e f ⟨rfl,p⟩;rw[<- V];replace b:=Lu (show g.gb f Lw by first | exact b.t p | exact(b.t (ak _ _)).t p);replace SC:=Lu (show f.cell? Y=Lq (.slice y c.length x)/\f.cell? ⟨Y,1,Lw⟩=Lq (.int .i64 a) from⟨aa (bk b d) rfl,aa (bk b d) rfl⟩);clear p)
   | (go_at_call 96;refine(gG B k _ _ c a l _ _ (H _ (by first | exact b | exact b.t (ak _ _))) (d5 _ (by first | exact b | exact b.t (ak _ _))) (LN n (by first | exact b.size | exact(b.t (ak _ Lw)).size)) M.len I.ok (by have:=I.out.len;omega) (by first | exact e4 | exact d9)).mono ?_;rintro e f ⟨rfl,p⟩;replace b:=Lu (show g.gb f Lw by first | exact b.t p | exact(b.t (ak _ _)).t p);replace SC:=Lu (show f.cell? Y=Lq (.slice y c.length x)/\f.cell? ⟨Y,1,Lw⟩=Lq (.int .i64 a) from⟨aa (bk b d) rfl,aa (bk b d) rfl⟩);clear p)
   | (go_at_call 95;refine(vC _ _ _).mono ?_;rintro e f ⟨rfl,rfl⟩))
 have HV:=Lu (show standsV c l=FK (aL c L l) (aL c gx l) by rw[X,V];rfl);generalize FK (aL c L l) (aL c gx l)=z at HV ⊢;go_wp2;go_ret2;exact⟨by rw[HV];rfl,d7.t b⟩
def cR(a:Lx Par)(g:Ly->LJ)(l:Lx LJ):Ly->LJ
 | 0=>30
 | k+1=>match a[(l[k]?.getD 0).toNat]? with | some p=>min (cR a g l k) (p.bears - loadAt g l k) | none=>cR a g l k
def te(S C:Ly)(yv pv:LA)(c:Lx Par)(r:LJ)(l:Lx LJ)(g:Ly->LJ)(w:Lt)(hY:dh S C w yv c r)(Y:ai S C w pv l)(l4:C<=w.heap.size)(h5:c.length<=5)(u:∀x∈l,0<=x/\x<c.length)(hl:l.length<=1000)(hg:∀i,0<=g i/\g i<=1000)(hb:∀p∈c,0<=p.bears/\p.bears<=1000) :MH Ya 94 #[yv,pv,wts g] w λe w'=>e=.returned (.int .i64 (cR c g l l.length))/\w.gb w' Lw:=by
 obtain⟨qv,rfl,X⟩:=hY;obtain⟨yb,yc,rfl,h8,-⟩:=X.cell;obtain⟨base,m8,rfl,k9,-⟩:=Y.cell;have⟨A,w1,hA,y,q,f,b,k6⟩:=de w (.cells #[.slice yb c.length yc,r] 91) (aR g);have N:=Lu (Y.kept q);have a6:=Lu (X.kept q);have⟨HX,O,Z,HA,a7,n3⟩:=sr u hg y hA q f;have q0:=aa f (o:=0) rfl;have q1:=aa f (o:=1) rfl;have r0:=aA b (show 0<5 by omega);have r1:=aA b (show 1<5 by omega);have r2:=aA b (show 2<5 by omega);have r3:=aA b (show 3<5 by omega);have r4:=aA b (show 4<5 by omega);have l5:C<=A:=by omega
 clear Y X u hg y hA q f b;unfold wts;go_enter Tp.x94,Tryz.ntmps94;go_upto_region 2 with(fail);rw[<- HA,show(w.alloc (.cells #[.slice yb c.length yc,r] 91)).alloc (.cells #[(g 0),(g 1),(g 2),(g 3),(g 4)] 101)=w1 from Z.symm];go_wp2_with (go_at_call 91;(refine(lh S C _ _ l g _ N (by omega) (by intro x u;have:=HX.out x u;omega) hl O ⟨_,_,rfl⟩).mono ?_);rintro e w2 ⟨lv,rfl,G,n⟩;have d:=n.cell;rw[gd] at d;obtain⟨lb,lc,rfl,-,d⟩:=d;have b0:=Lu d;clear d;have h:=Lu G;have n2:=Lu n;clear G n);have R:=h.out.cl q0;have k5:=h.out.size;clear r0 r1 r2 r3 r4 q0 q1;have b6:=Lu hb;clear hb;go_loopw [7,15] (λnv T wr=>∃k:Ly,T=.int .i64 k/\k<=l.length/\nv=.int .i64 (cR c g l k)/\w2.gb wr Lw) (λ_ T _=>(l.length - intOf T).toNat)
 case atStart=>exact⟨0,rfl,by omega,rfl,Mf _ _⟩
 case round=>
  obtain⟨k,rfl,hk,rfl,v⟩:=hrel;have HG:=Lu v;have g7:=v.cl R;have k0:=v.size;by_cases a:k<l.length
  ·have L:=(N.kept h).kept v;have I:=(a6.kept h).kept v;obtain⟨b1,c1,W,-,Q⟩:=L.cell;cases W;obtain⟨B,o,rfl,f,m7,m6,H⟩:=Q (by intro e;rw[e] at a;simp at a);have u:=H k a;obtain⟨x,j⟩:∃x,l[k]?=Lq x:=⟨_,LO a⟩;have⟨h9,s⟩:=HX.out x (Mh j);rw[j] at u;simp only[LQ] at u;obtain⟨m,rfl⟩:∃m:Ly,x=m:=⟨x.toNat,by omega⟩;obtain⟨b2,c2,W,-,Q⟩:=I.cell;cases W;obtain⟨YB,yo,rfl,l9,l8,l7,D⟩:=Q (by intro e;rw[e] at s;simp at s;omega);have⟨p,U,p0,p1,p2,p3⟩:=D m (by omega);obtain⟨LB,g9,rfl,m5,n,m4,F⟩:=b0.out (by intro e;have:=gd g l;rw[e] at this;simp at this;omega);have z:=HG.out.cl (F k a);rw[pV g l k a] at z;have P:cR c g l (k+1)=min (cR c g l k) (p.bears - loadAt g l k):=by simp[cR,j,U]
   have l6:=b6.out p (Mh U);have V:=tH g l k O hl;have k8:(m:LJ)<(c.length:LJ):=s;generalize loadAt g l k=ld at z P V;generalize cR c g l k=S0 at P;obtain⟨M,hM⟩:∃M,min S0 (p.bears - ld)=M:=⟨_,rfl⟩;have k7:(if p.bears - ld<S0 then p.bears - ld else S0)=M:=by rw[<- hM];omega
   have HS:=Lu (P.t hM);clear v L I Q H D F j U P;go_upto_region 5 with(fail);go_quiet (fail);go_wp2;go_roundw
   case rel=>exact⟨k+1,by simp,by omega,by rw[HS],HG.t (ay _ _ _)⟩
   case measure=>simp[intOf];omega
  ·obtain rfl:k=l.length:=by omega
   clear v;go_wp2;go_ret;exact⟨rfl,(a7.t h).t HG⟩
def fZ(Q X P W:Ly)(C B:LA)(a b:Lx LJ)(w:Lt)(F:ai Q X w C a)(D:ai P W w B b) :MH Ya 31 #[C,B] w λe O=>e=.returned (.bool (decide (a=b)))/\w.gb O Lw:=by
 obtain⟨ba,ca,rfl,T,p⟩:=F.cell;obtain⟨bb,cb,rfl,S,G⟩:=D.cell;have⟨H1,H2⟩:=aS p G;clear p G F D;by_cases c:a.length=b.length
 ·have H:=Lu c;have h:((a.length:LJ) != (b.length:LJ))=LH:=by rw[c];simp
  clear c;go_enter Tp.x31,XM;go_wp2;go_loopw [5] (λu wr=>∃k:Ly,u=.int .i64 k/\k<=a.length/\(∀i,i<k->a[i]?=b[i]?)/\w.gb wr Lw) (λu _=>(a.length - intOf u).toNat)
  case atStart=>exact⟨0,rfl,by omega,λi s=>absurd s (by omega),Mf _ _⟩
  case round=>
   obtain⟨k,rfl,hk,j,l⟩:=hrel;have⟨r,A⟩:=aS j l;clear j;by_cases f:k<a.length
   ·have d:k<b.length:=by have:=H.out;omega
    obtain⟨A1,o1,rfl,b0,a8,a7,o⟩:=H1.out (by intro e;rw[e] at f;simp at f);obtain⟨B1,o2,rfl,a6,Z,Y,n⟩:=H2.out (by intro e;rw[e] at d;simp at d);have N:=l.cl (o k f);have M:=l.cl (n k d);have z:a[k]?=Lq (a[k]?.getD 0):=by simp[LO f]
    have v:b[k]?=Lq (b[k]?.getD 0):=by simp[LO d]
    generalize a[k]?.getD 0=x at N z;generalize b[k]?.getD 0=y at M v;have U:(k:LJ)<(b.length:LJ):=by omega
    have V:(k:LJ)<(a.length:LJ):=by omega
    have⟨L,I⟩:=aS z v;clear o n l z v;by_cases g:x=y
    ·subst g;go_upto_region 6 with(fail);go_quiet (fail);go_wp2;go_roundw
     case rel=>
      refine⟨k+1,by simp,by omega,λi s=>?_,A.t (ay _ _ _)⟩;by_cases e:i=k
      ·rw[e,L,I]
      ·exact r i (by omega)
     case measure=>simp[intOf];omega
    ·have q:=Lu (show decide (a=b)=LH by
      rw[decide_eq_false_iff_not];intro e;have p:=L.out;rw[e,I] at p;exact g (by cases p;rfl))
     have R:(x != y)=LG:=by simp[g]
     go_upto_region 6 with(fail);go_quiet (fail);go_wp2;go_ret;exact⟨by rw[q];rfl,A.t (ay _ _ _)⟩
   ·obtain rfl:k=a.length:=by omega
    have q:=Lu (show decide (a=b)=LG by
     rw[decide_eq_true_eq];refine QE λi=>?_;by_cases s:i<a.length
     ·exact r i s
     ·rw[Nc (by omega),Nc (by have:=H.out;omega)])
    clear l;go_wp2;go_ret;exact⟨by rw[q];rfl,A⟩
 ·have q:=Lu (show decide (a=b)=LH by
   rw[decide_eq_false_iff_not];intro e;exact c (by rw[e]))
  have h:((a.length:LJ) != (b.length:LJ))=LG:=by simp;omega
  clear c;go_enter Tp.x31,XM;go_wp2;go_ret;exact⟨by rw[q];rfl,Mf _ _⟩
def aZ(w:Lt)(b g:Ly):Prop :=
 ∃(base:LU MN) (len cap:Ly) (g':Ly) (s:LJ),g'<=g/\w.heap[b]?=Lq (.cells #[.slice base len cap,g',.int .u64 s] 89 (0,0))/\(len:LJ)<=9223372036854775807 /\
  (0<len->∃a c,base=Lq ⟨a,c,Lw⟩/\a<b/\∀i,i<len->∃x,w.cell? ⟨a,c+i,Lw⟩=Lq (.int .i64 x))
def aZ.mono{w:Lt}{b g d:Ly}(h:aZ w b g)(f:g<=d):aZ w b d:=by
 obtain⟨base,a,c,k,s,e,r⟩:=h;exact⟨base,a,c,k,s,by omega,r⟩
def vM{w:Lt}{b g:Ly}{base:LU MN}{a d:Ly}{s s':LJ}{z:LA}(q:w.heap[b]?=Lq (.cells #[.slice base a d,g,.int .u64 s] 89 (0,0)))(n:(a:LJ)<=9223372036854775807)(k:0<a->∃f h,base=Lq ⟨f,h,Lw⟩/\f<b/\∀i,i<a->∃x,w.cell? ⟨f,h+i,Lw⟩=Lq (.int .i64 x))(nq:Ly) :w.gb ((((w.drewN nq).setCell ⟨b,1,Lw⟩ (.int .i64 (g+1))).setCell ⟨b,2,Lw⟩ z).setCell ⟨b,2,Lw⟩ (.int .u64 s')).drew (Lq b) /\aZ ((((w.drewN nq).setCell ⟨b,1,Lw⟩ (.int .i64 (g+1))).setCell ⟨b,2,Lw⟩ z).setCell ⟨b,2,Lw⟩ (.int .u64 s')).drew b (g+1) /\((((w.drewN nq).setCell ⟨b,1,Lw⟩ (.int .i64 (g+1))).setCell ⟨b,2,Lw⟩ z).setCell ⟨b,2,Lw⟩ (.int .u64 s')).drew.heap.size=w.heap.size:=by
 refine⟨((((ay w nq _).t (an _ b 1 _)).t (an _ b 2 _)).t (an _ b 2 _)).t (ak _ _),?_,by simp[NS,World.drewN,World.drew]⟩;have u:(w.drewN nq).heap[b]?=Lq (.cells #[.slice base a d,g,.int .u64 s] 89 (0,0)):=q;have r:=ar (o:=2) (v:=.int .u64 s') (ar (o:=2) (v:=z) (ar (o:=1) (v:=.int .i64 (g+1)) u));refine⟨base,a,d,g+1,s',LC _,by simpa[World.drew] using r,n,λl=>?_⟩;have⟨f,h,B,A,y⟩:=k l;refine⟨f,h,B,A,λi p=>?_⟩;have⟨x,j⟩:=y i p;refine⟨x,?_⟩;have c:∀o,(⟨b,o,Lw⟩:MN)≠⟨f,h+i,Lw⟩:=λo e=>by cases e;omega
 show Mz ((((w.drewN nq).setCell ⟨b,1,Lw⟩ (.int .i64 (g+1))).setCell ⟨b,2,Lw⟩ z).setCell ⟨b,2,Lw⟩ (.int .u64 s')) _=_;rw[NL _ _ _ _ (c _),NL _ _ _ _ (c _),NL _ _ _ _ (c _)];exact j
def aZ.lt{w:Lt}{b g:Ly}(h:aZ w b g):b<w.heap.size:=by
 obtain⟨_,_,_,_,_,_,a,_⟩:=h;exact(Lz.1 a).1
def aZ.kept{w l:Lt}{b g:Ly}{row:LU Ly}(h:aZ w b g)(q:w.gb l row)(p:∀B,row=Lq B->b<B:=by simp):aZ l b g:=by
 have j:=h.lt;have f:Lq b≠row:=λe=>by have:=p b e.symm;omega
 obtain⟨base,a,k,F,s,A,D,z,d⟩:=h;refine⟨base,a,k,F,s,A,(q.block b j f).t D,z,λy=>?_⟩;have⟨o,r,I,H,G⟩:=d y;exact⟨o,r,I,H,λi C=>(G i C).imp λx u=>q.cell u (λe=>by have:=p o e.symm;omega)⟩
def aZ.alloc{w:Lt}{b g:Ly}(h:aZ w b g)(o:SQ):aZ (w.alloc o) b g:=h.kept (Lr w o Lw)
def aZ.set{w:Lt}{b g X o:Ly}{v:LA}(h:aZ w b g)(a:b<X):aZ (w.setCell ⟨X,o,Lw⟩ v) b g:=h.kept (an w X o v) (by rintro B e;cases e;exact a)
def CV{w d:Lt}{b B e a n:Ly}{v:LA}{c:Lx LA}(f:w.gb d (Lq b))(h:w.ownsRow B e a v n c)(g:b<B):d.ownsRow B e a v n c :=
 h.kept f (by
  by_cases e:v.ownBlock=Lq b
  ·have:=(h.lt b e).1;omega
  ·exact .inr e)
def xu{w d c:Lt}{b:Ly}{a:LU Ly}(h:w.gb d (Lq b))(k:d.gb c a)(f:∀j,a=Lq j->w.heap.size<=j):w.gb c (Lq b) :=
 h.andThen k λj e=>.inl (f j e)
def Tn(b g:Ly)(w a:Lt):Prop:=w.gb a (Lq b)/\aZ a b g
def lL(k:Tf)(b g:Ly)(w:Lt)(p:LJ->Prop)(e:Ending)(a:Lt):Prop:=∃r,p r/\e=.returned (.int k r)/\Tn b g w a/\a.heap.size=w.heap.size
def FJ(x:LJ):0<=IntKind.u64.wrap x/\IntKind.u64.wrap x<18446744073709551616:=by
 have h:IntKind.u64.bits=64:=rfl;have a:IntKind.u64.signed=LH:=rfl;simp only[IntKind.wrap,h,a];constructor
 ·simp;omega
 ·simp;omega
def Hq(a:UL)(x y:LJ):0<=Ut a .u64 x y/\Ut a .u64 x y<18446744073709551616:=by
 unfold Ut;exact FJ _
def JE(x y:LJ):0<=Ut .xor .u64 x y / 512/\Ut .xor .u64 x y / 512<36028797018963968:=by
 have:=Hq .xor x y;omega
def CR(b:Ly)(j h:Ly)(a f:Ly)(g:Ly)(s x:LJ)(w:Lt)(y:g<4611686018427387904)(c:w.heap[b]?=Lq (.cells #[.slice (Lq ⟨j,h,Lw⟩) a f,g,.int .u64 s] 89 (0,0)))(q:(a:LJ)<=9223372036854775807)(p:g<a)(k:0<a->∃d e,(Lq ⟨j,h,Lw⟩:LU MN)=Lq ⟨d,e,Lw⟩/\d<b/\∀i,i<a->∃x,w.cell? ⟨d,e+i,Lw⟩=Lq (.int .i64 x))(A:w.cell? ⟨j,h+g,Lw⟩=Lq (.int .i64 x)) :MH Ya 125 #[.pointer (Lq b)] w (lL .u64 b (g+1) w λu=>0<=u/\u<36028797018963968):=by
 have C:w.cell? b=Lq (.slice (Lq ⟨j,h,Lw⟩) a f):=by simp[Mz,c]
 have B:w.cell? ⟨b,1,Lw⟩=Lq (.int .i64 g):=by simp[Mz,c]
 have r:w.cell? ⟨b,2,Lw⟩=Lq (.int .u64 s):=by simp[Mz,c]
 have f1:w.frozen? ⟨b,1,Lw⟩=LH:=by simp[Pw,c]
 have f2:w.frozen? ⟨b,2,Lw⟩=LH:=by simp[Pw,c]
 have n:(g:LJ)<(a:LJ):=by omega
 have t:∀(nq:Ly) (u v z:LA),((((w.drewN nq).setCell ⟨b,1,Lw⟩ u).setCell ⟨b,2,Lw⟩ v).setCell ⟨b,2,Lw⟩ z).cell? ⟨b,2,Lw⟩=Lq z:=by
  intro nq u v z;refine QJ _ _ _ (u:=v) ?_;refine QJ _ _ _ (u:=.int .u64 s) ?_;rw[NL _ _ _ _ (by simp)];simpa using r
 have o:=λnq z s'=>vM (z:=z) (s':=s') c q k nq;have⟨l,F,D⟩:=bL o c k;clear o c k;go_enter Tp.x125,Xr;go_wp2;go_quiet (fail);go_wp2;go_quiet (fail);go_wp2;go_region;all_goals go_wp2
 all_goals go_ret
 all_goals exact⟨_,JE _ _,rfl,⟨(l _ _ _).1,(l _ _ _).2.1⟩,(l _ _ _).2.2⟩
def CU(b:Ly)(base:LU MN)(a f:Ly)(g:Ly)(s:LJ)(w:Lt)(r:g<4611686018427387904)(c:w.heap[b]?=Lq (.cells #[.slice base a f,g,.int .u64 s] 89 (0,0)))(o:(a:LJ)<=9223372036854775807)(n:¬ g<a)(h:0<a->∃d e,base=Lq ⟨d,e,Lw⟩/\d<b/\∀i,i<a->∃x,w.cell? ⟨d,e+i,Lw⟩=Lq (.int .i64 x)) :MH Ya 125 #[.pointer (Lq b)] w (lL .u64 b (g+1) w λu=>0<=u/\u<36028797018963968):=by
 have y:w.cell? b=Lq (.slice base a f):=by simp[Mz,c]
 have t:w.cell? ⟨b,1,Lw⟩=Lq (.int .i64 g):=by simp[Mz,c]
 have p:w.cell? ⟨b,2,Lw⟩=Lq (.int .u64 s):=by simp[Mz,c]
 have f1:w.frozen? ⟨b,1,Lw⟩=LH:=by simp[Pw,c]
 have f2:w.frozen? ⟨b,2,Lw⟩=LH:=by simp[Pw,c]
 have k:(a:LJ)<=(g:LJ):=by omega
 have q:∀(nq:Ly) (u v z:LA),((((w.drewN nq).setCell ⟨b,1,Lw⟩ u).setCell ⟨b,2,Lw⟩ v).setCell ⟨b,2,Lw⟩ z).cell? ⟨b,2,Lw⟩=Lq z:=by
  intro nq u v z;refine QJ _ _ _ (u:=v) ?_;refine QJ _ _ _ (u:=.int .u64 s) ?_;rw[NL _ _ _ _ (by simp)];simpa using p
 have l:=λnq z s'=>vM (z:=z) (s':=s') c o h nq;have⟨j,B,A⟩:=bL l c h;clear l c h;go_enter Tp.x125,Xr;go_wp2;go_quiet (fail);go_wp2;go_region;all_goals go_wp2
 all_goals go_ret
 all_goals exact⟨_,JE _ _,rfl,⟨(j _ _ _).1,(j _ _ _).2.1⟩,(j _ _ _).2.2⟩
def sN(b g:Ly)(w:Lt)(q:aZ w b g)(B:g<4611686018427387904) :MH Ya 125 #[.pointer (Lq b)] w (lL .u64 b (g+1) w λu=>0<=u/\u<36028797018963968):=by
 obtain⟨base,a,f,d,s,A,k,j,i⟩:=q;have fin:∀e h,lL .u64 b (d+1) w (λu=>0<=u/\u<36028797018963968) e h->lL .u64 b (g+1) w (λu=>0<=u/\u<36028797018963968) e h:=by
  rintro e h ⟨r,y,v,l,t⟩;exact⟨r,y,v,⟨l.1,l.2.mono (by omega)⟩,t⟩
 by_cases c:d<a
 ·obtain⟨o,n,rfl,C,z⟩:=i (by omega);have⟨x,p⟩:=z d c;exact(CR b o n a f d s x w (by omega) k j c i p).mono fin
 ·exact(CU b base a f d s w (by omega) k j c i).mono fin
def Cx(b:Ly)(w:Lt)(v:LA)(l:Lx LJ):Prop :=
 ∃base a,v=.slice base l.length a/\(l.length:LJ)<=9223372036854775807/\(l≠[]->∃B o,base=Lq ⟨B,o,Lw⟩/\B≠b/\B<w.heap.size/\∀i,i<l.length->w.cell? ⟨B,o+i,Lw⟩=Lq (.int .i64 (l[i]?.getD 0)))
def Cx.laid{b:Ly}(w:Lt)(l:Lx LJ)(n:Ly)(c:n=l.length)(f:b<w.heap.size)(e:l.length<=1000)(a:Ly × Ly:=(0,0)) :Cx b (w.alloc (.cells (l.map (Mp .i64)).toArray 3 a)) (.slice (Lq w.heap.size) n n) l:=by
 subst c;refine⟨_,_,rfl,by omega,λ_=>⟨w.heap.size,0,rfl,by omega,by simp,λi d=>?_⟩⟩;have:=LS w (.cells (l.map (Mp .i64)).toArray 3 a);unfold Mz;rw[this];simp[LO d]
def Gj{u n:LJ}(_:0<=u)(a:0<=n):0<=u % (n+1)/\u % (n+1)<=n:=by
 have c:=Int.emod_nonneg u (show n+1≠0 by omega);have b:=Int.emod_lt_of_pos u (show 0<n+1 by omega);omega
def CI(b g:Ly)(n:LJ)(w:Lt)(d:aZ w b g)(k:g<4611686018427387904)(p:n<1) :MH Ya 68 #[.pointer (Lq b),n] w (lL .i64 b (g+1) w λr=>r=0):=by
 have l:=Lu d;clear d;go_enter Tp.x68,XN;go_wp2_with (go_at_call 125;refine(sN b g _ l k).mono ?_;rintro e o ⟨u,⟨j,i⟩,rfl,h,f⟩;have c:=Lu h;have a:=Lu f;clear h f);go_ret;exact⟨0,rfl,rfl,c,a⟩
def CJ(b g:Ly)(n:LJ)(w:Lt)(f:aZ w b g)(k:g<4611686018427387904)(q:1<=n)(hm:n<=1000000000) :MH Ya 68 #[.pointer (Lq b),n] w (lL .i64 b (g+1) w λr=>0<=r/\r<=n):=by
 have o:=Lu f;clear f;go_enter Tp.x68,XN;go_wp2_with (go_at_call 125;refine(sN b g _ o k).mono ?_;rintro e p ⟨u,⟨a,j⟩,rfl,i,h⟩;have d:=Lu i;have c:=Lu h;clear i h);go_ret;have l:=Gj a (show 0<=n by omega);refine⟨_,?_,rfl,d,c⟩;rw[IntWalk.wrap64_in (u % (n+1)) ⟨by omega,by omega⟩];exact l
def gj(b g:Ly)(n:LJ)(w:Lt)(c:aZ w b g)(d:g<4611686018427387904)(hm:n<=1000000000) :MH Ya 68 #[.pointer (Lq b),n] w (lL .i64 b (g+1) w λr=>0<=r/\(r<=n\/r=0)):=by
 by_cases h:n<1
 ·refine(CI b g n w c d h).mono ?_;rintro e f ⟨r,i,a⟩;exact⟨r,by omega,a⟩
 ·refine(CJ b g n w c d (by omega) hm).mono ?_;rintro e f ⟨r,i,a⟩;exact⟨r,by omega,a⟩
def km(b g:Ly)(a c:LJ)(w:Lt)(h:aZ w b g)(o:g<4611686018427387904)(y:-1000000000<=a)(x:a<=400000000)(v:-400000000<=c)(t:c<=400000000)(s:c - a<=1000000000) :MH Ya 70 #[.pointer (Lq b),a,c] w (lL .i64 b (g+1) w λr=>a<=r/\(r<=c\/r=a)):=by
 have p:=Lu h;clear h;go_enter Tp.x70,Tryz.ntmps70;go_wp2_with (go_at_call 68;refine(gj b g _ _ p o (by omega)).mono ?_;rintro e q ⟨u,⟨n,l⟩,rfl,j,i⟩;have f:=Lu j;have d:=Lu i;clear j i;have k:u<=1400000000:=by omega);go_ret;refine⟨_,?_,rfl,f,d⟩;omega
def kr(b g:Ly)(v:LA)(l:Lx LJ)(w:Lt)(h:aZ w b g)(A:g<4611686018427387904)(y:Cx b w v l)(a:0<l.length)(hm:l.length<=1000) :MH Ya 90 #[.pointer (Lq b),v] w (lL .i64 b (g+1) w λr=>r∈l):=by
 obtain⟨base,D,rfl,x,i⟩:=y;obtain⟨B,o,rfl,C,I,n⟩:=i (by intro e;rw[e] at a;simp at a);have⟨F,G⟩:=aS h n;clear h n i;go_enter Tp.x90,Tryz.ntmps90;go_wp2_with (go_at_call 68;refine(gj b g _ _ F A (by omega)).mono ?_;rintro e s ⟨u,⟨d,t⟩,rfl,q,p⟩;have c:=Lu q;have f:=Lu p;clear q p;obtain⟨k,rfl⟩:=Qb d;(have j:k<l.length:=by omega);(have z:(k:LJ)<(l.length:LJ):=by omega);(have H:s.cell? ⟨B,o+k,Lw⟩=Lq (.int .i64 (l[k]?.getD 0)):=c.out.1.cell (G k j) (λe=>C (by cases e;rfl))));go_ret;refine⟨_,?_,rfl,c,f⟩;simp[LO j]
def vH(b g:Ly)(n:LJ)(w:Lt)(f:aZ w b g)(l:g<4611686018427387904)(q:1<=n)(p:n<=1000) :MH Ya 69 #[.pointer (Lq b),n] w λe a=>(∃t:MC,e=.returned (.bool t))/\Tn b (g+1) w a/\a.heap.size=w.heap.size:=by
 have o:=Lu f;clear f;go_enter Tp.x69,Tryz.ntmps69;go_wp2_with (go_at_call 68;refine(gj b g _ _ o l (by omega)).mono ?_;rintro e a ⟨u,⟨k,j⟩,rfl,i,h⟩;have d:=Lu i;have c:=Lu h;clear i h);go_ret;exact⟨⟨_,rfl⟩,d,c⟩
def yZ(base:LU MN)(a c:Ly)(w:Lt)(o:(a:LJ)<=9223372036854775807)(k:0<a->∃b d,base=Lq ⟨b,d,Lw⟩/\∀i,i<a->∃x,w.cell? ⟨b,d+i,Lw⟩=Lq (.int .i64 x)) :MH Ya 24 #[.slice base a c] w λe j=>e=.returned (.pointer (Lq w.heap.size))/\w.gb j Lw/\aZ j w.heap.size 0:=by
 have q:=Lu k;clear k;go_enter Tp.x24,Tryz.ntmps24;go_wp2;go_ret;refine⟨rfl,Lr _ _ _,base,a,c,0,7640891576956012809,LC _,LS _ _,o,λl=>?_⟩;have⟨b,d,e,h⟩:=q.out l;have⟨r,f⟩:=h 0 l;have g:b<w.heap.size:=block_lt_of_cell f;refine⟨b,d,e,g,λi p=>?_⟩;have⟨x,n⟩:=h i p;exact⟨x,(Lr w _ Lw).cl n⟩
structure xX(p:Par):Prop where
 a:1<=p.mn
 b:p.mn<=8
 c:p.mn<=p.mx
 d:p.mx<=p.mn+2
 e:0<=p.bears
 f:p.bears<=30
 g:1<=p.tall
 h:p.tall<=2
def JW(p:Par):LA:=.agg #[p.mn,p.mx,p.bears,p.tall]
def ui{w c a:Lt}{b g:Ly}(h:w.gb c (Lq b))(k:Tn b g c a):w.gb a (Lq b):=h.t k.1
def uF(b g:Ly)(w:Lt)(H:aZ w b g)(hg:g<1000000):MH Ya 62 #[.pointer (Lq b)] w λe X=>∃p,xX p/\e=.returned (JW p)/\Tn b (g+7) w X:=by
 obtain⟨Z,C⟩:∃Z,Z=w.heap.size:=⟨_,rfl⟩;have I:b<Z:=by rw[C];exact H.lt
 obtain⟨y,n⟩:∃y,y=w.alloc (.cells #[.int .i64 0,.int .i64 0,.int .i64 0,.int .i64 0] 28):=⟨_,rfl⟩;have Q:y.heap[Z]?=Lq (.cells #[.int .i64 0,.int .i64 0,.int .i64 0,.int .i64 0] 28 (0,0)):=by rw[n,C];exact LS w _
 have R:w.gb y (Lq b):=by rw[n];exact Lr _ _ _
 have l:=Lu (show aZ y b g by rw[n];exact H.alloc _);have⟨S,M,c,q⟩:=dD C n Q R;clear C n Q R H;go_enter Tp.x62,Tryz.ntmps62;go_upto_region 1 with(fail);rw[<- S,<- M];go_upto_region 2 with(go_at_call 70;refine(km b g 1 8 _ l (by omega) (by omega) (by omega) (by omega) (by omega) (by omega)).mono ?_;rintro e V ⟨s,a8,rfl,a,-⟩;replace c:=Lu (blk a.1 (by simp;omega) c);replace q:=Lu (ui q a);replace l:=Lu a.2;clear a);have i:Z≠b:=by omega
 go_wp2_with (fail);refine(kr b (g+1) _ [0,0,1,2] _ (l.alloc _) (by omega) (Cx.laid _ [0,0,1,2] 4 rfl l.lt (by decide)) (by decide) (by decide)).mono ?_;rintro e w3 ⟨k,P,rfl,a,-⟩;simp only[MK,NQ,or_false] at P;have d:=Lr V (.cells #[.int .i64 0,.int .i64 0,.int .i64 1,.int .i64 2] 3) (Lq b);replace c:=Lu (blk a.1 (by simpa using i) (blk d (by simpa using i) c));replace q:=Lu ((q.t d).t a.1);replace l:=Lu a.2;clear a d;have b0:0<=k/\k<=2:=by omega
 clear P;go_wp2_with (go_at_call 68;refine(gj b _ _ _ l (by omega) (by omega)).mono ?_;rintro e U ⟨u,Y,rfl,a,-⟩;replace c:=Lu (blk a.1 (by simpa using i) c);replace q:=Lu (ui q a);replace l:=Lu a.2;clear a)
 rename_i u1 G wx u2 D wy wz
 refine(kr b (g+1+1+1+1+1) _ [0,u1,u2,u] _ (l.alloc _) (by omega) (Cx.laid _ [0,u1,u2,u] 4 rfl l.lt (by simp)) (by simp) (by simp)).mono ?_;rintro e w7 ⟨r,O,rfl,a,-⟩;simp only[MK,NQ,or_false] at O;have d:=Lr U (.cells #[.int .i64 0,u1,u2,u] 3) (Lq b);replace c:=Lu (blk a.1 (by simpa using i) (blk d (by simpa using i) c));replace q:=Lu ((q.t d).t a.1);replace l:=Lu a.2;clear a d;have a7:0<=r/\r<=30:=by omega
 clear O Y G D;have f:=λ(T:Lt) (h:T.heap[Z]?=Lq (.cells #[.int .i64 0,.int .i64 0,.int .i64 0,.int .i64 0] 28 (0,0))) (o:Ly)=>aB (o:=o) h;have F:=Lu f;clear f;go_wp2_with (go_at_call 70;refine(km b _ 1 2 _ l (by omega) (by omega) (by omega) (by omega) (by omega) (by omega)).mono ?_;rintro e N ⟨A,a6,rfl,a,-⟩;replace c:=Lu (blk a.1 (by simpa using i) c);replace q:=Lu (ui q a);replace l:=Lu a.2;clear a;have z0:=aa (o:=0) c rfl;have z1:=aa (o:=1) c rfl;have z2:=aa (o:=2) c rfl;have z3:=aa (o:=3) c rfl;have t0:=aB (o:=0) c;have t1:=aB (o:=1) c;have t2:=aB (o:=2) c;have t3:=aB (o:=3) c);obtain⟨W,x⟩:∃W,W=(((N.setCell Z (.int .i64 s)).setCell ⟨Z,1,Lw⟩ (.int .i64 (s+k))).setCell ⟨Z,2,Lw⟩ (.int .i64 r)).setCell ⟨Z,3,Lw⟩ (.int .i64 A):=⟨_,rfl⟩;have L:W.heap[Z]?=Lq (.cells #[s,.int .i64 (s+k),r,A] 28 (0,0)):=by rw[x,ar (ar (ar (ar c)))];rfl
 have z:N.gb W (Lq Z):=by rw[x];exact(((an _ _ _ _).t (an _ _ _ _)).t (an _ _ _ _)).t (an _ _ _ _)
 rw[<- x];exact Ot (v:=.agg #[s,.int .i64 (s+k),r,A]) (by simp[Om,Tryz.results62,go_sem,Mz,L]) rfl ⟨⟨s,s+k,r,A⟩,⟨by dsimp only;omega,by dsimp only;omega,by dsimp only;omega,by dsimp only;omega,by dsimp only;omega,by dsimp only;omega,by dsimp only;omega,by dsimp only;omega⟩,rfl,xu q z (by rintro j e;cases e;have:=S.out;omega),l.kept z (by rintro B e;cases e;exact I)⟩
end
end Go.Proofs.YtidgnkmjgioapaaGreat
section
namespace Go
def jI(z:LM LA):z=((Mr z.size).map λj=>z[j]?.getD LI).toArray:=by
 apply Array.ext
 ·simp
 ·intro i a b;simp[a]
end Go
namespace Go.Co
open Go
def bM(w:Lt)(B:Ly):Prop:=∃a e f,w.heap[B]?=Lq (.cells a e f)/\∀(i:Ly) v,a[i]?=Lq v->∃k m,v=Mp k m
def bK(a:Lx LA):Prop:=∀v∈a,∃k m,v=Mp k m
def bK.app{b a:Lx LA}(h:bK b)(d:bK a):bK (b++a):=λv c=>(Ob.1 c).elim (h v) (d v)
def vz{z:LM LA}(c:bK z.toList)(d:0<z.size)(n:Ly):bK (Ol z n).toList:=by
 intro v b;simp only[Ol,Array.toList_map,Nt] at b;obtain⟨i,_,rfl⟩:=b;have a:i % z.size<z.size:=Nat.mod_lt _ d;rw[getElem!_pos z _ a];exact c _ (Array.getElem_mem_toList a)
def ns{w:Lt}{B:Ly}{a:LM LA}{e:LZ}{f:Ly × Ly}(h:w.heap[B]?=Lq (.cells a e f))(b:bK a.toList):bM w B:=⟨a,e,f,h,λi v c=>b v (Oy.2 (NN c))⟩
def bM.all{w:Lt}{B:Ly}{a:LM LA}{e:LZ}{f:Ly × Ly}(h:bM w B)(c:w.heap[B]?=Lq (.cells a e f)):bK a.toList:=by
 obtain⟨n,l,k,b,j⟩:=h;rw[c] at b;cases b;intro v d;have⟨i,g⟩:=Qv.1 d;exact j i v (by simpa using g)
def pC{P:LV}(w:Lt)(t L:LZ)(base:Ly)(e:LZ)(i:Qg)(z:LA)(b SK:Ly)(V:P.underlying t=Lq (.slice e))(Y:P.info? e=Lq i)(hz:i.zero=Lq z)(l:i.size=b)(S:i.bytes=SK)(N:z.cells.size=b)(O:0<b)(v:LA)(n:Ly)(F:Lx LA)(h:w.ownsRow base e b v n F)(I:MN)(m c:Ly)(a:Lx LA)(Q:a.length=m*b)(d:∀j u,a[j]?=Lq u->w.cell? (I.add j)=Lq u)(h1:∀u∈a,u.oneCell'=LG)(hm:0<m)(T:n+m<=Qe)(f:(n+m)*SK<=140737488355328)(C:base<=w.heap.size)(H:Ly)(hH:w.heap.size=H)(hI:∀g,v.ownBlock=Lq g->bM w g)(B:bK a)(a7:bK z.cells.toList) :∃g r x,(PI #[t,t] L #[v,.slice (Lq I) m c]).run P w=.ok (.slice (Lq ⟨g,0,Lw⟩) (n+m) r) x /\x.ownsRow base e b (.slice (Lq ⟨g,0,Lw⟩) (n+m) r) (n+m) (F++a)/\w.grownBy x v.ownBlock/\(v.ownBlock=Lq g\/g=H)/\g<x.heap.size/\bM x g:=by
 have⟨g,r,x,X,h2,h3,h4,h5⟩:=run_append_lies (P:=P) w t L base e i z b SK V Y hz l S N O v n F h I m c a Q d h1 hm T f C H hH;refine⟨g,r,x,X,h2,h3,h4,h5,?_⟩;subst l;subst S;have W:n+m<=9223372036854775807:=by simp only[Qe] at T;omega
 have M:=λk=>vz (z:=z.cells) a7 (by rw[N];exact O) k;rcases h.2 with⟨rfl,rfl⟩ | ⟨U,q,D,rfl,c8,Z,b9,c3,b0,y⟩
 ·have p:=run_append_nil (P:=P) w t L e i z V Y hz I m c a Q d hm (by omega) (by have hb:=f;simp only[Mn] at hb;omega);have s:=X.symm.trans p;simp only[Result.ok.injEq,Value.slice.injEq,MM,Addr.mk.injEq] at s;obtain⟨⟨⟨rfl,_⟩,_⟩,rfl⟩:=s;exact ns (LS w.drew _) (by simpa using B.app (M _))
 ·by_cases o:n+m<=q
  ·have R:n*i.size+a.length<=D.size:=by rw[Q,b0,<- Sx];exact PF _ o
   have p:=run_append_room (P:=P) w t L e i V Y U n q D Z I m c a Q d h1 o R;have s:=X.symm.trans p;simp only[Result.ok.injEq,Value.slice.injEq,MM,Addr.mk.injEq] at s;obtain⟨⟨⟨rfl,_⟩,_⟩,rfl⟩:=s;have hc:=(hI g rfl).all Z;refine ns (setRow_heap w g D _ e _ Z) ?_;exact((bK.app (λv G=>hc v (QD G)) B).app λv G=>hc v (List.mem_of_mem_drop G))
  ·have A:∀j u,F[j]?=Lq u->w.cell? ((⟨U,0,Lw⟩:MN).add j)=Lq u:=h.cells (g:=U) rfl;have p:=run_append_grow (P:=P) w t L e i z V Y hz ⟨U,0,Lw⟩ n q F h.1 A I m c a Q d (by omega) (by omega) (growslice_fits (by omega) f);have s:=X.symm.trans p;simp only[Result.ok.injEq,Value.slice.injEq,MM,Addr.mk.injEq] at s;obtain⟨⟨⟨rfl,_⟩,_⟩,rfl⟩:=s;have hc:=(hI U rfl).all Z;refine ns (LS w.drew _) ?_;have hx:bK F:=λv G=>hc v (by rw[<- y] at G;exact QD G);simpa using(hx.app B).app (M _)
def kh{P:LV}{w:Lt}{o:NB}{a:ON}{K:ON->Lt->Prop}{Q:SS->ON->Lt->Prop}(s x:MS)(t:LZ)(k:o.op=.call { callee:=.builtin .append,args:=#[s,x],argTypes:=#[t,t] })(base:Ly)(e:LZ)(i:Qg)(z:LA)(size SK:Ly)(ht:P.underlying t=Lq (.slice e))(hi:P.info? e=Lq i)(hz:i.zero=Lq z)(hsize:i.size=size)(hby:i.bytes=SK)(hzs:z.cells.size=size)(hsz:0<size)(v:LA)(n:Ly)(xs:Lx LA)(hs:a.eval s=v)(hown:w.ownsRow base e size v n xs)(ad:MN)(m c:Ly)(news:Lx LA)(hx:a.eval x=.slice (Lq ad) m c)(hl:news.length=m*size)(hnews:∀j u,news[j]?=Lq u->w.cell? (ad.add j)=Lq u)(h1:∀u∈news,u.oneCell'=LG)(hm:0<m)(h63:n+m<=Qe)(hbytes:(n+m)*SK<=140737488355328)(hbase:base<=w.heap.size)(H:Ly)(hH:w.heap.size=H)(hI:∀g,v.ownBlock=Lq g->bM w g)(hni:bK news)(hzi:bK z.cells.toList)(h:∀g b d,d.ownsRow base e size (.slice (Lq ⟨g,0,Lw⟩) (n+m) b) (n+m) (xs++news)->w.grownBy d v.ownBlock->(v.ownBlock=Lq g\/g=H)->g<d.heap.size->bM d g->K (a.put o.dst (.slice (Lq ⟨g,0,Lw⟩) (n+m) b)) d):o.wp P a w K Q:=by
 have⟨g,b,d,f,y,r,q,p,l⟩:=pC (P:=P) w t o.type base e i z size SK ht hi hz hsize hby hzs hsz v n xs hown ad m c news hl hnews h1 hm h63 hbytes hbase H hH hI hni hzi;unfold Oper.wp OZ;simp only[k,resolve,invoke,builtin,NF,RO,NC,RQ,PS,Ra,hs,hx,f];exact h g b d y r q p l
def bM.kept{w a:Lt}{j:Ly}{r:LU Ly}(h:bM w j)(i:w.grownBy a r)(g:Lq j≠r:=by simp):bM a j:=by
 obtain⟨l,e,f,d,k⟩:=h;exact⟨l,e,f,(i.block j (Lz.1 d).1 g).trans d,k⟩
def iM{P:LV}{w:Lt}{f:LM NB}{o:NB}{a:ON}{K:ON->Lt->Prop}{Q:SS->ON->Lt->Prop}{E:Prop}(k:o.guard=Lw)(s x:MS)(t:LZ)(l:o.op=.call { callee:=.builtin .append,args:=#[s,x],argTypes:=#[t,t] })(base:Ly)(e:LZ)(i:Qg)(z:LA)(size SK:Ly)(ht:P.underlying t=Lq (.slice e))(hi:P.info? e=Lq i)(hz:i.zero=Lq z)(hsize:i.size=size)(hby:i.bytes=SK)(hzs:z.cells.size=size)(hsz:0<size)(v:LA)(n:Ly)(xs:Lx LA)(hs:a.eval s=v)(hown:w.ownsRow base e size v n xs)(ad:MN)(m c:Ly)(news:Lx LA)(hx:a.eval x=.slice (Lq ad) m c)(hl:news.length=m*size)(hnews:∀j u,news[j]?=Lq u->w.cell? (ad.add j)=Lq u)(h1:∀u∈news,u.oneCell'=LG)(hm:0<m)(h63:n+m<=Qe)(hbytes:(n+m)*SK<=140737488355328)(hbase:base<=w.heap.size)(H:Ly)(hH:w.heap.size=H)(hI:∀g,v.ownBlock=Lq g->bM w g)(hni:bK news)(hzi:bK z.cells.toList)(h:∀g d b,b.ownsRow base e size (.slice (Lq ⟨g,0,Lw⟩) (n+m) d) (n+m) (xs++news)->w.grownBy b v.ownBlock->(v.ownBlock=Lq g\/g=H)->g<b.heap.size->bM b g->K (a.put o.dst (.slice (Lq ⟨g,0,Lw⟩) (n+m) d)) b) :if MA o (Od f a.tmps)=LG then Oper.wp P o a w K Q else E:=by
 rw[if_pos (by simp[MA,k])];exact kh s x t l base e i z size SK ht hi hz hsize hby hzs hsz v n xs hs hown ad m c news hx hl hnews h1 hm h63 hbytes hbase H hH hI hni hzi h
def lP{P:LV}{w:Lt}{k:LM NB}{d:Lx NB}{o:NB}{a:ON}{Q:SS->ON->Lt->Prop}(l:o.guard=Lw)(s x:MS)(t:LZ)(p:o.op=.call { callee:=.builtin .append,args:=#[s,x],argTypes:=#[t,t] })(base:Ly)(e:LZ)(i:Qg)(z:LA)(size SK:Ly)(ht:P.underlying t=Lq (.slice e))(hi:P.info? e=Lq i)(hz:i.zero=Lq z)(hsize:i.size=size)(hby:i.bytes=SK)(hzs:z.cells.size=size)(hsz:0<size)(v:LA)(n:Ly)(xs:Lx LA)(hs:a.eval s=v)(hown:w.ownsRow base e size v n xs)(ad:MN)(m c:Ly)(news:Lx LA)(hx:a.eval x=.slice (Lq ad) m c)(hl:news.length=m*size)(hnews:∀j u,news[j]?=Lq u->w.cell? (ad.add j)=Lq u)(h1:∀u∈news,u.oneCell'=LG)(hm:0<m)(h63:n+m<=Qe)(hbytes:(n+m)*SK<=140737488355328)(hbase:base<=w.heap.size)(H:Ly)(hH:w.heap.size=H)(hI:∀g,v.ownBlock=Lq g->bM w g)(hni:bK news)(hzi:bK z.cells.toList)(h:∀g b f,f.ownsRow base e size (.slice (Lq ⟨g,0,Lw⟩) (n+m) b) (n+m) (xs++news)->w.grownBy f v.ownBlock->(v.ownBlock=Lq g\/g=H)->g<f.heap.size->bM f g->Ua P k Q d (a.put o.dst (.slice (Lq ⟨g,0,Lw⟩) (n+m) b)) f):Ua P k Q (o::d) a w :=
 wpList_plain l λ_ q=>kh s x t p base e i z size SK ht hi hz hsize hby hzs hsz v n xs hs hown ad m c news hx hl hnews h1 hm h63 hbytes hbase H hH hI hni hzi λg b f C B A y r=>q _ _ (h g b f C B A y r)
end Go.Co
end
namespace Go.Proofs.YtidgnkmjgioapaaGreat
section
open Go.RowKit Go.Co
def Tp.und22:Ya.underlying 22=Lq (.slice 28):=by rw[Tp.und];exact Tryz.underlying22
def Tp.info28p:(Ya.info? 28).map (λi=>(i.zero,i.size,i.bytes))=Lq (Lq (.agg #[.int .i64 0,.int .i64 0,.int .i64 0,.int .i64 0]),4,32):=by kernel_rfl
def kD(p:Par):Lx LA:=[.int .i64 p.mn,.int .i64 p.mx,.int .i64 p.bears,.int .i64 p.tall]
def eQ(a:Lx Par):Lx LA:=a.flatMap kD
def yT(a:Lx Par)(p:Par):eQ (a++[p])=eQ a++kD p:=by simp[eQ]
def tt(a:Lx Par)(i:Ly)(p:Par)(h:a[i]?=Lq p)(d:Ly)(c:d<4):(eQ a)[i*4+d]?=(kD p)[d]?:=by
 induction a generalizing i with
 | nil=>simp at h
 | cons q t b=>
  unfold eQ;rw[Oo];cases i with
  | zero=>
   simp at h;subst h;rw[Mv (by simp[kD];omega),Nat.zero_mul,Mn]
  | succ i=>
   simp at h;rw[Nz (by simp[kD];omega)];rw[show(i+1)*4+d - (kD q).length=i*4+d from by simp[kD];omega];exact b i h
def aC.own{j n:Ly}{w:Lt}{v:LA}{a:Lx Par}(h:w.ownsRow j 28 4 v n (eQ a))(y:a.length=n)(o:(a.length:LJ)<=1000000):aC j w.heap.size w v a:=by
 subst y;obtain⟨G,C⟩:=h;rcases C with⟨rfl,r⟩ | ⟨g,f,c,rfl,B,p,F,hm,D,x⟩
 ·exact⟨Lw,0,by rw[r],o,λe=>absurd (MT r) e⟩
 ·refine⟨_,f,rfl,o,λ_=>⟨g,0,c,(0,0),rfl,B,(Lz.1 p).1,p,λi z=>?_⟩⟩;have l:a[i]?=Lq a[i]:=LO z;have b:∀d,d<4->c[i*4+d]?=(kD a[i])[d]?:=λd A=>by
   have q:(c.toList.take (a.length*4))[i*4+d]?=(kD a[i])[d]?:=by rw[x];exact tt a i _ l d A
   rw[Oi (by omega)] at q;simpa using q
  have k:=b 0 (by omega);have u:=b 1 (by omega);have t:=b 2 (by omega);have s:=b 3 (by omega);rw[Nat.add_zero] at k;refine⟨_,l,?_,?_,?_,?_⟩;all_goals simp only[Mn]
  ·exact k
  ·exact u
  ·exact t
  ·exact s
def pN{P:LV}{c:Og}{Q:SS->ON->Lt->Prop}{a:ON}{w:Lt}(F:Lt->Prop)(b:F w)(h:∀u,F u->c.wp P Q a u):c.wp P Q a w:=h w b
def oz{w:Lt}{k:Ly}{o:SQ}(h:w.heap[k]?=Lq o):k<w.heap.size:=(Lz.1 h).1
def YR(b g Z X:Ly)(u:Ly)(a:LJ)(w:Lt)(i:LA)(wr:Lt):Prop :=
 ∃(k:Ly) (fv:LA) (ps:Lx Par),i=.int .i64 ((u:LJ) - k)/\k<=u/\ps.length=k/\(∀p∈ps,xX p) /\
  wr.heap[X]?=Lq (.cells #[fv,a] 24 (0,0))/\wr.ownsRow (X+1) 28 4 fv k (eQ ps)/\aZ wr b (g+7*k)/\w.gb wr (Lq b)/\X<wr.heap.size/\wr.heap[Z]?=Lq (.cells #[.slice Lw 0 0,.int .i64 0] 24 (0,0))/\∀j,fv.ownBlock=Lq j->bM wr j
def YR.step{b g Z X u k d f:Ly}{c:LJ}{w a:Lt}{i:Lx Par}{p:Par}(H:k<u)(s:i.length=k)(t:∀x∈i,xX x)(r:xX p){G:LA}(o:a.heap[X]?=Lq (.cells #[G,c] 24 (0,0)))(n:a.ownsRow (X+1) 28 4 (.slice (Lq d) (k+1) f) (k+1) (eQ i++kD p))(C:aZ a b (g+7*k+7))(F:w.gb a (Lq b))(B:w.heap.size<=X)(y:b<X)(A:a.heap[Z]?=Lq (.cells #[.slice Lw 0 0,.int .i64 0] 24 (0,0)))(z:Z<X)(D:bM a d) :YR b g Z X u c w (.int .i64 ((u:LJ) - k - 1)) (a.setCell X (.slice (Lq d) (k+1) f)):=by
 have l:d≠X:=by have:=(n.lt d rfl).1;omega
 refine⟨k+1,_,i++[p],by simp;omega,by omega,by simp[s],?_,by rw[ar o];rfl,?_,?_,xu F (an _ X 0 _) (by rintro j e;cases e;exact B),?_,blk (an _ _ _ _) (by simp;omega) A,λj e=>by
  simp[MP] at e;subst e;exact D.kept (an _ X 0 _) (by simpa using l)⟩
 ·intro x q;rcases Ob.1 q with h | h
  ·exact t x h
  ·rw[Nl.1 h];exact r
 ·rw[yT];exact n.kept (an _ X 0 _) (.inr (by simp[MP];exact l))
 ·rw[show g+7*(k+1)=g+7*k+7 by omega];exact C.set y
 ·have:=(Lz.1 o).1;simpa[NS] using this
structure Hv(n:Ly)(ps:Lx Par)(lim:LJ):Prop where
 len:ps.length<=n
 each:∀p∈ps,xX p
 l1:2<=lim
 l2:lim<=6\/lim=12
def ye(b g n:Ly)(w:Lt)(ht:aZ w b g)(hg:g<100000)(hn:n<=1000):MH Ya 33 #[.pointer (Lq b),n] w λe w'=>∃D a v,Hv n D a/\e=.returned (.agg #[v,.int .i64 a])/\Tn b (g+3+7*n) w w'/\aC w.heap.size w'.heap.size w' v D/\∀ad m c,v=.slice (Lq ad) m c->bM w' ad.block:=by
 have⟨i0,e8,d7,d6,d5⟩:=Pd Tp.info28p;obtain⟨Z,hZ⟩:∃Z,Z=w.heap.size:=⟨_,rfl⟩;have g5:b<Z:=by rw[hZ];exact ht.lt
 have⟨HT,HZ⟩:=aS ht hZ;clear ht hZ;go_enter Tp.x33,Tryz.ntmps33;go_upto_region 1 with(fail);rw[<- HZ];refine pN (λu=>u.heap[Z]?=Lq (.cells #[.slice Lw 0 0,.int .i64 0] 24 (0,0))/\w.gb u (Lq b)/\aZ u b g) ⟨by rw[HZ];exact LS _ _,Lr _ _ _,HT.alloc _⟩ (λw1 hF=>?_);obtain⟨r1,g1,t1⟩:=hF;have⟨R1,G1,T1⟩:=bL r1 g1 t1;clear r1 g1 t1;have r:Z≠b:=by omega
 go_upto_region 2 with(first
  | (go_at_call 70;refine(km b g 2 6 _ T1 (by omega) (by omega) (by omega) (by omega) (by omega) (by omega)).mono ?_;rintro e s ⟨lo,e7,rfl,L,-⟩;have U:=Lu L;clear L)
  | (go_at_call 90;refine(kr b (g+1) _ [lo,12] _ (U.2.alloc _) (by omega) (Cx.laid _ [lo,12] 2 rfl U.2.lt (by simp)) (by simp) (by simp)).mono ?_;rintro e w3 ⟨a,d,rfl,I,-⟩;have N3:=Lu I;have z:=Lu d;clear I d))
 have d:=z.out;simp only[MK,NQ,or_false] at d;have M:2<=a/\(a<=6\/a=12):=by omega
 clear d z e7;have A:=Lr s (.cells #[lo,.int .i64 12] 3) (Lq b);have g3:w.gb w3 (Lq b):=((G1.t U.1).t A).t N3.1;have z3:=blk N3.1 (by simpa using r) (blk A (by simpa using r) (blk U.1 (by simpa using r) R1));obtain⟨X,hX⟩:∃X,X=w3.heap.size:=⟨_,rfl⟩;rw[<- hX];refine pN (λu=>u.heap[X]?=Lq (.cells #[.slice Lw 0 0,.int .i64 a] 24 (0,0))/\w.gb u (Lq b)/\aZ u b (g+2)/\u.heap[Z]?=Lq (.cells #[.slice Lw 0 0,.int .i64 0] 24 (0,0))) ⟨by rw[hX];exact LS _ _,g3.t (Lr _ _ _),N3.2.alloc _,aD z3⟩ (λw4 hF=>?_);obtain⟨x4,g4,t4,z4⟩:=hF;have g7:Z<X:=by have:=oz z3;omega
 have d8:w.heap.size<=X:=by have:=HZ.out;omega
 have⟨X4,G4,T4,Z4⟩:=dD x4 g4 t4 z4;clear A g3 z3 hX x4 g4 t4 z4 R1 G1 T1 U N3;have g6:b<X:=by omega
 go_wp2_with (go_at_call 68;refine(gj b (g+2) _ _ T4 (by omega) (by omega)).mono ?_;rintro e w5 ⟨u,hu,rfl,H,-⟩;have T:=Lu H;clear H);obtain⟨m,rfl⟩:=Qb hu.1;have hm:m<=n:=by omega
 have x5:=blk T.1 (by simp;omega) X4;have z5:=blk T.1 (by simpa using r) Z4;have⟨X5,Z5⟩:=aS x5 z5;have G5:=Lu (G4.t T.1);have T5:=Lu T.2;clear x5 z5 X4 Z4 G4 T4 T hu;go_loopw [6] (YR b (g+3) Z X m a w) (λi _=>(intOf i).toNat)
 case atStart=>exact⟨0,_,[],by simp,by omega,rfl,by simp,X5,OF _ _ _ _,by simpa using T5.out,G5,oz X5,Z5,λj e=>by cases e⟩
 case round=>
  obtain⟨k,S,D,rfl,h1,h2,h3,h4,h5,h6,h7,h8,h9,Q⟩:=hrel;have a6:=Lu Q;have c0:wr.cell? X=Lq S:=aa h4 rfl;have c1:wr.cell? ⟨X,1,Lw⟩=Lq (.int .i64 a):=aa h4 rfl;have⟨H4,x,H6,H7,Y,H3,F⟩:=BP h4 h5 h6 h7 h2 h3 h9;clear h4 h5 h6 h7 h2 h3 h9 Q;by_cases e6:k<m
  ·have n3:(0:LJ)<(m:LJ) - (k:LJ):=by omega
   have r4:IntKind.i64.wrap ((m:LJ) - (k:LJ) - 1)=(m:LJ) - (k:LJ) - 1:=MI _ (by omega);have e9:Lq X≠S.ownBlock:=λe=>by have:=(x.lt X e.symm).1;omega
   have fX:wr.frozen? ⟨X,0,Lw⟩=LH:=aB H4;have O:b<X+1:=by omega
   go_wp2_with (fail);go_region_law
    (first
     | (go_simp;go_at_call 62;refine(uF b (g+3+7*k) _ (by exact H6) (by omega)).mono ?_;rintro e s ⟨p,hp,rfl,HN⟩;have e4:wr.heap.size<=s.heap.size:=HN.1.size;have r3:X<s.heap.size:=(by omega);have r9:s.cell? X=Lq S:=aa (blk HN.1 (by simp;omega) H4) rfl;have f:=Lu HN;have HP:=Lu hp;clear HN hp;unfold JW)
     | (refine iM (by rfl) _ _ _ (by rfl) (X+1) 28 i0 _ 4 32 Tp.und22 e8 d7 d6 d5 rfl (by omega) S k (eQ D) (by rfl) (by exact(CV f.1 x O).alloc _) ⟨s.heap.size,0,Lw⟩ 1 1 (kD p) (by rfl) (by rfl) (Of (cs:=(kD p).toArray) (t:=28) (fr:=(0,0)) (LS s _)) (by simp[kD,OV]) (by omega) (by unfold Qe;omega) (by omega) (by simp at e4 ⊢;omega) (s.heap.size+1) (by simp) (λj e=>((((a6 j e).kept (ak _ Lw)).kept f.1 (λe2=>by have:=(x.lt j e).1;cases e2;omega)).kept (Lr s _ Lw))) (by intro v G;simp[kD] at G;rcases G with rfl | rfl | rfl | rfl<;>exact⟨_,_,rfl⟩) (by intro v G;simp[Value.cells] at G;exact⟨_,_,G⟩) ?_;intro gg s1 w5 h l r7 r6 y;have l5:=Lu y;clear y;have B5:=blk l e9 (aD (blk f.1 (by simp;omega) H4));have r8:w5.cell? X=Lq S:=aa B5 rfl;have c5:w5.frozen? ⟨X,0,Lw⟩=LH:=aB B5;have l7:=Lu B5;have HG:=Lu l;have HO:=Lu h;clear B5 h))
   all_goals
    have N:=xu (((H7.t (ak _ _)).t f.1).t (Lr s _ _)) HG (λj e=>by have:=(x.lt j e).1;omega);have V:aZ w5 b (g+3+7*k+7):=((f.2.alloc _).kept HG (λj e=>by have:=(x.lt j e).1;omega));have P:=blk HG (λe=>by have:=(x.lt Z e.symm).1;omega) (aD (blk f.1 (by simpa using r) F));have a7:=YR.step (g:=g+3) (w:=w) e6 Y H3 HP l7 HO V N d8 g6 P g7 l5;have FF:=Lu a7;clear a7 N V P;go_wp2;go_roundw
    case rel=>exact FF
    case measure=>simp[intOf];omega
  ·obtain rfl:k=m:=by omega
   obtain⟨fa,fm,fc,rfl⟩:=cF x;have d0:=aa F (o:=0) rfl;have d1:=aa F (o:=1) rfl;have f0:=aB F (o:=0);have f1:=aB F (o:=1);go_wp2;obtain⟨W,C⟩:∃W,W=(wr.setCell Z (.slice fa fm fc)).setCell ⟨Z,1,Lw⟩ (.int .i64 a):=⟨_,rfl⟩;have k0:W.heap[Z]?=Lq (.cells #[.slice fa fm fc,.int .i64 a] 24 (0,0)):=by rw[C,ar (ar F)];rfl
   have q:wr.gb W (Lq Z):=by rw[C];exact(an _ _ _ _).t (an _ _ _ _)
   have r5:D.length<=1000:=by have:=Y.out;omega
   have e5:=(aC.own x Y (by omega)).kept q (by rintro R e;cases e;exact .inl (by omega));rw[<- C];refine Ot (v:=.agg #[.slice fa fm fc,.int .i64 a]) (by simp[Om,Tryz.results33,go_sem,Mz,k0]) rfl ⟨D,a,_,⟨by have:=Y.out;omega,H3,M.1,M.2⟩,rfl,⟨xu H7 q (by rintro j e;cases e;have:=HZ.out;omega),(H6.kept q (by rintro B e;cases e;exact g5)).mono (by have:=Y.out;omega)⟩,e5.mono (by omega) q.size,λad m2 c2 e=>by
    cases e;exact(a6 _ rfl).kept q (λe2=>by have:=(x.lt _ rfl).1;cases e2;omega)⟩
def yf(b g n:Ly)(w:Lt)(f:aZ w b g)(i:g<100000)(h:n<=1000):MH Ya 33 #[.pointer (Lq b),n] w λe d=>∃c a v,Hv n c a/\e=.returned (.agg #[v,.int .i64 a])/\Tn b (g+3+7*n) w d/\aC w.heap.size d.heap.size d v c :=
 (ye b g n w f i h).mono λ_ _ ⟨c,a,v,o,l,k,j,_⟩=>⟨c,a,v,o,l,k,j⟩
end
section
open Go.RowKit
structure kT(n:Ly)(l:Lx LJ):Prop where
 len:l.length=n
 nd:l.Nodup
 all:∀x∈l,0<=x/\x<n
def mY(l:Lx LJ)(i k:Ly):Lx LJ:=(l++[l[k]?.getD 0]).set k i
def DH{l:Lx LJ}{k:Ly}{x:LJ}(y:LJ)(h:l[k]?=Lq x):(l.set k y++[x]).Perm (y::l):=by
 induction l generalizing k with
 | nil=>simp at h
 | cons a t b=>
  cases k with
  | zero=>
   simp at h;subst h;simp only[TN,Mk];exact(Rr (l₁:=t) (l₂:=[a])).cons y
  | succ k=>
   simp at h;simp only[TO,Mk];exact((b h).cons a).trans (List.Perm.swap _ _ _)
def kT.step{i k:Ly}{l:Lx LJ}(h:kT i l)(d:k<=i):kT (i+1) (mY l i k):=by
 have b:(mY l i k).Perm ((i:LJ)::l):=by
  unfold mY;by_cases e:k<i
  ·obtain⟨x,a⟩:∃x,l[k]?=Lq x:=⟨_,LO (by rw[h.len];exact e)⟩;rw[a,List.set_append_left _ _ (by rw[h.len];exact e)];exact DH _ a
  ·obtain rfl:k=i:=by omega
   rw[List.set_append_right _ _ (by rw[h.len];exact LC _),h.len,Nat.sub_self];exact Rr (l₁:=l) (l₂:=[(k:LJ)])
 refine⟨by rw[b.length_eq,LX,h.len],b.nodup_iff.2 (List.nodup_cons.2 ⟨λhm=>?_,h.nd⟩),λx a=>?_⟩
 ·have:=h.all _ hm;omega
 ·rcases MK.1 (b.mem_iff.1 a) with rfl | c
  ·omega
  ·have:=h.all x c;omega
def ow(b g n:Ly)(w:Lt)(z:aZ w b g)(hg:g<100000)(hn:n<=1000):MH Ya 72 #[.pointer (Lq b),n] w λe t=>∃l v,kT n l/\e=.returned v/\Tn b (g+n) w t/\ai w.heap.size t.heap.size t v l:=by
 have h:∀w,(Tu 29 (.int .i64 n) (.int .i64 n)).run Ya w=.ok (.slice (Lq ⟨w.heap.size,0,Lw⟩) n n) (w.alloc (.cells (RP #[.int .i64 0] n) 3)):=λw=>by
  have:=run_make (P:=Ya) w 29 3 VV (.int .i64 0) (by rw[Tp.und];exact QC) (by rw[qb _ _ Tp.tables];exact Tryz.type3) rfl .i64 .i64 n n (by omega) (by omega) (by simp[VV];omega) (by omega);simpa[Value.cells,VV] using this
 obtain⟨D,C⟩:∃D,D=w.heap.size:=⟨_,rfl⟩;have A:b<D:=by rw[C];exact z.lt
 have⟨HT,s,H⟩:=bL z C h;clear z C h;go_enter Tp.x72,Tryz.ntmps72;go_upto_region 2 with(first | rw[H]);rw[<- s];show Code.wp _ _ _ _ (w.alloc (.cells (RP #[.int .i64 0] n) 3));refine pN (λu=>w.gb u (Lq b)/\aZ u b g/\fP u D n λ_=>0) ⟨Lr _ _ _,HT.alloc _,by rw[s];exact fP.made w n⟩ (λw1 hF=>?_);obtain⟨W,L,N⟩:=hF;have⟨G1,T1,R1⟩:=bL W L N;clear W L N;go_wp2;go_loopw [6] (λy wr=>∃(i:Ly) (l:Lx LJ),y=.int .i64 i/\i<=n/\kT i l/\w.gb wr (Lq b)/\aZ wr b (g+i)/\fP wr D n λj=>l[j]?.getD 0) (λy _=>(n - intOf y).toNat)
 case atStart=>exact⟨0,[],rfl,by omega,⟨rfl,List.nodup_nil,by simp⟩,G1,T1,R1.congr λi hi=>by simp⟩
 case round=>
  obtain⟨i,l,rfl,hi,R,V,T,U⟩:=hrel;have⟨a,Y,q,c⟩:=dD R V T U;clear R V T U;by_cases o:i<n
  ·have Q:(i:LJ)<(n:LJ):=by omega
   have Z:IntKind.i64.wrap ((i:LJ)+1)=(i:LJ)+1:=MI _ (by omega);go_upto_region 6 with(go_at_call 68;refine(gj b (g+i) _ _ q (by omega) (by omega)).mono ?_;rintro e I ⟨u,O,rfl,f,-⟩;have G:=Lu f;clear f);obtain⟨k,rfl⟩:=Qb O.1;have hk:k<=i:=by omega
   have a6:(k:LJ)<(n:LJ):=by omega
   have d:=c.out.kept G.1 (by simp;omega);have ck:=d.cell (i:=k) (by omega);have ci:=d.cell (i:=i) o;have fi:=d.thaw i;have r:=d.set (i:=i) (x:=l[k]?.getD 0) o;have b8:=r.cell (i:=k) (by omega);have fk:=r.thaw k;have M:=r.set (i:=k) (x:=(i:LJ)) (by omega);have R7:=Lu M;have b6:=d.lt;clear d r M O;go_wp2;go_roundw
   case rel=>
    have p:I.gb ((I.setCell ⟨D,i,Lw⟩ (.int .i64 (l[k]?.getD 0))).setCell ⟨D,k,Lw⟩ (.int .i64 i)) (Lq D):=(an _ _ _ _).trans (an _ _ _ _);refine⟨i+1,mY l i k,by simp,by omega,a.step hk,xu (Y.trans G.1) p (by rintro j e;cases e;have:=s.out;omega),G.2.kept p (by rintro B e;cases e;exact A),R7.congr λj S=>?_⟩;unfold mY;by_cases F:j=k
    ·subst F;rw[if_pos rfl,Pn (by simp[a.out.len];omega)];rfl
    ·rw[if_neg F,PZ (λe=>F e.symm)];by_cases X:j=i
     ·subst X;rw[if_pos rfl,Nz (by rw[a.len];exact LC _),a.len,Nat.sub_self];rfl
     ·rw[if_neg X];by_cases e3:j<i
      ·rw[Mv (by rw[a.len];exact e3)]
      ·rw[Nc (by rw[a.len];omega),Nc (by simp[a.out.len];omega)]
   case measure=>simp[intOf];omega
  ·obtain rfl:i=n:=by omega
   go_wp2;go_ret;exact⟨l,_,a,rfl,⟨Y,q⟩,c.ints (by have:=s.out;omega) c.lt a.len (by omega) λj S=>by rw[LO (by rw[a.len];exact S)];rfl⟩
end
end Go.Proofs.YtidgnkmjgioapaaGreat
namespace Go.Proofs
section
open Go Go.RowKit
def Tp.x200:Yc 200 Tryz.f200:=Yd
def Tp.x211:Yc 211 Tryz.f211:=Yd
def Tp.x217:Yc 217 Tryz.f217:=Yd
@[simp] theorem Tp.callPf2:Ye 200/\Ye 211/\Ye 217:=⟨Yf 200,Yf 211,Yf 217⟩
end
end Go.Proofs
namespace Go.Proofs.YtidgnkmjgioapaaGreat
section
open Go.RowKit
def lk(x:LJ)(w:Lt):MH Ya 198 #[x] w λe a=>e=.returned (.bool LH)/\w=a:=by
 go_enter Tp.x198,Tryz.ntmps198;go_wp2;go_ret;exact⟨rfl,rfl⟩
def xd(x y:LJ)(w:Lt):MH Ya 217 #[x,y] w λe a=>e=.returned (.bool (decide (x<y)))/\w=a:=by
 go_enter Tp.x217,Tryz.ntmps217;go_wp2_with (go_at_call 198;refine(lk _ _).mono ?_;rintro e b ⟨rfl,rfl⟩);go_ret;exact⟨rfl,rfl⟩
def BJ(n:Ly)(h:n<=12)(w:Lt):MH Ya 197 #[.int .u64 n] w λe a=>∃v,e=.returned (.int .i64 v)/\w=a:=by
 obtain rfl | rfl | rfl | rfl | rfl | rfl | rfl | rfl | rfl | rfl | rfl | rfl | rfl:n=0\/n=1\/n=2\/n=3\/n=4\/n=5\/n=6\/n=7\/n=8\/n=9\/n=10\/n=11\/n=12:=by omega
 all_goals
  go_enter Tp.x197,Tryz.ntmps197;go_wp2;go_ret;exact⟨_,rfl,rfl⟩
end
end Go.Proofs.YtidgnkmjgioapaaGreat
section
namespace Go
section
variable{P:LV}{ops:LM NB}{md:PL}{Q:SS->ON->Lt->Prop}{S:Lt->Prop}
def cw(P:LV)(md:PL)(ops:LM NB)(Q:SS->ON->Lt->Prop)(S:Lt->Prop)(n:Ly)(L:LM MC->ON->Lt->Prop):Ly->LM MC->ON->Lt->Prop
 | 0,listed,a,w=>L listed a w
 | f+1,listed,a,w=>
  Mi md ops listed≠[]/\∀i∈Mi md ops listed,i<n/\wpOp P ops Q i (λc b=>S b/\cw P md ops Q S n L f (listed.setIfInBounds i LG) c b) a w
def ez{n g:Ly}{L:LM MC->ON->Lt->Prop}(b:∀listed a w,L listed a w->wpAny P md ops Q g listed a w) :∀(f:Ly) (listed:LM MC) (a:ON) (w:Lt),cw P md ops Q S n L f listed a w->wpAny P md ops Q (f+g) listed a w
 | 0,listed,a,w,h=>by rw[Mn];exact b _ _ _ h
 | f+1,listed,a,w,h=>by
  rw[show f+1+g=(f+g)+1 by omega];exact⟨λe=>absurd e h.1,λi d=>wpOp_mono (λk c j=>ez b f _ k c j.2) (h.2 i d).2⟩
def ub{n i:Ly}{y:NB}{v:LA}{L:LM MC->ON->Lt->Prop}(W:ops[i]?=Lq y)(s:∀(j:Ly) (o:NB) N b,ops[j]?=Lq o->o.op≠.select N b)(Y:Ux md ops n=LG)(hc:Uc md ops n=LG)(Z:n<ops.size)(G:i<n)(hQ:∀c a w,Q (.panic c) (a.put y.dst v) w->Q (.panic c) a w)(B:∀listed a w,L listed a w->∀j∈Mi md ops listed,n<=j) :∀(f:Ly) (listed:LM MC) (a:ON) (w:Lt),HeadInv md ops n listed ->(∀j x,ops[j]?=Lq x->j≠i->listed.getD j LG=LH->(∀e∈x.after,MW md e=LG->e.on≠i)->y.apart ops x=LG) ->i∈Mi md ops listed->YieldsIf P ops S y v a->S w ->cw P md ops Q S n L f (listed.setIfInBounds i LG) (a.put y.dst v) w->cw P md ops Q S n L (f+1) listed a w:=by
 intro f;induction f with
 | zero=>
  intro listed a w p _ t O M H;have g:=(mem_ready.1 t).1;refine⟨λh=>(by rw[h] at t;cases t),λj A=>?_⟩;have q:j<n:=by
   rcases NK j n with h | h
   ·exact h
   ·exact absurd A (tail_waits Y hc Z p _ i rfl G g j h)
  refine⟨q,?_⟩;by_cases d:j=i
  ·subst d;exact O.wpOp W M ⟨M,H⟩
  ·have:=B _ _ _ H j (Xd A d);omega
 | succ f ih=>
  intro listed a w p l t O M H;have g:=(mem_ready.1 t).1;refine⟨λh=>(by rw[h] at t;cases t),λj A=>?_⟩;have q:j<n:=by
   rcases NK j n with h | h
   ·exact h
   ·exact absurd A (tail_waits Y hc Z p _ i rfl G g j h)
  refine⟨q,?_⟩;by_cases d:j=i
  ·subst d;exact O.wpOp W M ⟨M,H⟩
  ·have T:=(H.2 j (Xd A d)).2;have⟨u,x,z,I⟩:=mem_ready.1 A;have D:∀e∈x.after,MW md e=LG->e.on≠i:=λe he hb X=>by
    have T:=I e he hb;rw[X,getD_both g] at T;cases T
   have h2:=wpOp_putIf z (l j x z d u D) (λN b=>s i y N b W) (λN b=>s j x N b z) hQ O T;have r:∀k C,ops[k]?=Lq C->k≠i->(listed.setIfInBounds j LG).getD k LG=LH ->
     (∀e∈C.after,MW md e=LG->e.on≠i)->y.apart ops C=LG:=λk C hk V g U=>by
    refine l k C hk V ?_ U;by_cases F:j=k
    ·subst F;exact u
    ·rw[getD_set_ne LG F] at g;exact g
   refine wpOp_mono (λa' w' R=>⟨R.2.1,ih (listed.setIfInBounds j LG) a' w' (p.set A q) r (Xd t (Ne.symm d)) R.1 R.2.1 ?_⟩) h2;rw[Array.setIfInBounds_comm _ _ d];exact R.2.2
def xj(md:PL)(ops:LM NB)(n:Ly)(listed:LM MC):MC :=
 decide (listed.size=ops.size) && (Mr ops.size).all (λj=>!listed.getD j LH || ((ops[j]?).map (·.after.all λe=>!MW md e || listed.getD e.on LH)).getD LG) &&
  (Mr ops.size).all λt=>decide (t<n) || !listed.getD t LG
def BQ{n:Ly}{listed:LM MC}(h:xj md ops n listed=LG):HeadInv md ops n listed:=by
 simp only[xj,Mg,decide_eq_true_eq] at h;obtain⟨⟨l,k⟩,i⟩:=h;refine⟨l,λj o b c e d f=>?_,λt p a=>?_⟩
 ·have:=MD.1 k j (Nj.2 (Lz.1 b).1);simp only[c,b,Ri,Bool.false_or,Ng,LQ] at this;have g:=(NG.1 this) e d;simpa[f] using g
 ·have:=MD.1 i t (Nj.2 a);simp only[OH,decide_eq_true_eq,OM] at this;exact this.elim (λe=>absurd e (by omega)) id
def oM{n i g:Ly}{b:NB}{v:LA}{f:Ly}{listed:LM MC}{a:ON}{w:Lt}{R:ON->Lt->Prop}(d:ops[i]?=Lq b)(e:(UD ops && Ux md ops n && Uc md ops n && decide (n<ops.size) && decide (i<n) && xj md ops n listed && WE md ops listed i && (Mi md ops listed).contains i)=LG)(l:∀c a w,Q (.panic c) (a.put b.dst v) w->Q (.panic c) a w)(j:YieldsIf P ops S b v a)(k:S w)(h:cw P md ops Q S n (λlisted a w=>QT md ops g n listed=LG/\R a w) f (listed.setIfInBounds i LG) (a.put b.dst v) w) :cw P md ops Q S n (λlisted a w=>QT md ops g n listed=LG/\R a w) (f+1) listed a w:=by
 simp only[Mg,decide_eq_true_eq] at e;obtain⟨⟨⟨⟨⟨⟨⟨y,x⟩,u⟩,t⟩,s⟩,r⟩,q⟩,p⟩:=e;exact ub d (Region.noSelect_spec y) x u t s l (λlisted a w o=>seqB_ready o.1) f listed a w (BQ r) (Region.free_spec d q) (by simpa using p) j k h
def tk(i:Ly){n g:Ly}{b:NB}{v:LA}{f:Ly}{listed:LM MC}{a:ON}{w:Lt}{R:ON->Lt->Prop}(e:ops[i]?=Lq b:=by rfl)(hy:∀w,S w->(OZ a.eval b).run P w=.ok (.value v) w:=by intro w d;(try dsimp only at d);go_simp;try with_reducible rfl)(hB:(UD ops && Ux md ops n && Uc md ops n && decide (n<ops.size) && decide (i<n) && xj md ops n listed && WE md ops listed i && (Mi md ops listed).contains i)=LG:=by kernel_rfl)(hQ:∀c a w,Q (.panic c) (a.put b.dst v) w->Q (.panic c) a w:=by exact λ_ _ _ h=>h)(hw:MA b (Od ops a.tmps)=LG:=by kernel_rfl)(hS:S w:=by assumption)(h:cw P md ops Q S n (λlisted a w=>QT md ops g n listed=LG/\R a w) f (listed.setIfInBounds i LG) (a.put b.dst v) w) :cw P md ops Q S n (λlisted a w=>QT md ops g n listed=LG/\R a w) (f+1) listed a w:=oM e hB hQ (Or.inl ⟨hw,hy⟩) hS h
def tku(i:Ly){n g:Ly}{b:NB}{f:Ly}{listed:LM MC}{a:ON}{w:Lt}{R:ON->Lt->Prop}(d:ops[i]?=Lq b:=by rfl)(hB:(UD ops && Ux md ops n && Uc md ops n && decide (n<ops.size) && decide (i<n) && xj md ops n listed && WE md ops listed i && (Mi md ops listed).contains i)=LG:=by kernel_rfl)(hQ:∀c a w,Q (.panic c) (a.put b.dst LI) w->Q (.panic c) a w:=by exact λ_ _ _ h=>h)(hw:MA b (Od ops a.tmps)=LH:=by kernel_rfl)(hS:S w:=by assumption)(h:cw P md ops Q S n (λlisted a w=>QT md ops g n listed=LG/\R a w) f (listed.setIfInBounds i LG) (a.put b.dst LI) w) :cw P md ops Q S n (λlisted a w=>QT md ops g n listed=LG/\R a w) (f+1) listed a w:=oM d hB hQ (Or.inr ⟨hw,rfl⟩) hS h
def br(P:LV)(md:PL)(ops:LM NB)(Q:SS->ON->Lt->Prop)(S:Lt->Prop)(n:Ly)(L:LM MC->ON->Lt->Prop)(f:Ly)(listed:LM MC)(a:ON)(w:Lt)(c:Lx Ly):Prop :=
 ∀i∈c,i<n/\wpOp P ops Q i (λd b=>S b/\cw P md ops Q S n L f (listed.setIfInBounds i LG) d b) a w
def br.nil{n f:Ly}{L:LM MC->ON->Lt->Prop}{listed:LM MC}{a:ON}{w:Lt}:br P md ops Q S n L f listed a w []:=λ_ h=>by cases h
def br.cons{n i:Ly}{c:NB}{f:Ly}{listed:LM MC}{a:ON}{w:Lt}{L:LM MC->ON->Lt->Prop}{e:Lx Ly}(o:ops[i]?=Lq c)(l:decide (i<n)=LG)(h:∀b:ON->Lt->Prop,Shut (∀a w,S w->(S w->cw P md ops Q S n L f (listed.setIfInBounds i LG) a w)->b a w)->if MA c (Od ops a.tmps)=LG then Oper.wp P c a w b Q else b (a.put c.dst LI) w)(k:br P md ops Q S n L f listed a w e):br P md ops Q S n L f listed a w (i::e):=λj d=>by
 rcases MK.1 d with rfl | d
 ·exact⟨by simpa using l,wpOp_step o (λb q=>h b (λa w g p=>q a w ⟨g,p g⟩))⟩
 ·exact k j d
def ua{n f:Ly}{listed:LM MC}{a:ON}{w:Lt}{L:LM MC->ON->Lt->Prop}(c:Lx Ly)(g:decide (Mi md ops listed=c)=LG)(d:c≠[])(h:br P md ops Q S n L f listed a w c) :cw P md ops Q S n L (f+1) listed a w:=by
 have b:Mi md ops listed=c:=by simpa using g
 exact⟨λe=>d (b ▸ e),b ▸ h⟩
def rdy(b:Lx Ly){n f:Ly}{listed:LM MC}{a:ON}{w:Lt}{L:LM MC->ON->Lt->Prop}(h:br P md ops Q S n L f listed a w b)(c:decide (Mi md ops listed=b)=LG:=by kernel_rfl)(hne:b≠[]:=by simp):cw P md ops Q S n L (f+1) listed a w:=ua b c hne h
def cns(i:Ly){n:Ly}{b:NB}{f:Ly}{listed:LM MC}{a:ON}{w:Lt}{L:LM MC->ON->Lt->Prop}{d:Lx Ly}(h:∀c:ON->Lt->Prop,Shut (∀a w,S w->(S w->cw P md ops Q S n L f (listed.setIfInBounds i LG) a w)->c a w)->if MA b (Od ops a.tmps)=LG then Oper.wp P b a w c Q else c (a.put b.dst LI) w)(e:br P md ops Q S n L f listed a w d)(g:ops[i]?=Lq b:=by rfl)(hn:decide (i<n)=LG:=by rfl):br P md ops Q S n L f listed a w (i::d):=br.cons g hn h e
def rdc(i:Ly){n:Ly}{b:NB}{f:Ly}{listed:LM MC}{a:ON}{w:Lt}{L:LM MC->ON->Lt->Prop}(h:∀c:ON->Lt->Prop,Shut (∀a w,S w->(S w->cw P md ops Q S n L f (listed.setIfInBounds i LG) a w)->c a w)->if MA b (Od ops a.tmps)=LG then Oper.wp P b a w c Q else c (a.put b.dst LI) w)(d:decide (Mi md ops listed=[i])=LG:=by kernel_rfl)(hi:ops[i]?=Lq b:=by rfl)(hn:decide (i<n)=LG:=by rfl):cw P md ops Q S n L (f+1) listed a w:=rdy [i] (cns i h br.nil hi hn) d (by simp)
def bn{id:Ly}{a:ON}{w:Lt}{l:Lx NB}(n:Ly)(S:Lt->Prop)(hm:P.follows .mixedOrders=LG)(d:decide (n<=l.length)=LG)(e:S w.drew)(h:S w.drew->cw P .any l.toArray Q S n (λlisted a w=>QT .any l.toArray (l.length - n) n listed=LG/\Ua P l.toArray Q (l.drop n) a w) n (MR l.length LH) a w.drew) :(Code.region id l.toArray LG).wp P Q a w:=by
 have c:n<=l.length:=by simpa using d
 refine wp_region_any hm ?_;have:=ez (g:=l.length - n) (λlisted a w b=>by
  have:=VX (md:=.any) (Q':=Q) (ops:=l.toArray) (l.drop n) n listed a w (λj=>by simp[QY]) (by rw[Qn];exact b.1) b.2
  rwa [Qn] at this) _ _ _ _ (h e)
 rw[show n+(l.length - n)=l.toArray.size by simp;omega] at this;simpa using this
end
end Go
namespace Go
def Ks{P:LV}{Q:SS->ON->Lt->Prop}{a:ON}{w:Lt}{l:Lx NB}(n:Ly)(S:Lt->Prop)(d:decide (n<=l.length)=LG)(e:S w)(h:S w->cw P .any l.toArray Q S n (λlisted a w=>QT .any l.toArray (l.length - n) n listed=LG/\Ua P l.toArray Q (l.drop n) a w) n (MR l.length LH) a w) :wpAny P .any l.toArray Q l.toArray.size (MR l.toArray.size LH) a w:=by
 have c:n<=l.length:=by simpa using d
 have:=ez (g:=l.length - n) (λlisted a w b=>by
  have:=VX (md:=.any) (Q':=Q) (ops:=l.toArray) (l.drop n) n listed a w (λj=>by simp[QY]) (by rw[Qn];exact b.1) b.2
  rwa [Qn] at this) _ _ _ _ (h e)
 rw[show n+(l.length - n)=l.toArray.size by simp;omega] at this;simpa using this
end Go
end
namespace Go.Proofs.YtidgnkmjgioapaaGreat
section
open Go.RowKit
def cW(B:Ly)(w:Lt)(L:Lx LJ):Prop:=∃a,w.heap[B]?=Lq (.cells a 3 (0,0))/\∀i,i<L.length->a[i]?=Lq (.int .i64 (L[i]?.getD 0))
def iT:Ly->Lx LJ->Lx LJ
 | 0,L=>L
 | j+1,L=>if L[j+1]?.getD 0<L[j]?.getD 0 then iT j ((L.set (j+1) (L[j]?.getD 0)).set j (L[j+1]?.getD 0)) else L
def cI(k:Ly)(L:Lx LJ):Lx LJ:=(Mr k).foldl (λL i=>iT i L) L
def fJ(k:Ly)(L:Lx LJ):cI (k+1) L=iT k (cI k L):=by simp[cI,Qx]
def Bc(j:Ly)(L:Lx LJ):(iT j L).length=L.length:=by
 induction j generalizing L with
 | zero=>rfl
 | succ j a=>
  unfold iT;split
  ·rw[a];simp
  ·rfl
def jH(k:Ly)(L:Lx LJ):(cI k L).length=L.length:=by
 induction k with
 | zero=>rfl
 | succ k a=>rw[fJ,Bc,a]
def rj{l:Lx LJ}(h:∀i,i+1<l.length->l[i]?.getD 0<=l[i+1]?.getD 0):∀k,k<=l.length->cI k l=l
 | 0,_=>rfl
 | k+1,a=>by
  rw[fJ,rj h k (by omega)];cases k with
  | zero=>rfl
  | succ k=>
   unfold iT;have:=h k (by omega);rw[if_neg (by omega)]
section
variable{B:Ly}{w w':Lt}{L:Lx LJ}
def cW.kept{r:LU Ly}(h:cW B w L)(d:w.gb w' r)(a:Lq B≠r:=by simp):cW B w' L:=let ⟨cs,h1,h2⟩:=h;⟨cs,blk d a h1,h2⟩
def cW.at{k:Ly}(h:cW B w L)(a:k<L.length):w.cell? ⟨B,k,Lw⟩=Lq (.int .i64 (L[k]?.getD 0)):=let ⟨_,h1,h2⟩:=h;aa h1 (h2 k a)
def cW.thaw{k:Ly}(h:cW B w L):w.frozen? ⟨B,k,Lw⟩=LH:=let ⟨_,h1,_⟩:=h;aB h1
def cW.step{j:Ly}{y v:LA}(h:cW B w L)(d:w.cell? ⟨B,j,Lw⟩=Lq y):(w.setCell ⟨B,j+1,Lw⟩ v).cell? ⟨B,j,Lw⟩=Lq y/\(w.setCell ⟨B,j+1,Lw⟩ v).frozen? ⟨B,j,Lw⟩=LH:=by
 obtain⟨c,a,-⟩:=h;have b:(w.setCell ⟨B,j+1,Lw⟩ v).heap[B]?=Lq (.cells (c.setIfInBounds (j+1) v) 3 (0,0)):=by rw[ar a]
 have e:c[j]?=Lq y:=by simpa[Mz,a] using d
 exact⟨aa b (by rw[ML (by omega)];exact e),aB b⟩
def cW.swap{j:Ly}{a b:LJ}(h:cW B w L)(g:j+1<L.length) :cW B ((w.setCell ⟨B,j+1,Lw⟩ (.int .i64 b)).setCell ⟨B,j,Lw⟩ (.int .i64 a)) ((L.set (j+1) b).set j a):=by
 obtain⟨f,k,d⟩:=h;have n:(w.setCell ⟨B,j+1,Lw⟩ (.int .i64 b)).heap[B]?=Lq (.cells (f.setIfInBounds (j+1) (.int .i64 b)) 3 (0,0)):=by rw[ar k]
 have l:((w.setCell ⟨B,j+1,Lw⟩ (.int .i64 b)).setCell ⟨B,j,Lw⟩ (.int .i64 a)).heap[B]?=Lq (.cells ((f.setIfInBounds (j+1) (.int .i64 b)).setIfInBounds j (.int .i64 a)) 3 (0,0)):=by rw[ar n]
 have p:=(Lz.1 (d (j+1) g)).1;refine⟨_,l,λi c=>?_⟩;simp only[OW] at c;by_cases e:i=j
 ·subst e;rw[Rt (by rw[Array.size_setIfInBounds];omega),Pn (by rw[OW];omega)];rfl
 ·by_cases o:i=j+1
  ·subst o;rw[ML (by omega),Rt (by omega),PZ (by omega),Pn (by omega)];rfl
  ·rw[ML (by omega),ML (by omega),PZ (by omega),PZ (by omega)];exact d i c
end
def zh(B c:Ly)(L:Lx LJ)(w:Lt)(hI:cW B w L)(e8:L.length<=1000) :MH Ya 211 #[.slice (Lq B) L.length c,.int .i64 0,L.length] w λe w'=>e=.returned (.tuple #[])/\w.gb w' (Lq B)/\cW B w' (cI L.length L):=by
 have HI:=Lu hI;have d8:(L.length:LJ)<=1000:=by omega
 clear hI;go_enter Tp.x211,Xs;go_wp2;go_loopw [6] (λP wr=>∃k:Ly,P=.int .i64 (k+1:Ly)/\k<=1000/\w.gb wr (Lq B)/\cW B wr (cI (min (k+1) L.length) L)) (λP _=>(L.length - intOf P).toNat)
 case atStart=>exact⟨0,rfl,by omega,Mf _ _,by
  by_cases h:L.length=0
  ·rw[h];exact HI
  ·rw[show min (0+1) L.length=0+1 by omega,fJ];exact HI⟩
 case round=>
  obtain⟨k,rfl,hk,hG,hR⟩:=hrel;have⟨HG,T⟩:=aS hG hR;clear hG hR;by_cases d7:k+1<L.length
  ·have Z:(k:LJ)+1<(L.length:LJ):=by omega
   have X:IntKind.i64.wrap ((k:LJ)+1+1)=(k:LJ)+1+1:=MI _ (by omega);have c8:IntKind.i64.wrap ((k:LJ)+1)=(k:LJ)+1:=MI _ (by omega);go_wp2;go_loopw [7] (λO V=>∃(j:Ly) (f:Lx LJ),O=.int .i64 j/\j<=k+1/\iT (k+1) (cI (min (k+1) L.length) L)=iT j f/\f.length=L.length/\w.gb V (Lq B)/\cW B V f) (λO _=>(intOf O).toNat)
   case atStart=>exact⟨k+1,_,rfl,LC _,rfl,jH _ _,HG,T⟩
   case round=>
    obtain⟨j0,f,rfl,hj,Y,y,A,z⟩:=hrel;have⟨u,F,x,g⟩:=dD Y y A z;clear Y y A z;have l:iT (k+1) (cI (min (k+1) L.length) L)=f->∀o,w.gb o (Lq B)->cW B o f->∃N,Mp .i64 ((k:LJ)+1+1)=.int .i64 ((N+1:Ly):LJ)/\N<=1000/\w.gb o (Lq B)/\cW B o (cI (min (N+1) L.length) L):=λe o h1 h2=>
     ⟨k+1,by simp,by omega,h1,by rw[show min (k+1+1) L.length=(k+1)+1 by omega,fJ,<- show min (k+1) L.length=k+1 by omega,show min (k+1) L.length=k+1 by omega];rw[show min (k+1) L.length=k+1 by omega] at e;rw[e];exact h2⟩
    have n:=Lu l;clear l;cases j0 with
    | zero=>
     go_wp2_with (fail);go_quiet (fail);go_wp2;go_roundw
     case rel=>exact n u _ (x.andThen (ay _ _ Lw) (by simp)) (g.kept (ay _ _ Lw))
     case measure=>simp[intOf];omega
    | succ j=>
     have p:j+1<f.length:=by have:=F.out;omega
     have M:=g.out.at (k:=j+1) p;have I:=g.out.at (k:=j) (by omega);have z1:=g.out.thaw (k:=j+1);have z0:=g.out.thaw (k:=j);have d:iT (j+1) f=if f[j+1]?.getD 0<f[j]?.getD 0 then iT j ((f.set (j+1) (f[j]?.getD 0)).set j (f[j+1]?.getD 0)) else f:=rfl;generalize f[j+1]?.getD 0=a at d M;generalize f[j]?.getD 0=b at d I;have c9:IntKind.i64.wrap (j:LJ)=(j:LJ):=MI _ (by omega);have d6:((j:LJ)+1).toNat=j+1:=by omega
     have e4:(j:LJ)+1<(L.length:LJ):=by omega
     have a6:(j:LJ)<(L.length:LJ):=by omega
     have e5:(0:LJ)<=(j:LJ)+1:=by omega
     have d9:(0:LJ)<(j:LJ)+1:=by omega
     have d5:(j:LJ)+1 - 1=(j:LJ):=by omega
     have U:=Lu p;clear p;by_cases W:a<b
     ·rw[if_pos W] at d;have s:=Lu d;clear d;go_wp2_with (fail);go_quiet (first | (go_at_call 217;refine Ov ((xd _ _ _).mono (λe o h=>⟨h.1,h.2.symm⟩))));go_upto_region 6 with(fail);have q:=ay wr nq Lw;generalize wr.drewN nq=wa at q ⊢;have i:wr.gb wa.drew Lw:=q.t (ak wa Lw);have D:=g.out.kept i;have x2:=i.cl M;have G:=i.cl I;have R:=Lu (D.swap (a:=a) (b:=b) U);have S:=Lu (((x.andThen i (by simp)).andThen (an _ B (j+1) (.int .i64 b)) (λj e=>.inr e)).andThen (an _ B j (.int .i64 a)) (λj e=>.inr e));have z2:=D.thaw (k:=j+1);have H:=D.thaw (k:=j);have r:=D.step (v:=.int .i64 b) G;have C:=Lu r;have z4:=r.2;clear D r M I z1 z0 q i;refine bn 16 (λw'=>w'.cell? ⟨B,j,Lw⟩=Lq (.int .i64 b)/\w'.frozen? ⟨B,j,Lw⟩=LH) (by kernel_rfl) (by kernel_rfl) ⟨G,H⟩ (λhHeld=>?_);simp only[LX,Mj,Ms,NA,Mn,MF,MG,MZ,Mu,Mk];refine tk 0 (h:=tk 1 (h:=tk 2 (h:=tk 3 (h:=tk 4 (h:=tk 5 (h:=tk 6 (h:=tk 7 (h:=tk 8 (h:=tk 9 (h:=tk 10 (h:=tk 11 (h:=tk 12 (h:=?_)))))))))))));try go_frame
      refine rdc 13 λK Q=>?_;go_simp;refine Q.out _ _ (by first | exact hHeld | exact⟨G,H⟩ | exact C) (λhHeld=>?_);refine tk 14 (h:=?_);try go_frame
      refine rdc 15 λK Q=>?_;go_simp;refine Q.out _ _ (by first | exact hHeld | exact⟨G,H⟩ | exact C) (λhHeld=>?_);try go_frame
      refine⟨by kernel_rfl,?_⟩;simp only[MQ,Nu];go_wp2;refine⟨?_,?measure⟩
      repeat apply QV
      refine⟨?rel,rfl⟩
      case rel=>exact⟨j,_,rfl,by omega,u.t s,by simp[F.out],S,R⟩
      case measure=>simp[intOf]
     ·rw[if_neg W] at d;have s:=Lu d;clear d;go_wp2_with (fail);go_quiet (first | (go_at_call 217;refine Ov ((xd _ _ _).mono (λe o h=>⟨h.1,h.2.symm⟩))));go_wp2;go_roundw
      case rel=>exact n (u.t s) _ (x.andThen (ay _ _ Lw) (by simp)) (g.kept (ay _ _ Lw))
      case measure=>simp[intOf];omega
  ·have he:min (k+1) L.length=L.length:=by omega
   rw[he] at T;go_wp2;go_end0;exact⟨rfl,HG,T⟩
def lN(base:LU MN)(B:Ly)(w:Lt)(L:Lx LJ):Prop:=(base=Lq ⟨B,0,Lw⟩/\cW B w L)\/L=[]
def zi(base:LU MN)(B c:Ly)(L:Lx LJ)(w:Lt)(a:lN base B w L)(b:L.length<=1000) :MH Ya 211 #[.slice base L.length c,.int .i64 0,L.length] w λe w'=>e=.returned (.tuple #[])/\w.gb w' (Lq B)/\lN base B w' (cI L.length L):=by
 rcases a with⟨rfl,a⟩ | rfl
 ·exact(zh B c L w a b).mono λe w' ⟨i,h,g⟩=>⟨i,h,.inl ⟨rfl,g⟩⟩
 ·go_enter Tp.x211,Xs;go_wp2;go_loopw [6] (λd wr=>d=.int .i64 1/\w.gb wr (Lq B)) (λ_ _=>0)
  case atStart=>exact⟨rfl,Mf _ _⟩
  case round=>
   obtain⟨rfl,f⟩:=hrel;go_wp2;go_end0;exact⟨rfl,f,.inr rfl⟩
end
section
open Go.RowKit
def px(n:Ly)(h:n<=12)(w:Lt):MH Ya 156 #[.int .u64 n] w λe a=>∃v,e=.returned (.int .i64 v)/\w=a:=by
 go_enter Tp.x156,Tryz.ntmps156;go_wp2_with (go_at_call 197;refine(BJ n h _).mono ?_;rintro e b ⟨v,rfl,rfl⟩);go_ret;exact⟨_,rfl,rfl⟩
def KS(base:LU MN)(B c:Ly)(L:Lx LJ)(d:LJ)(w:Lt)(g:lN base B w L)(j:L.length<=12) :MH Ya 200 #[.slice base L.length c,.int .i64 0,L.length,d] w λe f=>e=.returned (.tuple #[])/\w.gb f (Lq B)/\lN base B f (cI L.length L):=by
 have k:=Lu g;clear g;go_enter Tp.x200,Tryz.ntmps200;go_wp2;go_loopw [1,2,3] (λa b c wr=>a=.int .i64 0/\b=.int .i64 L.length/\c=.int .i64 d/\w=wr) (λ_ _ _ _=>0)
 case atStart=>exact⟨rfl,rfl,rfl,rfl⟩
 case round=>
  obtain⟨rfl,rfl,rfl,rfl⟩:=hrel;have o:IntKind.i64.wrap (L.length:LJ)=(L.length:LJ):=MI _ (by omega);have n:(L.length:LJ)<=12:=by omega
  go_wp2_with (go_at_call 211;refine(zi base B c L _ k (by omega)).mono ?_;rintro e l ⟨rfl,i,h⟩);refine Ot (results_none rfl _ _ _) rfl ?_;exact⟨rfl,i,h⟩
def JN(base:LU MN)(B c:Ly)(L:Lx LJ)(w:Lt)(d:lN base B w L)(a:L.length<=12) :MH Ya 164 #[.slice base L.length c] w λe b=>e=.returned (.tuple #[])/\w.gb b (Lq B)/\lN base B b (cI L.length L):=by
 have i:=Lu d;clear d;have j:IntKind.u64.wrap (L.length:LJ)=(L.length:LJ):=by simp[IntKind.wrap,IntKind.signed,IntKind.bits];omega
 go_enter Tp.x164,Tryz.ntmps164;go_wp2_with (first
  | (go_at_call 156;refine(px L.length a _).mono ?_;rintro e f ⟨v,rfl,rfl⟩)
  | (go_at_call 200;refine(KS base B c L _ _ i a).mono ?_;rintro e f ⟨rfl,h,g⟩))
 go_end0;exact⟨rfl,h,g⟩
def lQ(b:LU MN)(n c:Ly)(w:Lt):MH Ya 135 #[.slice b n c] w λe a=>e=.returned (.func (.func 165) #[] #[.pointer (Lq w.heap.size)])/\a=w.alloc (.cells #[.slice b n c] 29):=by
 go_enter Tp.x135,Tryz.ntmps135;go_wp2;go_ret;exact⟨rfl,rfl⟩
def cM(c:Lx LJ):Ly->Lx LJ->Ly->Lx (Lx LJ)
 | 0,b,_=>[b]
 | m+1,b,a=>(QS a (c.length - a)).flatMap λi=>cM c m (b++[c[i]?.getD 0]) (i+1)
def mo{a:Lx LJ}{m:Ly}{b:Lx LJ}{i:Ly}(h:i<a.length):cM a (m+1) b i=cM a m (b++[a[i]?.getD 0]) (i+1)++cM a (m+1) b (i+1):=by
 have e:a.length - i=(a.length - (i+1))+1:=by omega
 simp only[cM];rw[e,List.range'_succ,Oo]
def tL{a:Lx LJ}{m:Ly}{b:Lx LJ}{i:Ly}(h:a.length<=i):cM a (m+1) b i=[]:=by
 simp only[cM];rw[show a.length - i=0 by omega];rfl
def cy(a:Lx LJ)(k:Ly):Lx (Lx LJ):=(QS k (a.length+1 - k)).flatMap λm=>cM a m [] 0
def nP{a:Lx LJ}{k:Ly}(h:k<a.length+1):cy a k=cM a k [] 0++cy a (k+1):=by
 have e:a.length+1 - k=(a.length+1 - (k+1))+1:=by omega
 unfold cy;rw[e,List.range'_succ,Oo]
def vS{a:Lx LJ}{k:Ly}(h:a.length+1<=k):cy a k=[]:=by
 unfold cy;rw[show a.length+1 - k=0 by omega];rfl
end
end Go.Proofs.YtidgnkmjgioapaaGreat
namespace Go
section
open Go.RowKit
section
variable{F:Fence}{n:Ly}{P:LV}
structure Stp(n1 B:Ly)(G:Ly->Prop)(A C:Lt):Prop where
 os:C.os=A.os
 tape:C.tape=A.tape
 output:C.output=A.output
 size:A.heap.size<=C.heap.size
 keep:∀k,k<A.heap.size->((k<n1/\k≠B)\/G k)->C.heap[k]?=A.heap[k]?
structure Bod(n1 B:Ly)(G G':Ly->Prop)(A C:Lt):Prop where
 tape:C.tape=A.tape
 size:A.heap.size<=C.heap.size
 keep:∀k,k<A.heap.size->(n1<=k\/k=B)->¬ G k->C.heap[k]?=A.heap[k]?
 fp:∀k,G' k->G k\/A.heap.size<=k
def Bod.trans{d B:Ly}{G i a:Ly->Prop}{A C E:Lt}(h:Bod d B G i A C)(k:Bod d B i a C E):Bod d B G a A E :=
 ⟨k.tape.trans h.tape,LN h.size k.size,λj c f g=>(k.keep j (LY c h.size) f (λe=>(h.fp j e).elim g (by omega))).trans (h.keep j c f g),
  λj c=>(k.fp j c).elim (h.fp j) (λe=>.inr (LN h.size e))⟩
def Stp.mono{b a B:Ly}{G:Ly->Prop}{A C:Lt}(h:Stp a B G A C)(f:b<=a):Stp b B G A C:=⟨h.os,h.tape,h.output,h.size,λk c d=>h.keep k c (d.imp (λe=>⟨by omega,e.2⟩) id)⟩
def Bod.mono{b a B:Ly}{G c:Ly->Prop}{A C:Lt}(h:Bod b B G c A C)(g:b<=a):Bod a B G c A C:=⟨h.tape,h.size,λk d f=>h.keep k d (f.imp (λe=>by omega) id),h.fp⟩
def Ky{Y:Type}(F:Fence)(n:Ly)(P:LV)(g:Ly)(i:LM LA)(b:Y->LM LA)(j:Y->Lt->Prop)(S h:Lx Y->Prop)(B:Ly)(w0:Lt):Prop :=
 ∀(l:Ly) (J Jx:Lx Y->(Ly->Prop)->Lt->Prop) (G0:Ly->Prop) (W:Lt),Below w0.heap.size w0 W->¬ G0 B->(∀s G A,J s G A->∀k,G k->k<A.heap.size) ->
  (∀s G A C,J s G A->Stp W.heap.size B G A C->J s G C)->(∀s G A C,Jx s G A->Stp W.heap.size B G A C->Jx s G C) ->
  (∀pre G x c,J pre G c->j x c->h (pre++[x])->YieldAt F (n - 1) P l (b x) c λe a=>
   ∃d,(e=.returned (.bool LG)/\J (pre++[x]) d a/\Bod W.heap.size B G d c a)\/(e=.returned (.bool LH)/\Jx (pre++[x]) d a/\Bod W.heap.size B G d c a)) ->
  J [] G0 W ->
  CallsIn F n P g (#[.func (.yield l) #[] #[]]++i) W λe a=>(∃v,e=.returned v)/\((∃f G,S f/\J f G a)\/(∃pre G,h pre/\Jx pre G a))
def JQ{Y:Type}(d B:Ly)(G:Ly->Prop)(I:Lx Y->(Ly->Prop)->Lt->Prop)(e:Og->Lx Y->(Ly->Prop)->Lt->Prop)(c:Lx Y)(W:Lt):SS->ON->Lt->Prop
 | .normal,_,a=>∃b,Bod d B G b W a/\I c b a
 | .ret,_,a=>∃b,Bod d B G b W a/\e .ret c b a
 | .exit id,_,a=>∃b,Bod d B G b W a/\e (.exit id) c b a
 | .goto t,_,a=>∃b,Bod d B G b W a/\e (.goto t) c b a
 | .panic _,_,_=>PC
 | .outgrown,_,_=>PC
def gF{b B:Ly}{G:Ly->Prop}{A:Lt}{l:Ly}(o:SQ)(g:b<=l)(f:¬ G l):Stp b B G A (A.putObj l o) :=
 have a:=Pi A l o
 ⟨a.os,a.tape,a.output,a.size,λk c d=>a.block k c (by
  intro e;cases e;rcases d with h | h
  ·omega
  ·exact f h)⟩
def eU{Y:Type}{g:MS}{ps:LM Tmp}{assign body:Og}{Q:SS->ON->Lt->Prop}{a:ON}{w:Lt}(k9:F.round=Lw)(h1:1<=n){gf:Ly}{lb:LM LA}(hg:a.eval g=.func (.func gf) #[] lb)(n3:F.fn gf)(eg:∀args w,(callFunc gf args).run P w=.ok (.enter gf args) w){V:Y->LM LA}{Xp:Y->Lt->Prop}{S Sp:Lx Y->Prop}{B:Ly}{w0:Lt}(e6:Ky F (n - 1) P gf lb V Xp S Sp B w0)(g7:Below w0.heap.size w0 w)(l4:∀x,(V x).size=ps.size){G0:Ly->Prop}(hB:¬ G0 B)(p9:B<w.heap.size)(hX:∀x A l o o',A.heap[l]?=Lq o->o.isCells=LH->Xp x A->Xp x (A.putObj l o'))(I:Lx Y->(Ly->Prop)->Lt->Prop)(Ix:Og->Lx Y->(Ly->Prop)->Lt->Prop)(a8:∀s G A,I s G A->∀k,G k->k<A.heap.size)(hI:∀s G A C,I s G A->Stp w.heap.size B G A C->I s G C)(b6:∀c s G A C,Ix c s G A->Stp w.heap.size B G A C->Ix c s G C)(h0:I [] G0 w)(a₁:Y->ON)(b0:∀(l:Ly) (x:Y) (W:Lt) (K:ON->Lt->Prop),K (a₁ x) W ->assign.wpIn (F.inRound l) (n - 1 - 1) P (Exit.then K (λ_ _ _=>PC)) { tmps:=(ps.zip (V x)).foldl (λt (p,v)=>t.setIfInBounds p v) a.tmps,defers:=[] } W)(hbody:∀(l:Ly) (pre:Lx Y) (G:Ly->Prop) (x:Y) (W:Lt),I pre G W->Xp x W->Sp (pre++[x])->body.wpIn (F.inRound l) (n - 1 - 1) P (JQ w.heap.size B G I Ix (pre++[x]) W) (a₁ x) W)(hdone:∀(D:Ly) (xs:Lx Y) (G:Ly->Prop) (W:Lt),w.heap.size<=D->S xs->I xs G W->W.heap[D]?=Lq (.deferred (Lq []))->¬ G D->Q .normal { a with defers:={ target:=.collected D,args:=#[] }::a.defers } W)(hstop:∀(D:Ly) (c:Og) (pre:Lx Y) (G:Ly->Prop) (W:Lt),w.heap.size<=D->Sp pre->Ix c pre G W->W.heap[D]?=Lq (.deferred (Lq []))->¬ G D->c.wpIn F n P Q { a with defers:={ target:=.collected D,args:=#[] }::a.defers } W) :(Code.rangeFunc g ps assign body).wpIn F n P Q a w:=by
 refine wpIn_rangeFunc ?_;intro fn m5;rw[k9];obtain⟨d,f⟩:∃d:LoopState->LU Og->Loop,d=λst pe=>{ state:=st,pending:=pe,fn,tmps:=a.tmps,params:=ps,assign,body,defers:=w.heap.size }:=⟨_,rfl⟩;obtain⟨y,a6⟩:∃y,(w.alloc (.deferred (Lq []))).alloc (.loop (d .ready Lw))=y:=⟨_,rfl⟩;have m8:y.heap[w.heap.size+1]?=Lq (.loop (d .ready Lw)):=by
  rw[<- a6];have:=UU (w.alloc (.deferred (Lq []))) (.loop (d .ready Lw));rwa [Mc] at this
 have m9:y.heap[w.heap.size]?=Lq (.deferred (Lq [])):=by
  rw[<- a6];exact(Below.heap_alloc _ _ _ (by simp)).trans (UU w _)
 have p5:y.heap.size=w.heap.size+2:=by rw[<- a6];simp
 have e5:Stp w.heap.size B G0 w y:=by
  have h:=(Lr w (.deferred (Lq [])) Lw).trans (Lr _ (.loop (d .ready Lw)) Lw);rw[a6] at h;exact⟨h.os,h.tape,h.output,h.size,λk hk _=>h.block k hk (by simp)⟩
 have n2:I [] G0 y:=hI _ _ _ _ h0 e5;have l6:¬ G0 w.heap.size:=λh=>by have:=a8 _ _ _ h0 _ h;omega
 have l5:¬ G0 (w.heap.size+1):=λh=>by have:=a8 _ _ _ h0 _ h;omega
 have m6:Below w0.heap.size w0 y:=by
  rw[<- a6];exact g7.trans ((((RH _ w).alloc (LC _) _).alloc (by simp) _).mono g7.size)
 refine⟨w.heap.size+1,[{ target:=.collected w.heap.size,args:=#[] }],y,{ target:=.fn (.func gf) lb,args:=#[.func (.yield (w.heap.size+1)) #[] #[]] },y,gf,
  #[.func (.yield (w.heap.size+1)) #[] #[]]++lb,y,?_,?_,?_,?_,λ_=>h1,?_⟩
 ·rw[<- a6,f];exact run_enterLoop_outer _ _ _ _ _
 ·simp only[resolve,hg];simp[go_sem]
 ·intro f' g6;simp[Target.leads] at g6;subst g6;exact n3
 ·simp[invoke,go_sem,eg]
 ·have u:∀(G:Ly->Prop) (A C:Lt),Stp y.heap.size B G A C->w.heap.size+2<=A.heap.size->C.heap[w.heap.size+1]?=A.heap[w.heap.size+1]?/\C.heap[w.heap.size]?=A.heap[w.heap.size]?:=λG A C h hA=>
   ⟨h.keep _ (by omega) (.inl ⟨by omega,by omega⟩),h.keep _ (by omega) (.inl ⟨by omega,by omega⟩)⟩
  refine(e6 (w.heap.size+1)
   (λpre G W=>(I pre G W/\w.heap.size+2<=W.heap.size/\¬ G w.heap.size/\¬ G (w.heap.size+1))/\W.heap[w.heap.size+1]?=Lq (.loop (d .ready Lw))/\W.heap[w.heap.size]?=Lq (.deferred (Lq [])))
   (λpre G W=>∃c,(Ix c pre G W/\w.heap.size+2<=W.heap.size/\¬ G w.heap.size/\¬ G (w.heap.size+1))/\W.heap[w.heap.size+1]?=Lq (.loop (d .done (Lq c)))/\W.heap[w.heap.size]?=Lq (.deferred (Lq [])))
   G0 y m6 hB (λs G A hs=>a8 s G A hs.1.1)
   (λs G A C hs h=>⟨⟨hI s G A C hs.1.1 (h.mono (by omega)),LN hs.1.2.1 h.size,hs.1.2.2.1,hs.1.2.2.2⟩,(u G A C h hs.1.2.1).1.trans hs.2.1,(u G A C h hs.1.2.1).2.trans hs.2.2⟩)
   (λs G A C hs h=>by
    obtain⟨c,hc,hl,hk⟩:=hs;exact⟨c,⟨b6 c s G A C hc.1 (h.mono (by omega)),LN hc.2.1 h.size,hc.2.2.1,hc.2.2.2⟩,(u G A C h hc.2.1).1.trans hl,(u G A C h hc.2.1).2.trans hk⟩)
   ?_ ⟨⟨n2,by omega,l6,l5⟩,m8,m9⟩).mono ?_
  ·-- ONE ROUND
   rintro pre G x W ⟨⟨hi,c9,X,H⟩,hl,hk⟩ hx k8;have l8:w.heap.size+1<W.heap.size:=(Lz.1 hl).1;have hy:=run_yield (P:=P) (args:=V x) hl (by rw[f];exact l4 x);rw[f] at hy;refine⟨fn,_,assign,body,hy,roundIn_of_wpIn m5 (b0 _ x W _ ⟨_,run_beginRound hl (by rw[f]),?_⟩)⟩;obtain⟨Wb,Z⟩:∃Wb,W.putObj (w.heap.size+1) (.loop { d .ready Lw with state:=.busy })=Wb:=⟨_,rfl⟩;have l9:Wb.heap[w.heap.size+1]?=Lq (.loop { d .ready Lw with state:=.busy }):=by rw[<- Z];exact Rb l8
   have m4:Wb.heap[w.heap.size]?=Lq (.deferred (Lq [])):=by rw[<- Z];exact(QP (by omega)).trans hk
   have c3:Stp w.heap.size B G W Wb:=by rw[<- Z];exact gF _ (by omega) H
   have d6:W.grownBy Wb (Lq (w.heap.size+1)):=by rw[<- Z];exact Pi _ _ _
   have k7:Xp x Wb:=by rw[<- Z];exact hX x W _ _ _ hl rfl hx
   rw[Z];have e4:w.heap.size+2<=Wb.heap.size:=LN c9 c3.size;refine wpIn_mono (hbody _ pre G x _ (hI _ _ _ _ hi c3) k7 k8) ?_;have h8:Bod y.heap.size B G G W Wb:=⟨d6.tape,d6.size,λk N hn _=>d6.block k N (by intro e;cases e;rcases hn with h | h<;>omega),λk N=>.inl N⟩;have fin:∀(b:LU Og) (q:Ly->Prop) (r:Lt),Bod w.heap.size B G q Wb r ->
     (OR (w.heap.size+1) b).run P r=.ok (.bool b.isNone) (r.putObj (w.heap.size+1) (.loop (d (if b.isNone then .ready else .done) b))) /\
     (r.putObj (w.heap.size+1) (.loop (d (if b.isNone then .ready else .done) b))).heap[w.heap.size+1]?=Lq (.loop (d (if b.isNone then .ready else .done) b)) /\
     (r.putObj (w.heap.size+1) (.loop (d (if b.isNone then .ready else .done) b))).heap[w.heap.size]?=Lq (.deferred (Lq [])) /\
     Stp w.heap.size B q r (r.putObj (w.heap.size+1) (.loop (d (if b.isNone then .ready else .done) b))) /\
     Bod y.heap.size B G q W (r.putObj (w.heap.size+1) (.loop (d (if b.isNone then .ready else .done) b))) /\
     w.heap.size+2<=(r.putObj (w.heap.size+1) (.loop (d (if b.isNone then .ready else .done) b))).heap.size /\
     ¬ q w.heap.size/\¬ q (w.heap.size+1):=λb q r i=>by
    have e9:=(i.keep (w.heap.size+1) (by omega) (.inl (by omega)) H).trans l9;have m3:=(i.keep w.heap.size (by omega) (.inl (by omega)) X).trans m4;have e8:¬ q (w.heap.size+1):=λe=>(i.fp _ e).elim H (by omega);have e7:¬ q w.heap.size:=λe=>(i.fp _ e).elim X (by omega);have c8:Stp w.heap.size B q r (r.putObj (w.heap.size+1) (.loop (d (if b.isNone then .ready else .done) b))):=gF _ (by omega) e8;have d7:r.grownBy (r.putObj (w.heap.size+1) (.loop (d (if b.isNone then .ready else .done) b))) (Lq (w.heap.size+1)):=Pi _ _ _;have g9:Bod y.heap.size B q q r (r.putObj (w.heap.size+1) (.loop (d (if b.isNone then .ready else .done) b))):=⟨d7.tape,d7.size,λk N hn _=>d7.block k N (by intro e;cases e;rcases hn with h | h<;>omega),λk N=>.inl N⟩;have:=run_endRound (P:=P) b e9;rw[f] at this;refine⟨by rw[f];exact this,Rb (Lz.1 e9).1,(QP (by omega)).trans m3,c8,(h8.trans (i.mono (by omega))).trans g9,LN e4 (LN i.size c8.size),e7,e8⟩
   rintro e a3 r hp;cases e with
   | normal=>
    obtain⟨q,i,O⟩:=hp;have⟨hr,L,M,z,U,j,T,R⟩:=fin Lw q r i;exact⟨_,_,hr,q,.inl ⟨rfl,⟨⟨hI _ _ _ _ O z,j,T,R⟩,L,M⟩,U⟩⟩
   | ret=>
    obtain⟨q,i,O⟩:=hp;have⟨hr,L,M,z,U,j,T,R⟩:=fin (Lq .ret) q r i;exact⟨_,_,hr,q,.inr ⟨rfl,⟨.ret,⟨b6 _ _ _ _ _ O z,j,T,R⟩,L,M⟩,U⟩⟩
   | exit id=>
    obtain⟨q,i,O⟩:=hp;have⟨hr,L,M,z,U,j,T,R⟩:=fin (Lq (.exit id)) q r i;exact⟨_,_,hr,q,.inr ⟨rfl,⟨.exit id,⟨b6 _ _ _ _ _ O z,j,T,R⟩,L,M⟩,U⟩⟩
   | goto t=>
    obtain⟨q,i,O⟩:=hp;have⟨hr,L,M,z,U,j,T,R⟩:=fin (Lq (.goto t)) q r i;exact⟨_,_,hr,q,.inr ⟨rfl,⟨.goto t,⟨b6 _ _ _ _ _ O z,j,T,R⟩,L,M⟩,U⟩⟩
   | panic ch=>exact hp.elim
   | outgrown=>exact hp.elim
  ·-- BEHIND THE ITERATOR
   rintro e W2 ⟨⟨v,rfl⟩,(⟨xs,G,hS,⟨hi,c9,X,H⟩,hl,hk⟩ | ⟨pre,G,m7,c,⟨hi,c9,X,H⟩,hl,hk⟩)⟩
   ·refine⟨Lw,_,by have:=run_endLoop (P:=P) hl (by rw[f];simp);rw[f] at this;exact this,hdone _ xs G _ (LC _) hS (hI _ _ _ _ hi (gF _ (by omega) H)) ((QP (by omega)).trans hk) X⟩
   ·refine⟨Lq c,_,by have:=run_endLoop (P:=P) hl (by rw[f];simp);rw[f] at this;exact this,hstop _ c pre G _ (LC _) m7 (b6 c _ _ _ _ hi (gF _ (by omega) H)) ((QP (by omega)).trans hk) X⟩
end
end
end Go
namespace Go.Proofs.YtidgnkmjgioapaaGreat
section
open Go.RowKit
def Fh:∀m:Fin 32,∀n:Fin 5,m.1.testBit n.1=LH->Ut .andNot .u8 ((m.1 ||| 2 ^ n.1:Ly):LJ) ((2 ^ n.1:Ly):LJ)=(m.1:LJ):=by decide
def Cr{m n:Ly}(hm:m<32)(a:n<5)(h:m.testBit n=LH):Ut .andNot .u8 ((m ||| 2 ^ n:Ly):LJ) ((2 ^ n:Ly):LJ)=(m:LJ):=Fh ⟨m,hm⟩ ⟨n,a⟩ h
def Popped(d c:Ly)(g:LU MN)(k b m:Ly)(w a:Lt):Prop :=
 a.os=w.os/\a.tape=w.tape/\a.output=w.output/\a.heap=((w.setCell d (.slice g k b)).setCell c (.int .u8 m)).heap
def Gn(i f j:Ly)(g:LU MN)(k d m n:Ly)(w:Lt)(c:n<5)(hm:m<32)(O:m.testBit n=LH)(v:k<1000000)(C:k+1<=d)(p:i≠f)(t:i≠j)(z:w.heap[i]?=Lq (.cells #[.slice g (k+1) d] 29 (0,0)))(y:w.heap[f]?=Lq (.cells #[.int .u8 (m ||| 2 ^ n:Ly)] 130 (0,0)))(G:w.heap[j]?=Lq (.cells #[n] 3 (0,0)))(u:FrameMode) :CallsD Ya 152 #[.pointer (Lq i),.pointer (Lq f),.pointer (Lq j)] u w λe I l=>I=u/\e=.returned (.tuple #[]) /\Popped i f g k d m w l:=by
 have T:w.cell? i=Lq (.slice g (k+1) d):=aa (o:=0) z rfl;have H:w.cell? f=Lq (.int .u8 (m ||| 2 ^ n:Ly)):=aa (o:=0) y rfl;have P:w.cell? j=Lq (.int .i64 n):=aa (o:=0) G rfl;have S:=aB (o:=0) z;have Q:=aB (o:=0) y;have q:=Cr hm c O;have L:IntKind.i64.wrap ((k:LJ)+1 - 1)=(k:LJ):=by rw[show(k:LJ)+1 - 1=k by omega];exact MI _ (by omega)
 have A:IntKind.i64.wrap (k:LJ)=(k:LJ):=MI _ (by omega);have N:(k:LJ)<=(d:LJ):=by omega
 have B:f≠i:=λe=>p e.symm;clear z y G;refine callsD_of_wp (R:=λe l=>e=.returned (.tuple #[])/\Popped i f g k d m w l) Tp.x152 rfl ?_;simp only[Tryz.ntmps152,Mt,LX,Mj,Ms,NA,MF,MG,MZ,OY,Mu,Mk];generalize F:((m ||| 2 ^ n:Ly):LJ)=M at H q;generalize D:((2 ^ n:Ly):LJ)=N2 at q;have⟨r,U⟩:=aS D F;clear D F;have v:∀(W:Lt) (x:LA),(W.cell? f=Lq (.int .u8 M)/\W.cell? j=Lq (.int .i64 n))->((W.setCell i x).cell? f=Lq (.int .u8 M)/\(W.setCell i x).cell? j=Lq (.int .i64 n)):=λW x h=>
  ⟨by rw[NL _ _ _ _ (λe=>p (congrArg TM e))];exact h.1,by rw[NL _ _ _ _ (λe=>t (congrArg TM e))];exact h.2⟩
 have b:=Lu v;clear v;go_wp2_with (fail);refine bn 10 (λl=>l.cell? f=Lq (.int .u8 M)/\l.cell? j=Lq (.int .i64 n)) (by kernel_rfl) (by kernel_rfl) ⟨H,P⟩ (λhHeld=>?_);simp only[LX,Mj,Ms,NA,Mn,MF,MG,MZ,Mu,Mk];refine tk 5 (h:=tk 6 (h:=?_));try go_frame
 refine rdy [0,1,7] ?_;refine cns 0 (λK a=>?_) ?_
 ·skip;go_simp;refine a.out _ _ (by first | exact hHeld | exact b.out _ _ hHeld) (λhHeld=>?_);try go_frame
  refine rdy [1,7] ?_;refine cns 1 (λK a=>?_) ?_
  ·skip;go_simp;refine a.out _ _ (by first | exact hHeld | exact b.out _ _ hHeld) (λhHeld=>?_);refine tk 2 (h:=tk 3 (h:=tk 4 (h:=?_)));try go_frame
   refine rdc 7 λK a=>?_;go_simp;go_at_call 153;refine(jO n _ c).mono ?_;rintro e s ⟨rfl,rfl⟩;rw[r];refine a.out _ _ (by first | exact hHeld | exact b.out _ _ hHeld) (λhHeld=>?_);refine tk 8 (h:=?_);try go_frame
   refine rdc 9 λK a=>?_;go_simp;refine a.out _ _ (by first | exact hHeld | exact b.out _ _ hHeld) (λhHeld=>?_);try go_frame
   refine⟨by kernel_rfl,?_⟩;simp only[MQ,Nu];go_wp2;go_end0;exact⟨rfl,rfl,rfl,rfl,rfl⟩
  refine cns 7 (λK a=>?_) ?_
  ·skip;go_simp;go_at_call 153;refine(jO n _ c).mono ?_;rintro e s ⟨rfl,rfl⟩;rw[r];refine a.out _ _ (by first | exact hHeld | exact b.out _ _ hHeld) (λhHeld=>?_);refine tk 8 (h:=?_);try go_frame
   refine rdc 1 λK a=>?_;go_simp;refine a.out _ _ (by first | exact hHeld | exact b.out _ _ hHeld) (λhHeld=>?_);refine tk 2 (h:=tk 3 (h:=tk 4 (h:=?_)));try go_frame
   refine rdc 9 λK a=>?_;go_simp;refine a.out _ _ (by first | exact hHeld | exact b.out _ _ hHeld) (λhHeld=>?_);try go_frame
   refine⟨by kernel_rfl,?_⟩;simp only[MQ,Nu];go_wp2;go_end0;exact⟨rfl,rfl,rfl,rfl,rfl⟩
  exact br.nil
 refine cns 1 (λK a=>?_) ?_
 ·skip;go_simp;refine a.out _ _ (by first | exact hHeld | exact b.out _ _ hHeld) (λhHeld=>?_);refine tk 2 (h:=tk 3 (h:=?_));try go_frame
  refine rdy [0,7] ?_;refine cns 0 (λK a=>?_) ?_
  ·skip;go_simp;refine a.out _ _ (by first | exact hHeld | exact b.out _ _ hHeld) (λhHeld=>?_);refine tk 4 (h:=?_);try go_frame
   refine rdc 7 λK a=>?_;go_simp;go_at_call 153;refine(jO n _ c).mono ?_;rintro e s ⟨rfl,rfl⟩;rw[r];refine a.out _ _ (by first | exact hHeld | exact b.out _ _ hHeld) (λhHeld=>?_);refine tk 8 (h:=?_);try go_frame
   refine rdc 9 λK a=>?_;go_simp;refine a.out _ _ (by first | exact hHeld | exact b.out _ _ hHeld) (λhHeld=>?_);try go_frame
   refine⟨by kernel_rfl,?_⟩;simp only[MQ,Nu];go_wp2;go_end0;exact⟨rfl,rfl,rfl,rfl,rfl⟩
  refine cns 7 (λK a=>?_) ?_
  ·skip;go_simp;go_at_call 153;refine(jO n _ c).mono ?_;rintro e s ⟨rfl,rfl⟩;rw[r];refine a.out _ _ (by first | exact hHeld | exact b.out _ _ hHeld) (λhHeld=>?_);refine tk 8 (h:=?_);try go_frame
   refine rdc 0 λK a=>?_;go_simp;refine a.out _ _ (by first | exact hHeld | exact b.out _ _ hHeld) (λhHeld=>?_);refine tk 4 (h:=?_);try go_frame
   refine rdc 9 λK a=>?_;go_simp;refine a.out _ _ (by first | exact hHeld | exact b.out _ _ hHeld) (λhHeld=>?_);try go_frame
   refine⟨by kernel_rfl,?_⟩;simp only[MQ,Nu];go_wp2;go_end0;exact⟨rfl,rfl,rfl,rfl,rfl⟩
  exact br.nil
 refine cns 7 (λK a=>?_) ?_
 ·skip;go_simp;go_at_call 153;refine(jO n _ c).mono ?_;rintro e s ⟨rfl,rfl⟩;rw[r];refine a.out _ _ (by first | exact hHeld | exact b.out _ _ hHeld) (λhHeld=>?_);refine tk 8 (h:=?_);try go_frame
  refine rdy [0,1] ?_;refine cns 0 (λK a=>?_) ?_
  ·skip;go_simp;refine a.out _ _ (by first | exact hHeld | exact b.out _ _ hHeld) (λhHeld=>?_);refine rdc 1 λK a=>?_;go_simp;refine a.out _ _ (by first | exact hHeld | exact b.out _ _ hHeld) (λhHeld=>?_);refine tk 2 (h:=tk 3 (h:=tk 4 (h:=?_)));try go_frame
   refine rdc 9 λK a=>?_;go_simp;refine a.out _ _ (by first | exact hHeld | exact b.out _ _ hHeld) (λhHeld=>?_);try go_frame
   refine⟨by kernel_rfl,?_⟩;simp only[MQ,Nu];go_wp2;go_end0;exact⟨rfl,rfl,rfl,rfl,rfl⟩
  refine cns 1 (λK a=>?_) ?_
  ·skip;go_simp;refine a.out _ _ (by first | exact hHeld | exact b.out _ _ hHeld) (λhHeld=>?_);refine tk 2 (h:=tk 3 (h:=?_));try go_frame
   refine rdc 0 λK a=>?_;go_simp;refine a.out _ _ (by first | exact hHeld | exact b.out _ _ hHeld) (λhHeld=>?_);refine tk 4 (h:=?_);try go_frame
   refine rdc 9 λK a=>?_;go_simp;refine a.out _ _ (by first | exact hHeld | exact b.out _ _ hHeld) (λhHeld=>?_);try go_frame
   refine⟨by kernel_rfl,?_⟩;simp only[MQ,Nu];go_wp2;go_end0;exact⟨rfl,rfl,rfl,rfl,rfl⟩
  exact br.nil
 exact br.nil
def RowsIn(b c:Ly)(w:Lt)(v:LA)(L:Lx (Lx LJ)):Prop :=
 ∃base a,v=.slice base L.length a/\(L.length:LJ)<=1000000 /\
  (L≠[]->∃B o d e,base=Lq ⟨B,o,Lw⟩/\b<=B/\B<c/\w.heap[B]?=Lq (.cells d 29 e) /\
   ∀i,i<L.length->∃l x,L[i]?=Lq l/\d[o+i]?=Lq x/\ai b c w x l)
def RowsIn.kept{d a:Ly}{w k:Lt}{v:LA}{L:Lx (Lx LJ)}{row:LU Ly}(h:RowsIn d a w v L)(q:w.gb k row)(p:∀R,row=Lq R->R<d\/a<=R:=by simp):RowsIn d a k v L:=by
 obtain⟨base,j,rfl,r,f⟩:=h;refine⟨base,j,rfl,r,λg=>?_⟩;have⟨B,o,G,y,F,D,C,A,z⟩:=f g;refine⟨B,o,G,y,F,D,C,blk q (λe=>by have:=p B e.symm;omega) A,λi a=>?_⟩;have⟨l,x,u,t,s⟩:=z i a;exact⟨l,x,u,t,s.kept q p⟩
def RowsIn.mono{f c a b:Ly}{w:Lt}{v:LA}{L:Lx (Lx LJ)}(h:RowsIn f c w v L)(r:a<=f)(q:c<=b):RowsIn a b w v L:=by
 obtain⟨base,e,rfl,j,g⟩:=h;refine⟨base,e,rfl,j,λd=>?_⟩;have⟨B,o,z,s,y,C,A,u,t⟩:=g d;refine⟨B,o,z,s,y,by omega,by omega,u,λi c=>?_⟩;have⟨l,x,p,n,k⟩:=t i c;exact⟨l,x,p,n,k.mono r q⟩
def RowsIn.cell{c b:Ly}{w:Lt}{v:LA}{L:Lx (Lx LJ)}(h:RowsIn c b w v L):∃base a,v=.slice base L.length a/\(L.length:LJ)<=1000000 /\(L≠[]->∃B o,base=Lq ⟨B,o,Lw⟩/\c<=B/\B<b/\B<w.heap.size/\∀i,i<L.length->∃l x,L[i]?=Lq l/\w.cell? ⟨B,o+i,Lw⟩=Lq x/\ai c b w x l):=by
 obtain⟨base,a,rfl,g,d⟩:=h;refine⟨base,a,rfl,g,λe=>?_⟩;have⟨B,o,y,u,t,s,r,f,q⟩:=d e;refine⟨B,o,t,s,r,(Lz.1 f).1,λi b=>?_⟩;have⟨l,x,n,k,j⟩:=q i b;exact⟨l,x,n,by simp[Mz,f,k],j⟩
def uL(la ha lb hb:Ly)(P O:LA)(a b:Lx (Lx LJ))(w:Lt)(R:RowsIn la ha w P a)(Q:RowsIn lb hb w O b) :MH Ya 65 #[P,O] w λe B=>e=.returned (.bool (decide (a=b)))/\w.gb B Lw:=by
 obtain⟨ba,ca,rfl,d6,v⟩:=R.cell;obtain⟨bb,cb,rfl,d5,S⟩:=Q.cell;have⟨H1,H2⟩:=aS v S;clear v S R Q;by_cases c:a.length=b.length
 ·have X:=Lu c;have h:((a.length:LJ) != (b.length:LJ))=LH:=by rw[c];simp
  clear c;go_enter Tp.x65,XO;go_wp2;go_loopw [5] (λG wr=>∃k:Ly,G=.int .i64 k/\k<=a.length/\(∀i,i<k->a[i]?=b[i]?)/\w.gb wr Lw) (λG _=>(a.length - intOf G).toNat)
  case atStart=>exact⟨0,rfl,by omega,λi C=>absurd C (by omega),Mf _ _⟩
  case round=>
   obtain⟨k,rfl,hk,o,j⟩:=hrel;have⟨A,N⟩:=aS o j;clear o;by_cases g:k<a.length
   ·have f:k<b.length:=by have:=X.out;omega
    obtain⟨A1,o1,rfl,g5,e9,e8,u⟩:=H1.out (by intro e;rw[e] at g;simp at g);obtain⟨B1,o2,rfl,e7,e6,e5,s⟩:=H2.out (by intro e;rw[e] at f;simp at f);have⟨p,x,U,n,I⟩:=u k g;have⟨q,y,T,l,H⟩:=s k f;have x1:=j.cl n;have y1:=j.cl l;have d7:(k:LJ)<(b.length:LJ):=by omega
    have d8:(k:LJ)<(a.length:LJ):=by omega
    have⟨Z,Y⟩:=aS U T;have W:=Lu (I.kept j);have V:=Lu (H.kept j);obtain⟨xb,xc,rfl,-,-⟩:=I.cell;obtain⟨yb,yc,rfl,-,-⟩:=H.cell;have D:=Lu (Mm x1 y1);clear u s j U T n l I H;go_upto_region 6 with(fail);go_region_held3 (λB=>B.cell? ⟨A1,o1+k,Lw⟩=Lq (.slice xb p.length xc)/\B.cell? ⟨B1,o2+k,Lw⟩=Lq (.slice yb q.length yc))
     (first | exact D)
     (first
      | (go_at_call 31;refine(fZ _ _ _ _ _ _ p q _ (by first | exact W | exact W.kept (ak _ Lw)) (by first | exact V | exact V.kept (ak _ Lw))).mono ?_;rintro e w5 ⟨rfl,L⟩;have F:=Lu (show wr.gb w5 Lw by first | exact L | exact(ak _ _).t L);replace D:=Lu (Mm (F.cl D.1) (F.cl D.2));clear L))
    all_goals
     rename_i hHeld
     clear hHeld
    all_goals
     by_cases d:p=q
     ·have r:decide (p=q)=LG:=by simpa using d
      have M:=Lu d;clear d;rw[r];clear r;go_wp2;go_roundw
      case rel=>
       refine⟨k+1,by simp,by omega,λi C=>?_,N.t F⟩;by_cases e:i=k
       ·rw[e,Z,Y,M]
       ·exact A i (by omega)
      case measure=>simp[intOf];omega
     ·have r:decide (p=q)=LH:=by simpa using d
      have z:=Lu (show decide (a=b)=LH by
       rw[decide_eq_false_iff_not];intro e;have v:=Z.out;rw[e,Y] at v;exact d (by cases v;rfl))
      clear d;rw[r];clear r;go_wp2;go_ret;exact⟨by rw[z];rfl,N.t F⟩
   ·obtain rfl:k=a.length:=by omega
    have z:=Lu (show decide (a=b)=LG by
     rw[decide_eq_true_eq];refine QE λi=>?_;by_cases C:i<a.length
     ·exact A i C
     ·rw[Nc (by omega),Nc (by have:=X.out;omega)])
    clear j;go_wp2;go_ret;exact⟨by rw[z];rfl,N⟩
 ·have z:=Lu (show decide (a=b)=LH by
   rw[decide_eq_false_iff_not];intro e;exact c (by rw[e]))
  have h:((a.length:LJ) != (b.length:LJ))=LG:=by simp;omega
  clear c;go_enter Tp.x65,XO;go_wp2;go_ret;exact⟨by rw[z];rfl,Mf _ _⟩
end
end Go.Proofs.YtidgnkmjgioapaaGreat
namespace Go
section
section
variable{l m:Ly}{P:LV}{md:PL}{ops:LM NB}{Q:SS->ON->Lt->Prop}
def Oper.wpIn_of_wp{o:NB}{a:ON}{w:Lt}{K:ON->Lt->Prop}(j:∀c,o.op≠.defer c)(h:o.wp P a w K Q):o.wpIn (Fence.wide.inRound l) m P a w K Q:=by
 refine⟨λf _=>trivial,?_⟩;rw[show o.semAt (Fence.wide.inRound l).round a.eval=OZ a.eval o from Oper.semAt_some l _ _ j];unfold Oper.wp at h;generalize (OZ a.eval o).run P w=r at h ⊢;cases r with
 | ok x i=>
  cases x with
  | enter f b=>exact⟨(λe=>(by cases e)),CallsIn.inRound l (NM.2 h)⟩
  | row r b=>
   refine⟨(λe=>(by cases e)),λc p _=>?_⟩;have⟨v,g,n,k⟩:=h c p;exact⟨v,g,n,stepsIn_wide.2 k⟩
  | value v=>exact h
  | skip=>exact h
  | defer d=>exact h
  | _=>exact h.elim
 | halt x i=>cases x<;>first | exact h | exact h.elim
def qc(d:¬ LetsOut Q)(e:∀(i:Ly) (o:NB),ops[i]?=Lq o->∀c,o.op≠.defer c){i:Ly}{K:ON->Lt->Prop}{a:ON}{w:Lt}(h:wpOp P ops Q i K a w):wpOpIn (Fence.wide.inRound l) m P ops Q i K a w:=by
 unfold wpOp at h;unfold wpOpIn;cases ho:ops[i]? with
 | none=>rw[ho] at h;exact h
 | some o=>
  rw[ho] at h;dsimp only at h ⊢;split
  ·rename_i b
   rw[if_pos b] at h;rcases h with h | h
   ·exact Oper.wpIn_of_wp (e i o ho) h
   ·exact absurd h.2 d
  ·rename_i b
   rw[if_neg b] at h;exact⟨λf _=>trivial,h⟩
def iI(b:¬ LetsOut Q)(d:∀(i:Ly) (o:NB),ops[i]?=Lq o->∀c,o.op≠.defer c):∀(f:Ly) (listed:LM MC) (a:ON) (w:Lt),wpAny P md ops Q f listed a w->wpAnyIn (Fence.wide.inRound l) m P md ops Q f listed a w
 | 0,listed,a,w,h=>h
 | f+1,listed,a,w,h=>⟨h.1,λi g=>qc b d (wpOp_mono (λk e j=>iI b d f _ k e j) (h.2 i g))⟩
def Ad(ops:Lx NB):MC:=ops.all λo=>match o.op with | .defer _=>LH | _=>LG
def uI{ops:Lx NB}(h:Ad ops=LG)(i:Ly)(o:NB)(a:ops.toArray[i]?=Lq o):∀c,o.op≠.defer c:=by
 intro c;have:=MD.1 h o (by rw[SU] at a;exact Mh a);intro e;rw[e] at this;cases this
def rY{id:Ly}{a:ON}{w:Lt}{b:Lx NB}(c:¬ LetsOut Q)(i:Ad b=LG)(n:Ly)(S:Lt->Prop)(hm:P.follows .mixedOrders=LG)(f:decide (n<=b.length)=LG)(k:S w.drew)(h:S w.drew->cw P .any b.toArray Q S n (λlisted a w=>QT .any b.toArray (b.length - n) n listed=LG/\Ua P b.toArray Q (b.drop n) a w) n (MR b.length LH) a w.drew) :(Code.region id b.toArray LG).wpIn (Fence.wide.inRound l) m P Q a w:=by
 have e:n<=b.length:=by simpa using f
 refine wpIn_region_any hm ?_;refine iI c (uI i) _ _ _ _ ?_;have:=ez (g:=b.length - n) (λlisted a w d=>by
  have:=VX (md:=.any) (Q':=Q) (ops:=b.toArray) (b.drop n) n listed a w (λj=>by simp[QY]) (by rw[Qn];exact d.1) d.2
  rwa [Qn] at this) _ _ _ _ (h k)
 rw[show n+(b.length - n)=b.toArray.size by simp;omega] at this;simpa using this
end
end
end Go
namespace Go.Proofs.YtidgnkmjgioapaaGreat
section
open Go Go.Conc.Lib
abbrev link:Go.Conc.Lib.WgLink:={ add:=138,done:=140,wait:=144,relMerge:=166,disable:=167,enable:=168,inBubble:=169,associate:=170,fatal:=171,uOr:=172,uAdd:=173,raceRead:=174,uLoad:=175,uStore:=176,disassociate:=177,semrelease:=178,acquire:=183,isAssociated:=184,uCas:=185,raceWrite:=186,semacquire:=187,orU64:=201,addU64:=202,loadU64:=203,storeU64:=204,casU64:=205,tWgP:=184,tUP:=186,tAssoc:=187,tWg:=166,tAU:=164,tU64:=87,tUint:=177,tU32:=159,tPU32:=191,tPAU:=217,tPU64:=219,tNoCopy:=162,tANoCopy:=155,tAlign64:=156 }
def qd:Go.Conc.Lib.WgLib Ma link :=
 ⟨Tryz.func138,Tryz.func140,Tryz.func144,Tryz.func166,Tryz.func167,Tryz.func168,Tryz.func169,Tryz.func170,Tryz.func171,Tryz.func172,Tryz.func173,Tryz.func174,Tryz.func175,Tryz.func176,Tryz.func177,Tryz.func178,Tryz.func183,Tryz.func184,Tryz.func185,Tryz.func186,Tryz.func187,Tryz.func201,Tryz.func202,Tryz.func203,Tryz.func204,Tryz.func205,Tryz.underlying184,Tryz.runUnderlying184,Tryz.sizeOf184,Tryz.isAgg184,Tryz.zeroValue184,Tryz.underlying186,Tryz.runUnderlying186,Tryz.sizeOf186,Tryz.isAgg186,Tryz.zeroValue186,Tryz.underlying187,Tryz.runUnderlying187,Tryz.sizeOf187,Tryz.isAgg187,Tryz.zeroValue187,Tryz.underlying166,Tryz.runUnderlying166,Tryz.sizeOf166,Tryz.isAgg166,Tryz.zeroValue166,Tryz.underlying164,Tryz.runUnderlying164,Tryz.sizeOf164,Tryz.isAgg164,Tryz.zeroValue164,Tryz.underlying87,Tryz.runUnderlying87,Tryz.sizeOf87,Tryz.isAgg87,Tryz.zeroValue87,Tryz.underlying177,Tryz.runUnderlying177,Tryz.sizeOf177,Tryz.isAgg177,Tryz.zeroValue177,Tryz.underlying159,Tryz.runUnderlying159,Tryz.sizeOf159,Tryz.isAgg159,Tryz.zeroValue159,Tryz.underlying191,Tryz.runUnderlying191,Tryz.sizeOf191,Tryz.isAgg191,Tryz.zeroValue191,Tryz.underlying217,Tryz.runUnderlying217,Tryz.sizeOf217,Tryz.isAgg217,Tryz.zeroValue217,Tryz.underlying219,Tryz.runUnderlying219,Tryz.sizeOf219,Tryz.isAgg219,Tryz.zeroValue219,Tryz.underlying0,Tryz.runUnderlying0,Tryz.sizeOf0,Tryz.isAgg0,Tryz.zeroValue0,Tryz.underlying3,Tryz.runUnderlying3,Tryz.sizeOf3,Tryz.isAgg3,Tryz.zeroValue3,Tryz.underlying4,Tryz.runUnderlying4,Tryz.sizeOf4,Tryz.isAgg4,Tryz.zeroValue4,Tryz.underlying9,Tryz.runUnderlying9,Tryz.sizeOf9,Tryz.isAgg9,Tryz.zeroValue9,Tryz.underlying20,Tryz.runUnderlying20,Tryz.sizeOf20,Tryz.isAgg20,Tryz.zeroValue20,Tryz.underlying21,Tryz.runUnderlying21,Tryz.sizeOf21,Tryz.isAgg21,Tryz.zeroValue21,(by kernel_rfl),(by kernel_rfl)⟩
end
section
open Go.RowKit
def YOk.be{b:Lx Par}{a:LJ}(h:YOk b a):∀p∈b,0<=p.bears/\p.bears<=1000:=λp c=>by
 have:=h.each p c;omega
def tJ{w:Lt}{R Y o:Ly}{u v x:LA}(a:Y≠R)(h:w.cell? ⟨Y,o,Lw⟩=Lq x):((w.setCell R u).setCell ⟨R,1,Lw⟩ v).cell? ⟨Y,o,Lw⟩=Lq x:=by
 rw[NL _ _ _ _ (λe=>a (congrArg TM e).symm),NL _ _ _ _ (λe=>a (congrArg TM e).symm)];exact h
def lZ(a:Lx Par)(l:Lx LJ):LA :=
 if cR a (pre Par.mn a a.length) l l.length<0\/l.length=0 then .tuple #[.agg #[.int .i64 0,.int .i64 0],.int .i64 11]
 else .tuple #[.agg #[.int .i64 (max (-1) (cR a (pre Par.mx a a.length) l l.length)),(cR a (pre Par.mn a a.length) l l.length)],.int .i64 0]
def AZ(F x:Ly)(pv qv:LA)(c:Lx Par)(d:LJ)(l:Lx LJ)(w:Lt)(hP:aC F x w pv c)(hI:ai F x w qv l)(n4:x<=w.heap.size)(a8:YOk c d)(hp:POk c d l) :MH Ya 36 #[.agg #[pv,d],qv] w λe k=>e=.returned (lZ c l)/\w.gb k Lw:=by
 obtain⟨O,N,rfl,n2,-⟩:=hP.cell;obtain⟨base,k6,rfl,n3,-⟩:=hI.cell;have⟨A,w1,hA,a6,H,T,b9,g9⟩:=de w (.cells #[.slice O c.length N,d] 24) (.cells #[.int .i64 0,.int .i64 0] 26);have d7:=Lu (hI.kept H);have d5:=Lu (hP.kept H);have⟨k7,HA,l7,l4⟩:=dD a6 hA H b9;have q0:=aa T (o:=0) rfl;have q1:=aa T (o:=1) rfl;have n6:x<=A:=by omega
 have⟨L,C⟩:=aS a8 hp;clear hP hI a8 hp a6 hA H T b9;go_enter Tp.x36,Tryz.ntmps36;go_upto_region 1 with(fail);rw[<- HA,<- k7];go_upto_region 2 with(go_at_call 81;refine(fA F x _ _ c d l _ d5 d7 (by omega) L C).mono ?_;rintro e w2 ⟨rfl,c3⟩;have D:=Lu c3;clear c3);have g8:=D.out.size;obtain⟨Y,G⟩:∃Y,Y=w2.heap.size:=⟨_,rfl⟩;obtain⟨g,y⟩:∃g,g=w2.alloc (.cells #[.slice O c.length N,d] 91):=⟨_,rfl⟩;have B:w2.gb g Lw:=by rw[y];exact Lr _ _ Lw
 have c8:g.heap[Y]?=Lq (.cells #[.slice O c.length N,d] 91 (0,0)):=by rw[y,G];exact LS _ _
 have g7:g.heap.size=Y+1:=by rw[y,Mc,G]
 rw[<- G,<- y];clear q0 q1;have M:=Lu c8;have e4:=Lu ((l7.t D).t B);have f:=Lu (bk B (blk D (by simp) l4));have l6:=Lu ((d7.kept D).kept B);have l5:=Lu ((d5.kept D).kept B);have n7:A+1<Y:=by omega
 have q:x<=g.heap.size:=by omega
 clear B c8 y G g9 g8 g7;have s0:=aa M (o:=0) rfl;have s1:=aa M (o:=1) rfl;have s2:=aa f (o:=0) rfl;have s3:=aa f (o:=1) rfl;have z0:=aB (o:=0) f;have z1:=aB (o:=1) f;go_upto_region 4 with(fail);have b:=Lu (Mf g Lw);have Z:∀W,g.gb W Lw->dh F x W (.agg #[.slice O c.length N,d]) c d:=λW h=>⟨_,rfl,l5.kept h⟩;have b0:∀W,g.gb W Lw->ai F x W (.slice base l.length k6) l:=λW h=>l6.kept h;have a7:∀W,g.gb W Lw->W.cell? Y=Lq (.slice O c.length N)/\W.cell? ⟨Y,1,Lw⟩=Lq (.int .i64 d)/\W.cell? (A+1:Ly)=Lq (.int .i64 0)/\W.cell? ⟨A+1,1,Lw⟩=Lq (.int .i64 0)/\W.frozen? ⟨A+1,0,Lw⟩=LH/\W.frozen? ⟨A+1,1,Lw⟩=LH:=λW h=>
  ⟨aa (bk h M) rfl,aa (bk h M) rfl,aa (bk h f) rfl,aa (bk h f) rfl,aB (bk h f),aB (bk h f)⟩
 have⟨I,d6,u⟩:=bL Z b0 a7;clear Z b0 a7;have p:=Lu (u g (Mf g Lw));obtain⟨U,S⟩:∃U,U=pre Par.mn c c.length:=⟨_,rfl⟩;obtain⟨gx,R⟩:∃gx,gx=pre Par.mx c c.length:=⟨_,rfl⟩;have b7:∀i,0<=U i/\U i<=1000:=by rw[S];exact L.mn
 have b6:∀i,0<=gx i/\gx i<=1000:=by rw[R];exact L.mx
 have⟨d9,d8,e6,e5⟩:=dD S R b7 b6;clear S R b7 b6;go_region_held3 (λk=>k.cell? Y=Lq (.slice O c.length N)/\k.cell? ⟨Y,1,Lw⟩=Lq (.int .i64 d)/\k.cell? (A+1:Ly)=Lq (.int .i64 0)/\k.cell? ⟨A+1,1,Lw⟩=Lq (.int .i64 0)/\k.frozen? ⟨A+1,0,Lw⟩=LH/\k.frozen? ⟨A+1,1,Lw⟩=LH)
  (first | exact p)
  (first
   | (go_at_call 93;refine(lj F x _ c d _ (I _ (by first | exact b | exact b.t (ak _ _))) (LN q (by first | exact b.size | exact(b.t (ak _ Lw)).size)) L.len).mono ?_;rintro e r ⟨rfl,n⟩;rw[<- d9];replace b:=Lu (show g.gb r Lw by first | exact b.t n | exact(b.t (ak _ _)).t n);replace p:=Lu (u r b);clear n)
   | (go_at_call 94;refine(te F x _ _ c d l _ _ (I _ (by first | exact b | exact b.t (ak _ _))) (d6 _ (by first | exact b | exact b.t (ak _ _))) (LN q (by first | exact b.size | exact(b.t (ak _ Lw)).size)) L.len C.ok (by have:=C.out.len;omega) (by first | exact e6 | exact e5) L.be).mono ?_;rintro e r ⟨rfl,n⟩;replace b:=Lu (show g.gb r Lw by first | exact b.t n | exact(b.t (ak _ _)).t n);replace p:=Lu (u r b);clear n))
 have k9:=Lu (show r.cell? Y=Lq (.slice O c.length N)/\r.cell? ⟨Y,1,Lw⟩=Lq (.int .i64 d)/\r.cell? (A+1:Ly)=Lq (.int .i64 0)/\r.cell? ⟨A+1,1,Lw⟩=Lq (.int .i64 0)/\r.frozen? ⟨A+1,0,Lw⟩=LH/\r.frozen? ⟨A+1,1,Lw⟩=LH from p);have V:=Lu (show lZ c l=if cR c U l l.length<0\/l.length=0 then .tuple #[.agg #[.int .i64 0,.int .i64 0],.int .i64 11] else .tuple #[.agg #[.int .i64 (max (-1) (cR c gx l l.length)),(cR c U l l.length)],.int .i64 0] by rw[d9,d8];rfl);obtain⟨a,ha⟩:∃a,a=cR c U l l.length:=⟨_,rfl⟩;rw[<- ha] at V ⊢;have n8:=Lu ha;clear ha
 rename_i hHeld
 clear hHeld;clear s0 s1 s2 s3 z0 z1;have⟨s0,s1,s2,s3,z0,z1⟩:=k9.out;have P:∀(k:Lt),r.gb k (Lq (A+1))->w.gb k Lw:=λk h=>(e4.t b).andThen h (λj e=>by cases e;left;rw[<- HA];omega);have Q:=Lu P;clear P;by_cases h1:a<0
 ·have z:lZ c l=.tuple #[.agg #[.int .i64 0,.int .i64 0],.int .i64 11]:=by rw[V,if_pos (.inl h1)]
  have s:=Lu z;clear z V;go_wp2;refine Ot (v:=.tuple #[.agg #[.int .i64 0,.int .i64 0],.int .i64 11]) ?_ rfl ⟨by rw[s],Q _ ((an _ _ _ _).t (an _ _ _ _))⟩;rw[Ui rfl];go_simp
 ·by_cases h2:l.length=0
  ·have z:lZ c l=.tuple #[.agg #[.int .i64 0,.int .i64 0],.int .i64 11]:=by rw[V,if_pos (.inr h2)]
   have s:=Lu z;have k5:((l.length:LJ) == 0)=LG:=by simp[h2]
   clear z V h2;go_wp2;refine Ot (v:=.tuple #[.agg #[.int .i64 0,.int .i64 0],.int .i64 11]) ?_ rfl ⟨by rw[s],Q _ ((an _ _ _ _).t (an _ _ _ _))⟩;rw[Ui rfl];go_simp
  ·have z:lZ c l=.tuple #[.agg #[.int .i64 (max (-1) (cR c gx l l.length)),a],.int .i64 0]:=by rw[V,if_neg (by rintro(h | h);exact h1 h;exact h2 h)]
   have s:=Lu z;have k5:((l.length:LJ) == 0)=LH:=by rw[beq_eq_false_iff_ne];omega
   have b8:Y≠A+1:=by omega
   clear z V h2;go_upto_region 7 with(fail);have p:=Lu (u r b);clear s2 s3 z0 z1;go_region_held3 (λk=>k.cell? Y=Lq (.slice O c.length N)/\k.cell? ⟨Y,1,Lw⟩=Lq (.int .i64 d))
    (first | exact⟨p.1,p.2.1⟩ | exact⟨tJ b8 p.1,tJ b8 p.2.1⟩)
    (first
     | (go_at_call 92;refine(kG F x _ c d _ (I _ (by first | exact b | exact b.t (ak _ _))) (LN q (by first | exact b.size | exact(b.t (ak _ Lw)).size)) L.len).mono ?_;rintro e X ⟨rfl,n⟩;rw[<- d8];replace b:=Lu (show g.gb X Lw by first | exact b.t n | exact(b.t (ak _ _)).t n);replace p:=Lu (u X b);clear n)
     | (go_at_call 94;refine(te F x _ _ c d l _ _ (I _ (by first | exact b | exact b.t (ak _ _))) (d6 _ (by first | exact b | exact b.t (ak _ _))) (LN q (by first | exact b.size | exact(b.t (ak _ Lw)).size)) L.len C.ok (by have:=C.out.len;omega) (by first | exact e6 | exact e5) L.be).mono ?_;rintro e X ⟨rfl,n⟩;replace b:=Lu (show g.gb X Lw by first | exact b.t n | exact(b.t (ak _ _)).t n);replace p:=Lu (u X b);clear n;have r0:=p.out.2.2.1;have r1:=p.out.2.2.2.1;have r2:=p.out.2.2.2.2.1;have r3:=p.out.2.2.2.2.2))
   generalize hm:(if -1<cR c gx l l.length then cR c gx l l.length else -1)=m;have z:lZ c l=.tuple #[.agg #[m,a],.int .i64 0]:=by
    rw[s,show max (-1) (cR c gx l l.length)=m by rw[<- hm];omega]
   have k8:=Lu z;clear z hm s;go_wp2;refine Ot (v:=.tuple #[.agg #[m,a],.int .i64 0]) ?_ rfl ⟨by rw[k8],(e4.t b).andThen ((an _ _ _ _).t (an _ _ _ _)) (λj e=>by cases e;left;rw[<- HA];omega)⟩;rw[Ui rfl];go_simp
def Tp.info26p:(Ya.info? 26).map (λi=>(i.zero,i.size,i.bytes))=Lq (Lq (.agg #[.int .i64 0,.int .i64 0]),2,16):=by kernel_rfl
def Tp.und48:Ya.underlying 48=Lq (.slice 26):=by rw[Tp.und];exact Tryz.underlying48
def bg(c d:Ly)(w:Lt)(v:LA)(l:Lx (LJ × LJ)):Prop :=
 ∃base b,v=.slice base l.length b/\(l.length:LJ)<=1000000 /\
  (l≠[]->∃B o a e,base=Lq ⟨B,o,Lw⟩/\c<=B/\B<d/\w.heap[B]?=Lq (.cells a 26 e) /\
   ∀i,i<l.length->∃p,l[i]?=Lq p/\a[o+i*2]?=Lq (.int .i64 p.1)/\a[o+(i*2+1)]?=Lq (.int .i64 p.2))
def bg.kept{a g:Ly}{w j:Lt}{v:LA}{k:Lx (LJ × LJ)}{row:LU Ly}(h:bg a g w v k)(q:w.gb j row)(l:∀R,row=Lq R->R<a\/g<=R:=by simp):bg a g j v k:=by
 obtain⟨base,i,rfl,p,d⟩:=h;refine⟨base,i,rfl,p,λf=>?_⟩;have⟨B,o,z,r,y,x,u,t,s⟩:=d f;exact⟨B,o,z,r,y,x,u,blk q (λe=>by have:=l B e.symm;omega) t,s⟩
def bg.mono{f g a b:Ly}{w:Lt}{v:LA}{e:Lx (LJ × LJ)}(h:bg f g w v e)(s:a<=f)(r:g<=b):bg a b w v e:=by
 obtain⟨base,d,rfl,j,i⟩:=h;refine⟨base,d,rfl,j,λc=>?_⟩;have⟨B,o,q,k,p,u,t,n,l⟩:=i c;exact⟨B,o,q,k,p,by omega,by omega,n,l⟩
def bg.cell{g c:Ly}{w:Lt}{v:LA}{b:Lx (LJ × LJ)}(h:bg g c w v b):∃base a,v=.slice base b.length a/\(b.length:LJ)<=1000000 /\(b≠[]->∃B o,base=Lq ⟨B,o,Lw⟩/\g<=B/\B<c/\B<w.heap.size/\∀i,i<b.length->∃p,b[i]?=Lq p/\w.cell? ⟨B,o+i*2,Lw⟩=Lq (.int .i64 p.1)/\w.cell? ⟨B,o+i*2+1,Lw⟩=Lq (.int .i64 p.2)):=by
 obtain⟨base,a,rfl,j,d⟩:=h;refine⟨base,a,rfl,j,λe=>?_⟩;have⟨B,o,x,u,t,s,r,f,q⟩:=d e;refine⟨B,o,t,s,r,(Lz.1 f).1,λi c=>?_⟩;have⟨p,n,l,k⟩:=q i c;exact⟨p,n,by simp[Mz,f,l],by simp[Mz,f,RY,k]⟩
def gV(l:Lx (LJ × LJ)):Lx LA:=l.flatMap λp=>[.int .i64 p.1,.int .i64 p.2]
def Cu(l:Lx (LJ × LJ)):(gV l).length=l.length*2:=by
 unfold gV;induction l with
 | nil=>rfl
 | cons p l a=>simp only[Oo,Na,a,LX,Mj];omega
def zI(l:Lx (LJ × LJ))(p:LJ × LJ):gV (l++[p])=gV l++[.int .i64 p.1,.int .i64 p.2]:=by simp[gV]
def tV:∀(l:Lx (LJ × LJ)) (i:Ly),i<l.length->∃p,l[i]?=Lq p/\(gV l)[i*2]?=Lq (.int .i64 p.1)/\(gV l)[i*2+1]?=Lq (.int .i64 p.2)
 | p::l,0,_=>⟨p,rfl,rfl,rfl⟩
 | p::l,i+1,h=>by
  have⟨q,c,b,a⟩:=tV l i (by simpa using h);refine⟨q,by simpa using c,?_,?_⟩
  ·show([Mp .i64 p.1,.int .i64 p.2]++gV l)[(i+1)*2]?=_;rw[Nz (by simp;omega)];rw[<- b];congr 1;simp;omega
  ·show([Mp .i64 p.1,.int .i64 p.2]++gV l)[(i+1)*2+1]?=_;rw[Nz (by simp;omega)];rw[<- a];congr 1;simp;omega
def bg.own{k n:Ly}{w:Lt}{v:LA}{l:Lx (LJ × LJ)}(h:w.ownsRow k 26 2 v n (gV l))(o:(l.length:LJ)<=1000000):bg k w.heap.size w v l:=by
 obtain⟨e,d⟩:=h;have t:l.length=n:=by rw[Cu] at e;omega
 subst t;rcases d with⟨rfl,r⟩ | ⟨g,f,b,rfl,y,q,B,hm,A,s⟩
 ·exact⟨Lw,0,by rw[r],o,λc=>absurd (MT r) c⟩
 ·refine⟨_,f,rfl,o,λ_=>⟨g,0,b,(0,0),rfl,y,(Lz.1 q).1,q,λi x=>?_⟩⟩;have⟨p,e,d,z⟩:=tV l i x;have a:∀j,j<l.length*2->b[j]?=(gV l)[j]?:=λj u=>by
   rw[<- s,QZ,if_pos u];simp
  exact⟨p,e,by rw[Mn,a _ (by omega),d],by rw[Mn,a _ (by omega),z]⟩
def AD(a b c d:LJ)(w:Lt):(Op.equalIn 10000 26 (.agg #[a,b]) (.agg #[c,d])).run Ya w=.ok (decide ((a,b)=(c,d))) w:=by
 have u26:Ya.underlying 26=Tryz.prog.underlying 26:=Tp.und 26;have u3:Ya.underlying 3=Lq (.int .i64):=by rw[Tp.und];exact Tryz.underlying3
 have f:Ya.underlying 26=Lq (.struct (Ya.fieldsOf 26)):=by kernel_rfl
 have e:Ya.stoodInHeld 26=LH:=by kernel_rfl
 rw[show(10000:Ly)=9999+1 from rfl,run_equalIn_agg w 9999 26 _ _ f e];simp only[Program.fieldsOf,u26,Tryz.underlying26];go_simp;by_cases h:a=c<;>by_cases g:b=d<;>simp[h,g]
def Fp(a b c d:LJ)(w:Lt):(binOp .neq 26 (.agg #[a,b]) (.agg #[c,d])).run Ya w=.ok (.bool (!decide ((a,b)=(c,d)))) w:=by
 rw[run_neq_struct,AD];rfl
def Fq(a b c d:LJ)(w:Lt):(binOp .eql 26 (.agg #[a,b]) (.agg #[c,d])).run Ya w=.ok (.bool (decide ((a,b)=(c,d)))) w:=by
 rw[run_eql_struct,AD];rfl
def rR(c:UL)(x y:MS)(a b:LM LA)(w:Lt):(eqGuard c 26 x y (.agg a) (.agg b)).run Ya w=.ok () w:=run_eqGuard_agg w c 26 x y a b (by kernel_rfl)
def fj(a:Lx Par)(l:Lx LJ):Lx (LJ × LJ):=(Mr l.length).map λi=>(loadAt (pre Par.mn a a.length) l i,loadAt (pre Par.mx a a.length) l i)
def sj(Z ha Y hb:Ly)(O N:LA)(a b:Lx (LJ × LJ))(w:Lt)(Q:bg Z ha w O a)(P:bg Y hb w N b) :MH Ya 51 #[O,N] w λe X=>e=.returned (.bool (decide (a=b)))/\w.gb X Lw:=by
 obtain⟨ba,ca,rfl,a7,D⟩:=Q.cell;obtain⟨bb,cb,rfl,a6,R⟩:=P.cell;have⟨H1,H2⟩:=aS D R;clear D R Q P;by_cases c:a.length=b.length
 ·have U:=Lu c;have h:((a.length:LJ) != (b.length:LJ))=LH:=by rw[c];simp
  clear c;go_enter Tp.x51,XP;go_wp2;go_loopw [5] (λI wr=>∃k:Ly,I=.int .i64 k/\k<=a.length/\(∀i,i<k->a[i]?=b[i]?)/\w.gb wr Lw) (λI _=>(a.length - intOf I).toNat)
  case atStart=>exact⟨0,rfl,by omega,λi H=>absurd H (by omega),Mf _ _⟩
  case round=>
   obtain⟨k,rfl,hk,y,j⟩:=hrel;have⟨G,M⟩:=aS y j;clear y;by_cases g:k<a.length
   ·have f:k<b.length:=by have:=U.out;omega
    obtain⟨A1,o1,rfl,d6,d5,c9,C⟩:=H1.out (by intro e;rw[e] at g;simp at g);obtain⟨B1,o2,rfl,c8,c3,b9,B⟩:=H2.out (by intro e;rw[e] at f;simp at f);have⟨p,T,r,o⟩:=C k g;have⟨q,S,n,l⟩:=B k f;have x1:=j.cl r;have x2:=j.cl o;have y1:=j.cl n;have y2:=j.cl l;obtain⟨x,v⟩:=p;obtain⟨u,s⟩:=q;have a8:(k:LJ)<(b.length:LJ):=by omega
    have b0:(k:LJ)<(a.length:LJ):=by omega
    have⟨W,V⟩:=aS T S;clear C B j T S r o n l;have A:=Fp x v u s;have b6:=rR .neq (.tmp 20) (.tmp 24) #[x,v] #[u,s];by_cases d:(x,v)=(u,s)
    ·have z:decide ((x,v)=(u,s))=LG:=by simpa using d
     rw[z] at A;have L:=Lu d;clear z d;go_upto_region 6 with(fail);go_quiet (fail);go_wp2;go_roundw
     case rel=>
      refine⟨k+1,by simp,by omega,λi H=>?_,M.t (ay _ _ _)⟩;by_cases e:i=k
      ·rw[e,W,V,L]
      ·exact G i (by omega)
     case measure=>simp[intOf];omega
    ·have z:decide ((x,v)=(u,s))=LH:=by simpa using d
     rw[z] at A;have F:=Lu (show decide (a=b)=LH by
      rw[decide_eq_false_iff_not];intro e;have D:=W.out;rw[e,V] at D;exact d (by cases D;rfl))
     clear z d;go_upto_region 6 with(fail);go_quiet (fail);go_wp2;go_ret;exact⟨by rw[F];rfl,M.t (ay _ _ _)⟩
   ·obtain rfl:k=a.length:=by omega
    have F:=Lu (show decide (a=b)=LG by
     rw[decide_eq_true_eq];refine QE λi=>?_;by_cases H:i<a.length
     ·exact G i H
     ·rw[Nc (by omega),Nc (by have:=U.out;omega)])
    clear j;go_wp2;go_ret;exact⟨by rw[F];rfl,M⟩
 ·have F:=Lu (show decide (a=b)=LH by
   rw[decide_eq_false_iff_not];intro e;exact c (by rw[e]))
  have h:((a.length:LJ) != (b.length:LJ))=LG:=by simp;omega
  clear c;go_enter Tp.x51,XP;go_wp2;go_ret;exact⟨by rw[F];rfl,Mf _ _⟩
def zd(a:Lx Par)(l:Lx LJ):(fj a l).length=l.length:=by simp[fj]
def wY(a:Lx Par)(l:Lx LJ)(k:Ly)(h:k<l.length):(fj a l).take (k+1)=(fj a l).take k++[(loadAt (pre Par.mn a a.length) l k,loadAt (pre Par.mx a a.length) l k)]:=by
 rw[Np];simp[fj,h]
def BF(D p:Ly)(pv qv:LA)(c:Lx Par)(b:LJ)(l:Lx LJ)(w:Lt)(hP:aC D p w pv c)(hI:ai D p w qv l)(s6:p<=w.heap.size)(T:YOk c b)(hp:POk c b l) :MH Ya 35 #[.agg #[pv,b],qv] w λe C=>∃v,e=.returned (.tuple #[v,.int .i64 0])/\w.gb C Lw/\bg w.heap.size C.heap.size C v (fj c l):=by
 have⟨i0,l8,k9,k8,k7⟩:=Pd Tp.info26p;obtain⟨R,Q,rfl,r9,-⟩:=hP.cell;obtain⟨base,m7,rfl,s5,-⟩:=hI.cell;have⟨A,w1,hA,S,H,Z⟩:=fg w (.cells #[.slice R c.length Q,b] 24);have l6:w1.heap.size=A+1:=by rw[S,Mc,hA]
 have e7:=Lu (hI.kept H);have e4:=Lu (hP.kept H);have⟨m8,HA,n9⟩:=bL S hA H;have q0:=aa Z (o:=0) rfl;have q1:=aa Z (o:=1) rfl;have s7:p<=A:=by omega
 have⟨HY,n2⟩:=aS T hp;have l7:l.length<=100:=hp.len;have b0:∀x∈l,0<=x/\x<5:=λx hx=>by have h1:=hp.ok x hx;have h2:=T.len;omega
 have d9:=Lu b0;clear hP hI T hp S hA H Z b0;go_enter Tp.x35,Tryz.ntmps35;go_upto_region 1 with(fail);rw[<- HA,<- m8];go_upto_region 2 with(go_at_call 81;refine(fA D p _ _ c b l _ e4 e7 (by omega) HY n2).mono ?_;rintro e w2 ⟨rfl,d5⟩;have L:=Lu d5;clear d5);have l5:=L.out.size;obtain⟨Y,F⟩:∃Y,Y=w2.heap.size:=⟨_,rfl⟩;obtain⟨f,q⟩:∃f,f=w2.alloc (.cells #[.slice R c.length Q,b] 91):=⟨_,rfl⟩;have G:w2.gb f Lw:=by rw[q];exact Lr _ _ Lw
 have d6:f.heap[Y]?=Lq (.cells #[.slice R c.length Q,b] 91 (0,0)):=by rw[q,F];exact LS _ _
 have l4:f.heap.size=Y+1:=by rw[q,Mc,F]
 rw[<- F,<- q];clear q0 q1;have M:=Lu d6;have g6:=Lu ((n9.t L).t G);have n7:=Lu ((e7.kept L).kept G);have n3:=Lu ((e4.kept L).kept G);have s8:A<Y:=by omega
 have n:p<=f.heap.size:=by omega
 have s3:w.heap.size<=f.heap.size:=g6.out.size;clear G d6 q F l6 l5 l4;have s0:=aa M (o:=0) rfl;have s1:=aa M (o:=1) rfl;go_upto_region 5 with(fail);have a:=Lu (Mf f Lw);have a8:∀W,f.gb W Lw->dh D p W (.agg #[.slice R c.length Q,b]) c b:=λW h=>⟨_,rfl,n3.kept h⟩;have b7:∀W,f.gb W Lw->ai D p W (.slice base l.length m7) l:=λW h=>n7.kept h;have b6:∀W,f.gb W Lw->W.cell? Y=Lq (.slice R c.length Q)/\W.cell? ⟨Y,1,Lw⟩=Lq (.int .i64 b):=λW h=>
  ⟨aa (bk h M) rfl,aa (bk h M) rfl⟩
 have⟨d7,e6,z⟩:=bL a8 b7 b6;clear a8 b7 b6;have P:=Lu (z f (Mf f Lw));obtain⟨I,V⟩:∃I,I=pre Par.mn c c.length:=⟨_,rfl⟩;obtain⟨gx,U⟩:∃gx,gx=pre Par.mx c c.length:=⟨_,rfl⟩;have c3:∀i,0<=I i/\I i<=1000:=by rw[V];exact HY.mn
 have b9:∀i,0<=gx i/\gx i<=1000:=by rw[U];exact HY.mx
 have⟨e9,e8,g8,g7⟩:=dD V U c3 b9;clear V U c3 b9;go_region_held3 (λC=>C.cell? Y=Lq (.slice R c.length Q)/\C.cell? ⟨Y,1,Lw⟩=Lq (.int .i64 b))
  (first | exact P)
  (first
   | (go_at_call 92;refine(kG D p _ c b _ (d7 _ (by first | exact a | exact a.t (ak _ _))) (LN n (by first | exact a.size | exact(a.t (ak _ Lw)).size)) HY.len).mono ?_;rintro e w5 ⟨rfl,d⟩;rw[<- e8];replace a:=Lu (show f.gb w5 Lw by first | exact a.t d | exact(a.t (ak _ _)).t d);replace P:=Lu (z w5 a);clear d)
   | (go_at_call 91;refine(lh D p _ _ l _ _ (e6 _ (by first | exact a | exact a.t (ak _ _))) (LN n (by first | exact a.size | exact(a.t (ak _ Lw)).size)) d9 (by omega) (by first | exact g8 | exact g7) ⟨_,_,rfl⟩).mono ?_;rintro e w5 ⟨lv,rfl,d,X⟩;have hc:=X.cell;rw[gd] at hc;obtain⟨mb,mc,rfl,-,-⟩:=hc;have HM:=Lu X;replace a:=Lu (show f.gb w5 Lw by first | exact a.t d | exact(a.t (ak _ _)).t d);replace P:=Lu (z w5 a);clear d X))
 rename_i wa wm hHeld
 clear hHeld s0 s1;have s9:=Lu a;have s0:=P.out.1;have s1:=P.out.2;go_upto_region 6 with(fail);go_region_held3 (λC=>C.cell? Y=Lq (.slice R c.length Q)/\C.cell? ⟨Y,1,Lw⟩=Lq (.int .i64 b))
  (first | exact P)
  (first
   | (go_at_call 93;refine(lj D p _ c b _ (d7 _ (by first | exact a | exact a.t (ak _ _))) (LN n (by first | exact a.size | exact(a.t (ak _ Lw)).size)) HY.len).mono ?_;rintro e B ⟨rfl,d⟩;rw[<- e9];replace HM:=Lu (HM.kept (row:=Lw) (show World.gb _ B Lw by first | exact d | exact(ak _ _).t d) (by simp));replace a:=Lu (show f.gb B Lw by first | exact a.t d | exact(a.t (ak _ _)).t d);replace P:=Lu (z B a);clear d)
   | (go_at_call 91;refine(lh D p _ _ l _ _ (e6 _ (by first | exact a | exact a.t (ak _ _))) (LN n (by first | exact a.size | exact(a.t (ak _ Lw)).size)) d9 (by omega) (by first | exact g8 | exact g7) ⟨_,_,rfl⟩).mono ?_;rintro e B ⟨lv,rfl,d,X⟩;have hc:=X.cell;rw[gd] at hc;obtain⟨lb,lc,rfl,-,-⟩:=hc;have HL:=Lu X;replace HM:=Lu (HM.kept (row:=Lw) (show World.gb _ B Lw by first | exact d | exact(ak _ _).t d) (by simp));replace a:=Lu (show f.gb B Lw by first | exact a.t d | exact(a.t (ak _ _)).t d);replace P:=Lu (z B a);clear d X))
 rename_i hHeld
 clear hHeld s0 s1;have y:=HL.out.cell;have u:=HM.out.cell;rw[gd] at y u;obtain⟨_,_,he,-,y⟩:=y;cases he;obtain⟨_,_,he,-,u⟩:=u;cases he;have⟨p4,p3⟩:=aS y u;have g5:=Lu (g6.t a);clear y u;have m4:Hid (∀k,k<l.length->(gV ((fj c l).take (k+1)))=gV ((fj c l).take k)++[.int .i64 (loadAt I l k),.int .i64 (loadAt gx l k)]):=Lu λk hk=>by
  rw[wY c l k hk,zI,e9,e8]
 go_wp2;go_loopw [8,32] (λov iv wr=>∃k:Ly,iv=.int .i64 k/\k<=l.length/\B.gb wr Lw/\wr.ownsRow B.heap.size 26 2 ov k (gV ((fj c l).take k))) (λ_ iv _=>(l.length - intOf iv).toNat)
 case atStart=>exact⟨0,rfl,by omega,Mf _ _,by simpa[gV] using OF _ _ _ _⟩
 case round=>
  obtain⟨k,rfl,hk,hG,hO⟩:=hrel;obtain⟨oa,om,oc,rfl⟩:=cF hO;have⟨HG,HO⟩:=aS hG hO;have s4:=hG.size;by_cases r:k<l.length
  ·have O:ldL I l≠[]:=by intro e;have:=gd I l;rw[e] at this;simp at this;omega
   have N:ldL gx l≠[]:=by intro e;have:=gd gx l;rw[e] at this;simp at this;omega
   obtain⟨LB,r7,rfl,-,-,-,c9⟩:=p4.out O;obtain⟨MB,r5,rfl,-,-,-,c8⟩:=p3.out N;have x1:=hG.cl (c9 k r);have x2:=hG.cl (c8 k r);rw[pV I l k r] at x1;rw[pV gx l k r] at x2;have HS:=Lu (m4 k r);generalize loadAt I l k=p1 at x1 HS;generalize loadAt gx l k=p2 at x2 HS;have p8:(k:LJ)<(l.length:LJ):=by omega
   clear c9 c8 O N hG hO;go_wp2_with (at_builtin;(refine wpList_append_own _ rfl _ _ 48 rfl B.heap.size 26 i0 _ 2 16 Tp.und48 l8 k9 k8 k7 rfl (by decide) (.slice oa om oc) k _ rfl (HO.alloc _) ⟨wr.heap.size,0,Lw⟩ 1 1 [.int .i64 p1,.int .i64 p2] rfl rfl (Of (cs:=#[p1,p2]) (t:=26) (fr:=(0,0)) (LS wr _)) (by simp[OV]) (by unfold Qe;omega) (by omega) (by simp;omega) ?_);intro v' w7 g s _;obtain⟨g',q3,rfl⟩:=ownsRow_succ g;have n4:=Lu g;have n8:=Lu s;clear g s);go_roundw
   case rel=>
    refine⟨k+1,by simp,by omega,(HG.t (Lr _ _ Lw)).andThen n8 (λj e=>.inl (HO.lt j e).1),?_⟩;rw[HS];exact n4
   case measure=>simp[intOf];omega
  ·obtain rfl:k=l.length:=by omega
   clear hG hO;go_wp2;go_ret2;have h0:=HO.out;rw[show(fj c l).take l.length=fj c l from Uv (by simp[fj])] at h0;exact⟨_,rfl,g5.t HG,(bg.own h0 (by rw[zd];omega)).mono g5.size (LC _)⟩
def jX(a:Lx Par)(l:Lx LJ)(k:Ly):LJ:=match l[k]? with
 | some x=>if 0<=x/\x<a.length then(if x∈l.take k then 4 else 0) else 3
 | none=>0
def rH(a:Lx Par)(b:LJ)(l:Lx LJ):LJ:=match (Mr l.length).find? (λk=>decide (jX a l k≠0)) with
 | some k=>jX a l k
 | none=>xS a b l
def xT{a:Lx Par}{b:LJ}{l:Lx LJ}{k:Ly}{e:LJ}(n:∀j,j<k->jX a l j=0)(g:k<l.length)(f:jX a l k=e)(o:e≠0):rH a b l=e:=by
 unfold rH;rw[uP (λk=>decide (jX a l k≠0)) (Mr l.length) k k (Qh g) (by simp[f,o]) (λi y h d=>by
  have c:y=i:=by rw[Qh (by omega)] at d;exact(OQ d).symm
  subst c;simp[n y h])]
 exact f
def Hj{b:Lx Par}{a:LJ}{l:Lx LJ}(f:∀j,j<l.length->jX b l j=0):rH b a l=xS b a l:=by
 unfold rH;rw[pY _ _ (λi y d=>by
  have e:i<l.length:=by have:=(Md.1 d).1;simpa using this
  have c:y=i:=by rw[Qh e] at d;exact(OQ d).symm
  subst c;simp[f y e])]
def zK{c:Lx Par}{l:Lx LJ}{k:Ly}(e:∀j,j<k->jX c l j=0)(f:k<=l.length):∀x∈l.take k,0<=x/\x<c.length:=λx d=>by
 have⟨j,b⟩:=Qv.1 d;have a:j<k:=by have:=(Md.1 b).1;simp at this;omega
 rw[Oi a] at b;have h:=e j a;unfold jX at h;rw[b] at h;simp only at h;split at h
 ·assumption
 ·cases h
def zD(lo hi:Ly)(yv pv:LA)(c:Lx Par)(g:LJ)(l:Lx LJ)(w:Lt)(hY:dh lo hi w yv c g)(hI:ai lo hi w pv l)(q3:hi<=w.heap.size)(h5:c.length<=5)(ht:∀p∈c,0<=p.tall/\p.tall<=1000)(l6:l.length<=1000) :MH Ya 133 #[yv,pv] w λe r=>e=.returned (.int .i64 (rH c g l))/\w.gb r Lw:=by
 have p7:∀(fn:Fn) (first a7:LM LA) (w:Lt),(Xc fn first a7).run Ya w=.ok (.func fn first a7) w:=λ_ _ _ _=>rfl;have l5:∀(x:MC) (w:Lt),(Op.unary .not (.bool x)).run Ya w=.ok (.bool (!x)) w:=λ_ _=>rfl;obtain⟨qv,rfl,hP⟩:=hY;obtain⟨yb,yc,rfl,n6,-⟩:=hP.cell;obtain⟨base,a7,rfl,p8,-⟩:=hI.cell;have⟨A,w1,hA,b7,I,N,c3,e5⟩:=de w (.cells #[.slice yb c.length yc,g] 91) (.cells #[.int .i64 0] 40);have h8:=Lu (hI.kept I);have g7:=Lu (hP.kept I);have⟨HT,g6,HA,Q,b0⟩:=oC ht b7 hA I c3;have q0:=aa N (o:=0) rfl;have q1:=aa N (o:=1) rfl;clear hI hP ht b7 hA I N c3;go_enter_defers Tp.x133,Xq;go_upto_region 4 with(fail);rw[<- HA,<- g6];go_wp2;go_loopw [5,6,12] (λmv tv iv wr=>∃k:Ly,iv=.int .i64 k/\k<=l.length/\mv=.int .u8 (aP (l.take k))/\tv=.int .i64 (aV c (l.take k))/\0<=aV c (l.take k)/\aV c (l.take k)<=1000*k/\w1.gb wr Lw/\∀j,j<k->jX c l j=0) (λ_ _ iv _=>(l.length - intOf iv).toNat)
 case atStart=>exact⟨0,rfl,by omega,by simp[aP],by simp[aV],by simp[aV],by simp[aV],Mf _ _,λj hj=>by omega⟩
 case round=>
  obtain⟨k,rfl,hk,rfl,rfl,W,V,hG,Z⟩:=hrel;have HX:=Lu (zK Z (Nat.le_of_lt_succ (Nat.lt_succ_of_le hk)));have R:=Lu Z;clear Z;have F:=Lu hG;have m9:=hG.cl q0;have m7:=hG.cl q1;have n7:=hG.size;clear hG;by_cases s:k<l.length
  ·have P:=h8.out.kept F;have O:=g7.out.kept F;obtain⟨b1,c1,he,-,hc⟩:=P.cell;cases he;obtain⟨B,o,rfl,N,q9,q8,L⟩:=hc (by intro e;rw[e] at s;simp at s);have hx:=L k s;obtain⟨x,i⟩:∃x,l[k]?=Lq x:=⟨_,LO s⟩;rw[i] at hx;simp only[LQ] at hx;have hM:aP (l.take k)<32:=ir _ 5 λy hy=>by have:=HX.out y hy;omega
   by_cases H:0<=x/\x<c.length;rotate_left
   ·have HE:=Lu (show rH c g l=3 from xT R s (by unfold jX;rw[i];simp only[if_neg H]) (by decide));have g9:=Lu (show ¬ (0<=x/\x<=(c.length:LJ) - 1) from λh=>H ⟨h.1,by omega⟩);have a:=bk F b0;have b9:=aa (o:=0) a rfl;have b8:=aB (o:=0) a;have n:=Lu a;have n9:IntKind.i64.wrap ((c.length:LJ) - 1)=(c.length:LJ) - 1:=MI _ (by omega);clear P O hc L a i H;go_wp2_with (first
     | (go_at_call 110;refine(fD _ _ _ _ g9).mono ?_;rintro e r ⟨rfl,rfl⟩)
     | (go_at_call 162;refine(uJ _ _).mono ?_;rintro e r ⟨rfl,rfl⟩))
    refine Sw (f:=161) (args:=#[.pointer (Lq (A+1:Ly))]) (by simp) (by simp[go_sem]) ?_;refine(lx (A+1) 0 3 [] _ n).mono ?_;rintro e u' U ⟨rfl,rfl,rfl⟩;have Y:=Q.out.t F;have q:=ar (o:=0) (v:=.int .i64 3) (aD (p:=.cells #[.int .i64 3] 181) n);simp[Leaves,settle,Om,Rf,go_sem,Mz,q,HE.out];exact(Y.t (Lr _ _ Lw)).andThen (an _ _ _ _) (by rintro j e;cases e;exact .inl (by have:=HA.out;omega))
   obtain⟨e4,G⟩:=H;have C:=ox l k x i;have z:=qi c l k x i;have u:jX c l k=if x∈l.take k then 4 else 0:=by unfold jX;rw[i];simp only[if_pos (Mm e4 G)]
   have b:(aP (l.take k)).testBit x.toNat=decide (x∈l.take k):=by
    rw[Bool.eq_iff_iff,da,decide_eq_true_eq];constructor
    ·rintro⟨y,hy,n4⟩;have:=HX.out y hy;obtain rfl:y=x:=by omega
     exact hy
    ·exact λh=>⟨x,h,rfl⟩
   obtain⟨m,rfl⟩:∃m:Ly,x=m:=⟨x.toNat,by omega⟩;obtain⟨b2,c2,he,-,hc⟩:=O.cell;cases he;obtain⟨YB,yo,rfl,q6,q5,q4,a6⟩:=hc (by intro e;rw[e] at G;simp at G;omega);have⟨p,hp,p0,p1,p2,p3⟩:=a6 m (by omega);have p4:=HT.out p (Mh hp);rw[show dQ c m=p.tall by unfold dQ;simp[hp]] at z;simp only[Pe] at b C;have p6:(m:LJ)<(c.length:LJ):=G;have X:m<5:=by omega
   generalize aP (l.take k)=M at b hM C;generalize aV c (l.take k)=T at W V z;by_cases d:(m:LJ)∈l.take k
   ·have HE:=Lu (show rH c g l=4 from xT R s (by rw[u,if_pos d]) (by decide));rw[decide_eq_true d] at b;have D:=Lu b;have a:=bk F b0;have b9:=aa (o:=0) a rfl;have b8:=aB (o:=0) a;have n:=Lu a;clear P O hc L a6 hp b C z i u d a;go_upto_region 8 with(first
     | (go_at_call 110;refine(dK _ _ _ _ (by omega) (by omega)).mono ?_;rintro e r ⟨rfl,rfl⟩)
     | (go_at_call 162;refine(qO _ _).mono ?_;rintro e r ⟨rfl,rfl⟩))
    go_wp2_with (first
     | (go_at_call 129;refine(pX M m _ hM X).mono ?_;rintro e r ⟨rfl,rfl⟩;rw[D])
     | (go_at_call 162;refine(uJ _ _).mono ?_;rintro e r ⟨rfl,rfl⟩))
    refine Sw (f:=161) (args:=#[.pointer (Lq (A+1:Ly))]) (by simp) (by simp[go_sem]) ?_;refine(lx (A+1) 0 4 [] _ n).mono ?_;rintro e u' U ⟨rfl,rfl,rfl⟩;have Y:=Q.out.t F;have q:=ar (o:=0) (v:=.int .i64 4) (aD (p:=.cells #[.int .i64 4] 181) n);simp[Leaves,settle,Om,Rf,go_sem,Mz,q,HE.out];exact(Y.t (Lr _ _ Lw)).andThen (an _ _ _ _) (by rintro j e;cases e;exact .inl (by have:=HA.out;omega))
   rw[decide_eq_false d] at b;rw[if_neg d] at u;have⟨k5,D,g8,a8,r3⟩:=oC u b C z i;clear P O hc L a6 hp b C z i u d;go_wp2_with (first
    | (go_at_call 110;refine(dK _ _ _ _ (by omega) (by omega)).mono ?_;rintro e r ⟨rfl,rfl⟩)
    | (go_at_call 162;refine(qO _ _).mono ?_;rintro e r ⟨rfl,rfl⟩)
    | (go_at_call 129;refine(pX M m _ hM X).mono ?_;rintro e r ⟨rfl,rfl⟩;rw[D])
    | (go_at_call 151;refine(mE M m _ hM X).mono ?_;rintro e r ⟨rfl,rfl⟩)
    | (go_at_call 145;refine(qk _ _ _ T p.tall _ (by exact ai.laid _ [T,p.tall] 2 rfl (by simp)) (by omega) (by omega)).mono ?_;rintro e r ⟨rfl,rfl⟩))
   go_roundw
   case rel=>
    refine⟨k+1,by simp,by omega,by rw[g8],by rw[a8],by rw[a8];omega,by rw[a8];omega,F.t (Lr _ _ _),λj hj=>by
     by_cases e:j=k
     ·rw[e];exact k5
     ·exact R j (by omega)⟩
   case measure=>simp[intOf];omega
  ·obtain rfl:k=l.length:=by omega
   rw[NH] at W V;rw[NH];have HZ:=Lu (show rH c g l=if aV c l<=g then 0 else 10 from Hj R);generalize aV c l=T at W V HZ;generalize aP l=M;have a:=bk F b0;have b9:=aa (o:=0) a rfl;have b8:=aB (o:=0) a;have n:=Lu a;have n8:=e5;clear a;by_cases S:T<=g
   ·have HC:=Lu (HZ.t (if_pos S));go_wp2_with (go_at_call 162;refine(qO _ _).mono ?_;rintro e r ⟨rfl,rfl⟩);refine Sw (f:=161) (args:=#[.pointer (Lq (A+1:Ly))]) (by simp) (by simp[go_sem]) ?_;refine(rK ⟨A+1,0,Lw⟩ _).mono ?_;rintro e u' U ⟨rfl,rfl,rfl⟩;have q:(((wr.setCell (A+1:Ly) (.int .i64 0)).alloc (.cells #[.int .i64 0] 181)).heap[A+1]?=Lq (.cells #[.int .i64 0] 40 (0,0))):=aD (by rw[ar n];rfl);refine⟨.int .i64 0,?_,by rw[HC],?_⟩
    ·simp[Om,Rf,go_sem,Mz,q]
    ·have Y:=Q.out.t F;exact(Y.andThen (an _ _ _ _) (by rintro j e;cases e;exact .inl (by have:=HA.out;omega))).t (Lr _ _ _)
   ·have HC:=Lu (HZ.t (if_neg S));have p5:decide (T<=g)=LH:=by simp;omega
    go_wp2_with (go_at_call 162;refine(uJ _ _).mono ?_;rintro e r ⟨rfl,rfl⟩);refine Sw (f:=161) (args:=#[.pointer (Lq (A+1:Ly))]) (by simp) (by simp[go_sem]) ?_;refine(lx (A+1) 0 10 [] _ n).mono ?_;rintro e u' U ⟨rfl,rfl,rfl⟩;have Y:=Q.out.t F;have q:=ar (o:=0) (v:=.int .i64 10) (aD (p:=.cells #[.int .i64 10] 181) n);simp[Leaves,settle,Om,Rf,go_sem,Mz,q,HC.out];exact(Y.t (Lr _ _ Lw)).andThen (an _ _ _ _) (by rintro j e;cases e;exact .inl (by have:=HA.out;omega))
def tY{c:Lx Par}{b:LJ}(h:bX c b=0):YOk c b:=by
 unfold bX at h;by_cases e:5<c.length
 ·rw[if_pos e] at h;cases h
 ·rw[if_neg e] at h;cases hf:c.find? (λp=>decide (pL p≠0)) with
  | some p=>
   rw[hf] at h;have:=List.find?_some hf;simp at this;exact absurd h this
  | none=>
   rw[hf] at h;simp only at h;have d:1<=b/\b<=12:=MX λg=>by rw[if_neg g] at h;cases h
   refine⟨by omega,λp f=>?_,d.1,d.2⟩;have a:=Qt.1 hf p f;simp only[decide_eq_true_eq,ne_eq,Decidable.not_not] at a;unfold pL at a;split at a
   ·split at a
    ·split at a
     ·cases a
     ·split at a
      ·split at a
       ·omega
       ·cases a
      ·cases a
    ·cases a
   ·cases a
def Bw(O y:Ly)(S qv:LA)(d:Lx Par)(a:LJ)(l:Lx LJ)(w:Lt)(T:aC O y w S d)(U:ai O y w qv l)(e8:y<=w.heap.size)(B:YOk d a)(C:l.length<=1000) :MH Ya 81 #[.agg #[S,a],qv] w λe w'=>e=.returned (.tuple #[.agg #[S,a],(rH d a l)])/\w.gb w' Lw:=by
 obtain⟨u,s,rfl,d8,-⟩:=T.cell;obtain⟨base,g6,rfl,e7,-⟩:=U.cell;have⟨A,w1,hA,z,n,r,G,e5⟩:=de w (.cells #[.slice u d.length s,a] 24) (.cells #[.slice Lw 0 0,.int .i64 0] 91);have b6:=Lu (U.kept n);have M:=Lu (T.kept n);have⟨Z,HA,b9,a7,g7⟩:=oC z hA n G r;have R:=aa r (o:=0) rfl;have Q:=aa r (o:=1) rfl;have e9:y<=A:=by omega
 have V:=Lu B;clear T U B z hA n G r;go_enter Tp.x81,VW;go_upto_region 1 with(fail);rw[<- HA,<- Z];go_upto_region 4 with(go_at_call 52;refine(oL O y _ d a _ ⟨_,rfl,M⟩ (by omega)).mono ?_;rintro e P ⟨rfl,L⟩;rw[V.chk];have c:=Lu L;clear L);have p0:=c.out.cl R;have p1:=c.out.cl Q;have e4:=c.out.size;clear R Q;go_upto_region 5 with(fail);obtain⟨Y,i⟩:∃Y,Y=P.heap.size:=⟨_,rfl⟩;obtain⟨x,f⟩:∃x,x=P.alloc (.cells #[.slice u d.length s,a] 91):=⟨_,rfl⟩;have g:P.gb x Lw:=by rw[f];exact Lr _ _ Lw
 have q:x.heap[Y]?=Lq (.cells #[.slice u d.length s,a] 91 (0,0)):=by rw[f,i];exact LS _ _
 have d9:x.heap.size=Y+1:=by rw[f,Mc,i]
 rw[<- i,<- f];have R:=aa q (o:=0) rfl;have Q:=aa q (o:=1) rfl;have h:=Lu (bk g (blk c (by simp) a7));have N:=Lu q;have b8:=Lu ((b9.t c).t g);have b0:=Lu ((b6.kept c).kept g);have a8:=Lu ((M.kept c).kept g);have g5:A+1<Y:=by omega
 clear g q f i p0 p1;go_region_law
  (first
   | (go_simp;go_at_call 133;refine(zD O y _ _ d a l _ ⟨_,rfl,a8.kept (ak _ Lw)⟩ (b0.kept (ak _ Lw)) (by simp;omega) V.len (λp hp=>by have:=V.out.each p hp;omega) C).mono ?_;rintro e w4 ⟨rfl,I⟩;have b:=Lu ((ak x Lw).t I);have r0:=aa (o:=0) (bk b N) rfl;have r1:=aa (o:=1) (bk b N) rfl;have s0:=aa (o:=0) (bk b h) rfl;have s1:=aa (o:=1) (bk b h) rfl;have f0:=aB (o:=0) (bk b h);have f1:=aB (o:=1) (bk b h);clear I))
 all_goals
  have D:=bk b h;obtain⟨W,k⟩:∃W,W=(w4.setCell (A+1:Ly) (.slice u d.length s)).setCell ⟨A+1,1,Lw⟩ (.int .i64 a):=⟨_,rfl⟩;have F:W.heap[A+1]?=Lq (.cells #[.slice u d.length s,a] 91 (0,0)):=by rw[k,ar (ar D)];rfl
  have H:w.gb W Lw:=(b8.t b).andThen (row':=Lq (A+1)) (by rw[k];exact(an _ _ _ _).t (an _ _ _ _)) (by rintro j e;cases e;exact .inl (by have:=HA.out;omega));have⟨a6,b7,X⟩:=bL F H k;clear D F H k;go_wp2;rw[<- X];exact Ot (v:=.tuple #[.agg #[.slice u d.length s,a],(rH d a l)]) (by simp[Om,UT,go_sem,Mz,a6.out]) rfl ⟨rfl,b7⟩
def Bt(b:Lx Par)(a:LJ)(l:Lx LJ):LJ:=if bX b a=0 then rH b a l else bX b a
def qI(H s:Ly)(G qv:LA)(g:Lx Par)(d:LJ)(l:Lx LJ)(w:Lt)(C:aC H s w G g)(M:ai H s w qv l)(y:s<=w.heap.size)(x:l.length<=1000) :MH Ya 81 #[.agg #[G,d],qv] w λe V=>∃a n c b,e=.returned (.tuple #[.agg #[.slice a n c,.int .i64 b],(Bt g d l)])/\w.gb V Lw/\(bX g d=0->.slice a n c=G/\b=d):=by
 by_cases p:bX g d=0
 ·have:=Bw H s G qv g d l w C M y (tY p) x;unfold Bt;rw[if_pos p];refine this.mono ?_;rintro e V ⟨rfl,hg⟩;obtain⟨U,T,rfl,-,-⟩:=C.cell;exact⟨_,_,_,_,rfl,hg,λ_=>⟨rfl,rfl⟩⟩
 ·have z:Bt g d l=bX g d:=if_neg p;rw[z];obtain⟨U,T,rfl,a7,-⟩:=C.cell;obtain⟨base,b7,rfl,a8,-⟩:=M.cell;obtain⟨A,w1,X,u,i,r,B,-⟩:=de w (.cells #[.slice U g.length T,d] 24) (.cells #[.slice Lw 0 0,.int .i64 0] 91);have Q:=Lu (C.kept i);have⟨O,Y,R,P⟩:=dD u X i B;have q0:=aa r (o:=0) rfl;have q1:=aa r (o:=1) rfl;have I:s<=w1.heap.size:=LN y i.size;clear C M u X i B r z;obtain⟨c,k⟩:∃c,c=bX g d:=⟨_,rfl⟩;rw[<- k] at p ⊢;have S:=Lu k;have b6:(c == 0)=LH:=by rw[beq_eq_false_iff_ne];exact p
  have HC:=Lu p;clear k p;go_enter Tp.x81,VW;go_upto_region 1 with(fail);rw[<- Y,<- O];go_upto_region 2 with(go_at_call 52;refine(oL H s _ g d _ ⟨_,rfl,Q⟩ I).mono ?_;rintro e Z ⟨rfl,D⟩;rw[<- S];have F:=Lu D;clear D);have f:=Lu (bk F P);have r0:=aa (o:=0) f rfl;have r1:=aa (o:=1) f rfl;have f0:=aB (o:=0) f;have f1:=aB (o:=1) f;go_wp2;obtain⟨W,q⟩:∃W,W=(Z.setCell (A+1:Ly) (.slice Lw 0 0)).setCell ⟨A+1,1,Lw⟩ (.int .i64 0):=⟨_,rfl⟩;have L:W.heap[A+1]?=Lq (.cells #[.slice Lw 0 0,.int .i64 0] 91 (0,0)):=by rw[q,ar (ar f)];rfl
  have N:w.gb W Lw:=(R.t F).andThen (row':=Lq (A+1)) (by rw[q];exact(an _ _ _ _).t (an _ _ _ _)) (by rintro j e;cases e;exact .inl (by have:=Y.out;omega));rw[<- q];exact Ot (v:=.tuple #[.agg #[.slice Lw 0 0,.int .i64 0],.int .i64 c]) (by simp[Om,UT,go_sem,Mz,L]) rfl ⟨_,_,_,_,rfl,N,λh=>absurd h HC⟩
end
end Go.Proofs.YtidgnkmjgioapaaGreat
