/-
  Part 3 of the proof. gladstonelaw04.PileMends answers true for every yard, parcel, pile, number and list of numbers that the statement takes, and leaves its arguments as they were. No conditions.
-/
import Derived.Test.YtidgnkmjgioapaaGreatChecked
import Derived.KernelRfl
import Derived.WalkKit
import Derived.WalkSpells
import Derived.WalkLawsBesides
import GoSem.Step
import Derived.RegionTactic
import Derived.ChangeAlike
import Derived.Deep.QuietTactic
import Derived.BigQuiet
import Derived.OneCell
import Derived.Maps.AppendAt
import Derived.Lib.Hide
import Derived.Maps.Range
import Derived.Deep.AppendLies
import Derived.Deep.RegionHeld3
import Derived.Deep.RegionLawGrows
import Derived.LoopTactic
import Derived.Deep.DeepCutAuto
import Derived.LoopIn
import Derived.LoopNIn
import Derived.BigRegion
import Derived.Deep.RegionLaw
import Derived.Recover
import Derived.Defers
import Derived.Deep.OwnRows
import Derived.StillTail
import Derived.Maps.RangeWalk
import Derived.OrdersHeld
import Derived.RangeFuncNested
import Derived.RangeFuncBound
import Derived.RangeFuncCalls
import Derived.RangeFuncLeaves
import Derived.RangeFuncFrom
import Derived.OrdersIn
import Derived.TacticsIn
import Derived.Conc.WgGenN3
import Derived.Laws.StructEq
import Derived.RangeFuncBox
set_option maxRecDepth 100000
set_option maxHeartbeats 8000000
set_option linter.all false
open And renaming intro->NY
open Array renaming all_eq_true_iff_forall_mem->PL,getElem?_eq_some_iff->Nz,getElem?_modify->SQ,getElem?_setIfInBounds->OW,getElem?_setIfInBounds_ne->Po,getElem?_setIfInBounds_self_of_lt->Rd,mem_of_getElem?->PR,mem_toList_iff->QC,replicate->OY,replicate_succ->Oj,replicate_zero->Ol
open Bool renaming and_eq_true->Of,eq_false_iff->So,false_eq_true->OJ,not_eq_true'->QM,not_true->Uj,or_eq_true->QI,false->NC,true->NB
open Classical renaming byContradiction->OK
open Go renaming Act->QF,Addr->OX,Calls->Oz,Code->Qs,Exit->Ux,Oper->PE,Operand->OQ,PanicEntry->Tu,Program->NR,Sem->Rw,TypeDesc->Vm,TypeId->NZ,TypeInfo->Sd,Value->Ny,World->Nt,bits->Wy,bodyPost_ret->Qi,bytes->UQ,callsIn_wide->QH,execOp->QN,grownBy_putObj'->RH,heap_alloc_new->NL,info_parts->PM,leaves_cons->UF,madeCells->Uh,maxLen->Rh,ready_mono->Ze,recoverD->Zc,results->Qo,results_cell_tmp->Wl,sizeOf->UI,typeInfo->RV,undef->NG,underlying->Rr,wpAny_of_seq->Ym,wpList->Vb,wpList_append_own->Rv,wpOpsS->ZK,wpS_region->WB,wpS_seq->ZJ,yielded->PH,zeroValue->Tk
open Go.Addr renaming block->VN
open Go.Builtin renaming append_->Rj,zeroCells->Qu
open Go.Calls renaming quiet_of_same->Qc
open Go.Instr renaming endRound->QR,index->UC,makeFunc->Zd,makeSlice->Vv,typeAssert->RY
open Go.IntWalk renaming i64_in->Ov
open Go.Lib renaming hid->Np
open Go.Proofs.Tryz renaming f136->Vf,f137->Xm,f54->Ul,f82->Xe,f85->RX,f9->VF,ntmps109->Um,ntmps110->XG,ntmps125->Zp,ntmps133->Zo,ntmps161->Wd,ntmps162->Zn,ntmps211->Zq,ntmps31->WC,ntmps51->ZN,ntmps52->ZI,ntmps65->ZM,ntmps68->ZL,ntmps81->Yl,prog->NV,results133->TD,results161->YP,results81->Xf,t3->Yk,underlying22->VV,underlying29->Ta,underlying3->SI
open Go.Region renaming Mode->RQ,binds->Pe,chainB->We,free->YM,noSelect->WM,ready->Oe,seqB->Tt,sinkB->WE,wanted->Oy
open Go.Result renaming andThen->TX,andThen_ok->PC
open Go.RowKit renaming Hid->Wn,intOf->OP
open Go.RowKit.Below renaming heap_setCell->Pn,refl->UA
open Go.Sem renaming run_bind->PF,run_pure->SZ
open Go.Value renaming cells->Vr,int->Og,oneCell'->PT,ownBlock->OG,slice->OS
open Go.World renaming alloc_heap_new->Xg,cell?->OA,cell?_setCell_other->PQ,cell?_setCell_same->Tg,frozen?->RN,grownBy_alloc->Nr,news_of_block->Pt,ownsRow_nil->PX,putObj_heap_other->To,putObj_heap_same->Tz,setCell->Qq,size_alloc->NW
open Go.World.grownBy renaming refl->NN
open List renaming all_eq_true->OF,append_toArray->Rt,cons_append->Oa,drop_eq_getElem_cons->QA,drop_eq_nil_of_le->Rp,drop_succ_cons->Oi,drop_zero->OH,eq_nil_of_length_eq_zero->OZ,ext_getElem?->RO,find?_eq_none->Sa,flatMap_cons->Qx,foldl_cons->PN,getElem?_append_left->Ot,getElem?_append_right->Pq,getElem?_drop->RZ,getElem?_eq_getElem->ND,getElem?_eq_none->OO,getElem?_eq_some_iff->NT,getElem?_map->Pa,getElem?_of_mem->Vs,getElem?_range->Ra,getElem?_set_ne->Ri,getElem?_set_self->Sz,getElem?_take->Ty,getElem?_take_of_lt->PI,getElem?_toArray->UY,getElem_mem->RL,length_append->Pi,length_cons->NQ,length_drop->SG,length_map->Ql,length_nil->NU,length_set->Ur,map_cons->Qj,map_nil->Sx,map_toArray->SH,mem_append->Qb,mem_cons->ON,mem_iff_getElem?->TN,mem_map->Qp,mem_of_getElem?->Od,mem_of_mem_take->Tb,mem_range->Py,mem_singleton->Pk,nil_append->On,not_mem_nil->PY,pairwise_iff_getElem->Rq,perm_append_comm->TP,push_toArray->Ow,range->Oo,range'->Vq,range_succ->RF,set_append_left->Vt,size_toArray->Ox,take_add_one->OR,take_length->Ps,take_of_length_le->UP
open Nat renaming add_assoc->TF,add_mul->TY,le_refl->Nv,le_trans->NM,lt_of_lt_of_le->NX,lt_or_ge->PP,reduceAdd->Oh,reduceSub->OV,zero_add->Oc
open Option renaming getD_some->NK,map_some->Pp,none->Ns,some->Nq
open Option.some renaming inj->QQ,injEq->OM
open _root_ renaming Array->NJ,Bool->OI,False->RI,Int->NH,List->Nu,Nat->NA,Option->NO
namespace Go.Proofs
section
open Go Go.RowKit
def LA{Y:Type}(p q:NR)(w:Nt)(r:Unsupported):(unsupported r:Rw Y).run p w=(unsupported r:Rw Y).run q w:=by unfold unsupported;rfl
section
variable(p q:NR)(h:p.toTables=q.toTables)(w:Nt)(t:NZ)
include h
theorem qD:p.info? t=q.info? t:=congrArg (λT=>Tables.info? T t) h
theorem Io:p.underlying t=q.underlying t:=by
 unfold Program.underlying;simp only[qD p q h]
theorem Ip:(RV t).run p w=(RV t).run q w:=by
 unfold RV;show(match p.info? t with | some i=>(pure i:Rw Sd) | none=>stuck "no such type").run p w=(match q.info? t with | some i=>(pure i:Rw Sd) | none=>stuck "no such type").run q w;rw[qD p q h];cases q.info? t<;>rfl
theorem Ko:(Rr t).run p w=(Rr t).run q w:=by
 unfold Rr;show(match p.underlying t with | some i=>(pure i:Rw Vm) | none=>stuck "no such type").run p w=(match q.underlying t with | some i=>(pure i:Rw Vm) | none=>stuck "no such type").run q w;rw[Io p q h];cases q.underlying t<;>rfl
theorem Ka:(UI t).run p w=(UI t).run q w:=by
 unfold UI;simp only[PF,Ip p q h];cases(RV t).run q w<;>rfl
theorem JZ:(Tk t).run p w=(Tk t).run q w:=by
 unfold Tk;simp only[PF,Ip p q h];cases hh:(RV t).run q w with
 | ok i w'=>
  simp only[PC];split
  ·rfl
  ·exact LA p q w' _
 | _=>simp only[TX]
theorem LC:(isAgg t).run p w=(isAgg t).run q w:=by
 unfold isAgg;simp only[PF,Ko p q h];cases hh:(Rr t).run q w with
 | ok i w'=>
  simp only[PC];split<;>simp only[SZ]
 | _=>simp only[TX]
end
noncomputable def Ya:NR:={ NV with funcs:=Tryz.prog.funcs.setIfInBounds 85 { RX with body:=Nq (.exit 0) } }
section
variable(w:Nt)(t:NZ)
@[simp] theorem Tp.tables:Ya.toTables=Tryz.prog.toTables:=rfl
@[simp] theorem Tp.und:Ya.underlying t=Tryz.prog.underlying t:=Io _ _ Tp.tables t
@[simp] theorem Tp.rTypeInfo:(RV t).run Ya w=(RV t).run NV w:=Ip _ _ Tp.tables w t
@[simp] theorem Tp.rUnder:(Rr t).run Ya w=(Rr t).run NV w:=Ko _ _ Tp.tables w t
@[simp] theorem Tp.rSizeOf:(UI t).run Ya w=(UI t).run NV w:=Ka _ _ Tp.tables w t
@[simp] theorem Tp.rIsAgg:(isAgg t).run Ya w=(isAgg t).run NV w:=LC _ _ Tp.tables w t
@[simp] theorem Tp.rZero:(Tk t).run Ya w=(Tk t).run NV w:=JZ _ _ Tp.tables w t
end
end
section
open Go Go.RowKit
abbrev Yc (f:NA)(g:Func):Prop:=Ya.funcs[f]?=Nq g
abbrev Ye (f:NA):Prop:=∀(a:NJ Ny) (w:Nt),(callFunc f a).run Ya w=.ok (.enter f a) w
def Yf(f:NA)(h:(match Ya.funcs[f]? with | some g=>!(g.name == "runtime.NumGoroutine") && g.body.isSome | none=>NC)=NB:=by kernel_rfl):Ye f:=by
 intro a w;cases e:Ya.funcs[f]? with
 | none=>rw[e] at h;cases h
 | some g=>
  rw[e] at h;simp only[Of,QM] at h;have d:g.name ≠ "runtime.NumGoroutine" := λb=>by rw[b] at h;exact absurd h.1 (by decide)
  have c:g.body≠Ns:=λb=>by rw[b] at h;cases h.2
  simp[callFunc,go_sem,e,d,c]
def Yd{f:NA}{g:Func}(h:Ya.funcs[f]?=Nq g:=by kernel_rfl):Yc f g:=h
def Tp.x9:Yc 9 VF:=Yd
def Tp.x23:Yc 23 Tryz.f23:=Yd
def Tp.x24:Yc 24 Tryz.f24:=Yd
def Tp.x25:Yc 25 Tryz.f25:=Yd
def Tp.x26:Yc 26 Tryz.f26:=Yd
def Tp.x27:Yc 27 Tryz.f27:=Yd
def Tp.x28:Yc 28 Tryz.f28:=Yd
def Tp.x29:Yc 29 Tryz.f29:=Yd
def Tp.x31:Yc 31 Tryz.f31:=Yd
def Tp.x32:Yc 32 Tryz.f32:=Yd
def Tp.x33:Yc 33 Tryz.f33:=Yd
def Tp.x34:Yc 34 Tryz.f34:=Yd
def Tp.x35:Yc 35 Tryz.f35:=Yd
def Tp.x36:Yc 36 Tryz.f36:=Yd
def Tp.x37:Yc 37 Tryz.f37:=Yd
def Tp.x38:Yc 38 Tryz.f38:=Yd
def Tp.x39:Yc 39 Tryz.f39:=Yd
def Tp.x44:Yc 44 Tryz.f44:=Yd
def Tp.x50:Yc 50 Tryz.f50:=Yd
def Tp.x51:Yc 51 Tryz.f51:=Yd
def Tp.x52:Yc 52 Tryz.f52:=Yd
def Tp.x53:Yc 53 Tryz.f53:=Yd
def Tp.x54:Yc 54 Ul:=Yd
def Tp.x55:Yc 55 Tryz.f55:=Yd
def Tp.x56:Yc 56 Tryz.f56:=Yd
def Tp.x57:Yc 57 Tryz.f57:=Yd
def Tp.x62:Yc 62 Tryz.f62:=Yd
def Tp.x63:Yc 63 Tryz.f63:=Yd
def Tp.x65:Yc 65 Tryz.f65:=Yd
def Tp.x68:Yc 68 Tryz.f68:=Yd
def Tp.x69:Yc 69 Tryz.f69:=Yd
def Tp.x70:Yc 70 Tryz.f70:=Yd
def Tp.x72:Yc 72 Tryz.f72:=Yd
def Tp.x80:Yc 80 Tryz.f80:=Yd
def Tp.x81:Yc 81 Tryz.f81:=Yd
def Tp.x82:Yc 82 Xe:=Yd
def Tp.x83:Yc 83 Tryz.f83:=Yd
def Tp.x84:Yc 84 Tryz.f84:=Yd
def Tp.x87:Yc 87 Tryz.f87:=Yd
def Tp.x89:Yc 89 Tryz.f89:=Yd
def Tp.x90:Yc 90 Tryz.f90:=Yd
def Tp.x91:Yc 91 Tryz.f91:=Yd
def Tp.x92:Yc 92 Tryz.f92:=Yd
def Tp.x93:Yc 93 Tryz.f93:=Yd
def Tp.x94:Yc 94 Tryz.f94:=Yd
def Tp.x95:Yc 95 Tryz.f95:=Yd
def Tp.x96:Yc 96 Tryz.f96:=Yd
def Tp.x98:Yc 98 Tryz.f98:=Yd
def Tp.x99:Yc 99 Tryz.f99:=Yd
def Tp.x100:Yc 100 Tryz.f100:=Yd
def Tp.x101:Yc 101 Tryz.f101:=Yd
def Tp.x102:Yc 102 Tryz.f102:=Yd
def Tp.x103:Yc 103 Tryz.f103:=Yd
def Tp.x105:Yc 105 Tryz.f105:=Yd
def Tp.x106:Yc 106 Tryz.f106:=Yd
def Tp.x107:Yc 107 Tryz.f107:=Yd
def Tp.x108:Yc 108 Tryz.f108:=Yd
def Tp.x109:Yc 109 Tryz.f109:=Yd
def Tp.x110:Yc 110 Tryz.f110:=Yd
def Tp.x111:Yc 111 Tryz.f111:=Yd
def Tp.x112:Yc 112 Tryz.f112:=Yd
def Tp.x113:Yc 113 Tryz.f113:=Yd
def Tp.x114:Yc 114 Tryz.f114:=Yd
def Tp.x115:Yc 115 Tryz.f115:=Yd
def Tp.x116:Yc 116 Tryz.f116:=Yd
def Tp.x117:Yc 117 Tryz.f117:=Yd
def Tp.x120:Yc 120 Tryz.f120:=Yd
def Tp.x121:Yc 121 Tryz.f121:=Yd
def Tp.x122:Yc 122 Tryz.f122:=Yd
def Tp.x123:Yc 123 Tryz.f123:=Yd
def Tp.x125:Yc 125 Tryz.f125:=Yd
def Tp.x126:Yc 126 Tryz.f126:=Yd
def Tp.x129:Yc 129 Tryz.f129:=Yd
def Tp.x130:Yc 130 Tryz.f130:=Yd
def Tp.x131:Yc 131 Tryz.f131:=Yd
def Tp.x132:Yc 132 Tryz.f132:=Yd
def Tp.x133:Yc 133 Tryz.f133:=Yd
def Tp.x134:Yc 134 Tryz.f134:=Yd
def Tp.x135:Yc 135 Tryz.f135:=Yd
def Tp.x136:Yc 136 Vf:=Yd
def Tp.x137:Yc 137 Xm:=Yd
def Tp.x145:Yc 145 Tryz.f145:=Yd
def Tp.x147:Yc 147 Tryz.f147:=Yd
def Tp.x148:Yc 148 Tryz.f148:=Yd
def Tp.x149:Yc 149 Tryz.f149:=Yd
def Tp.x150:Yc 150 Tryz.f150:=Yd
def Tp.x151:Yc 151 Tryz.f151:=Yd
def Tp.x152:Yc 152 Tryz.f152:=Yd
def Tp.x153:Yc 153 Tryz.f153:=Yd
def Tp.x154:Yc 154 Tryz.f154:=Yd
def Tp.x155:Yc 155 Tryz.f155:=Yd
def Tp.x156:Yc 156 Tryz.f156:=Yd
def Tp.x157:Yc 157 Tryz.f157:=Yd
def Tp.x158:Yc 158 Tryz.f158:=Yd
def Tp.x160:Yc 160 Tryz.f160:=Yd
def Tp.x161:Yc 161 Tryz.f161:=Yd
def Tp.x162:Yc 162 Tryz.f162:=Yd
def Tp.x163:Yc 163 Tryz.f163:=Yd
def Tp.x164:Yc 164 Tryz.f164:=Yd
def Tp.x165:Yc 165 Tryz.f165:=Yd
def Tp.x188:Yc 188 Tryz.f188:=Yd
def Tp.x197:Yc 197 Tryz.f197:=Yd
def Tp.x198:Yc 198 Tryz.f198:=Yd
def Tp.x199:Yc 199 Tryz.f199:=Yd
@[simp] theorem Tp.callPf:Ye 24/\Ye 25/\Ye 26/\Ye 27/\Ye 28/\Ye 31/\Ye 32/\Ye 33/\Ye 34/\Ye 35/\Ye 36/\Ye 37/\Ye 38/\Ye 39/\Ye 44/\Ye 50/\Ye 51/\Ye 52/\Ye 53/\Ye 54/\Ye 55/\Ye 56/\Ye 57/\Ye 62/\Ye 63/\Ye 65/\Ye 68/\Ye 69/\Ye 70/\Ye 72/\Ye 80/\Ye 81/\Ye 82/\Ye 84/\Ye 87/\Ye 89/\Ye 90/\Ye 91/\Ye 92/\Ye 93/\Ye 94/\Ye 95/\Ye 96/\Ye 98/\Ye 99/\Ye 100/\Ye 102/\Ye 103/\Ye 105/\Ye 106/\Ye 107/\Ye 108/\Ye 109/\Ye 110/\Ye 111/\Ye 112/\Ye 113/\Ye 114/\Ye 115/\Ye 116/\Ye 117/\Ye 121/\Ye 122/\Ye 123/\Ye 125/\Ye 126/\Ye 129/\Ye 130/\Ye 131/\Ye 132/\Ye 133/\Ye 134/\Ye 135/\Ye 136/\Ye 145/\Ye 147/\Ye 148/\Ye 150/\Ye 151/\Ye 152/\Ye 153/\Ye 154/\Ye 155/\Ye 156/\Ye 157/\Ye 158/\Ye 160/\Ye 161/\Ye 162/\Ye 163/\Ye 164/\Ye 188/\Ye 197/\Ye 198/\Ye 199:=⟨Yf 24,Yf 25,Yf 26,Yf 27,Yf 28,Yf 31,Yf 32,Yf 33,Yf 34,Yf 35,Yf 36,Yf 37,Yf 38,Yf 39,Yf 44,Yf 50,Yf 51,Yf 52,Yf 53,Yf 54,Yf 55,Yf 56,Yf 57,Yf 62,Yf 63,Yf 65,Yf 68,Yf 69,Yf 70,Yf 72,Yf 80,Yf 81,Yf 82,Yf 84,Yf 87,Yf 89,Yf 90,Yf 91,Yf 92,Yf 93,Yf 94,Yf 95,Yf 96,Yf 98,Yf 99,Yf 100,Yf 102,Yf 103,Yf 105,Yf 106,Yf 107,Yf 108,Yf 109,Yf 110,Yf 111,Yf 112,Yf 113,Yf 114,Yf 115,Yf 116,Yf 117,Yf 121,Yf 122,Yf 123,Yf 125,Yf 126,Yf 129,Yf 130,Yf 131,Yf 132,Yf 133,Yf 134,Yf 135,Yf 136,Yf 145,Yf 147,Yf 148,Yf 150,Yf 151,Yf 152,Yf 153,Yf 154,Yf 155,Yf 156,Yf 157,Yf 158,Yf 160,Yf 161,Yf 162,Yf 163,Yf 164,Yf 188,Yf 197,Yf 198,Yf 199⟩
end
end Go.Proofs
namespace Go
section
instance:Coe NA OX:=⟨λx=>⟨x,0,Ns⟩⟩
instance:Coe NH Ny:=⟨λx=>.int .i64 x⟩
instance:Coe NA Ny:=⟨λx=>.int .i64 x⟩
end
end Go
namespace Go.Proofs.YtidgnkmjgioapaaGreat
section
open Go.RowKit
theorem _root_.Go.World.grownBy.t{w u v:Nt}{r:NO NA}(h:w.grownBy u r)(d:u.grownBy v r):w.grownBy v r:=h.trans d
abbrev _root_.Go.World.gb:=World.grownBy
theorem _root_.Eq.t{Y:Type}{a b c:Y}(h:a=b)(d:b=c):a=c:=h.trans d
theorem _root_.List.Perm.t{Y:Type}{a b c:Nu Y}(h:a.Perm b)(d:b.Perm c):a.Perm c:=h.trans d
theorem _root_.List.Sublist.t{Y:Type}{a b c:Nu Y}(h:a.Sublist b)(d:b.Sublist c):a.Sublist c:=h.trans d
theorem _root_.Go.RowKit.Below.t{n:NA}{a b c:Nt}(h:Below n a b)(d:Below n b c):Below n a c:=h.trans d
def ar{w:Nt}{b:NA}{a:NJ Ny}{e:NZ}{o:NA}{v:Ny}(h:w.heap[b]?=Nq (.cells a e (0,0))) :(w.setCell ⟨b,o,Ns⟩ v).heap[b]?=Nq (.cells (a.setIfInBounds o v) e (0,0)):=by
 simp[Qq,SQ,h]
def an(w:Nt)(b o:NA)(v:Ny):w.gb (w.setCell ⟨b,o,Ns⟩ v) (Nq b) :=
 ⟨rfl,rfl,rfl,by simp[Qq],λk _ a=>Pn _ _ _ _ (λe=>a (by rw[e]))⟩
def ax(w:Nt)(n:NA)(a:NO NA):w.gb (w.drewN n) a:=⟨rfl,rfl,rfl,Nv _,λ_ _ _=>rfl⟩
def ai(w:Nt)(a:NO NA):w.gb w.drew a:=⟨rfl,rfl,rfl,Nv _,λ_ _ _=>rfl⟩
def blk{w c:Nt}{a:NO NA}{X:NA}{o:Obj}(d:w.gb c a)(b:Nq X≠a)(h:w.heap[X]?=Nq o):c.heap[X]?=Nq o :=
 (d.block X (Nz.1 h).1 b).trans h
def bk{w c:Nt}{a:NO NA}{X:NA}{o:Obj}(d:w.gb c a)(h:w.heap[X]?=Nq o)(b:Nq X≠a:=by simp):c.heap[X]?=Nq o:=blk d b h
def _root_.Go.World.grownBy.cl{w d:Nt}{b:NO NA}(e:w.grownBy d b){a:OX}{v:Ny}(h:w.cell? a=Nq v)(c:Nq a.block≠b:=by simp):d.cell? a=Nq v:=e.cell h c
def aQ{b a:Prop}(d:b)(c:a):Wn b/\Wn a:=⟨Np d,Np c⟩
def bC{c b a:Prop}(f:c)(e:b)(d:a):Wn c/\Wn b/\Wn a:=⟨Np f,Np e,Np d⟩
def cJ{d c b a:Prop}(h:d)(g:c)(f:b)(e:a):Wn d/\Wn c/\Wn b/\Wn a:=⟨Np h,Np g,Np f,Np e⟩
def nW{e d c b a:Prop}(j:e)(i:d)(h:c)(g:b)(f:a):Wn e/\Wn d/\Wn c/\Wn b/\Wn a:=⟨Np j,Np i,Np h,Np g,Np f⟩
def rS{f e d c b a:Prop}(l:f)(k:e)(j:d)(i:c)(h:b)(g:a):Wn f/\Wn e/\Wn d/\Wn c/\Wn b/\Wn a:=⟨Np l,Np k,Np j,Np i,Np h,Np g⟩
def AH{g f e d c b a:Prop}(o:g)(n:f)(l:e)(k:d)(j:c)(i:b)(h:a):Wn g/\Wn f/\Wn e/\Wn d/\Wn c/\Wn b/\Wn a:=⟨Np o,Np n,Np l,Np k,Np j,Np i,Np h⟩
def GI{h g f e d c b a:Prop}(q:h)(p:g)(o:f)(n:e)(l:d)(k:c)(j:b)(i:a):Wn h/\Wn g/\Wn f/\Wn e/\Wn d/\Wn c/\Wn b/\Wn a:=⟨Np q,Np p,Np o,Np n,Np l,Np k,Np j,Np i⟩
def aE{w:Nt}{X:NA}{o p:Obj}(h:w.heap[X]?=Nq o):(w.alloc p).heap[X]?=Nq o:=blk (Nr w p Ns) (by simp) h
def bI(w:Nt)(a:Obj):∃A b,A=w.heap.size/\b=w.alloc a/\w.gb b Ns/\b.heap[A]?=Nq a:=⟨_,_,rfl,rfl,Nr _ _ Ns,NL w _⟩
def bY(w:Nt)(a b:Obj):∃A c,A=w.heap.size/\c=(w.alloc a).alloc b/\w.gb c Ns/\c.heap[A]?=Nq a/\c.heap[A+1]?=Nq b/\c.heap.size=A+2:=⟨_,_,rfl,rfl,(Nr _ _ Ns).t (Nr _ _ Ns),aE (NL w _),by
 have:=NL (w.alloc a) b
 rwa [NW] at this,by rw[NW,NW]⟩
def aa{w:Nt}{Q o b:NA}{a:NJ Ny}{d:NA × NA}{v:Ny}(h:w.heap[Q]?=Nq (.cells a b d))(c:a[o]?=Nq v):w.cell? ⟨Q,o,Ns⟩=Nq v:=by simp[OA,h,c]
def aA{w:Nt}{Q o a:NA}{b:NJ Ny}(h:w.heap[Q]?=Nq (.cells b a (0,0))):w.frozen? ⟨Q,o,Ns⟩=NC:=by simp[RN,h]
def il(w:Nt)(a:NJ Ny)(b:NZ)(k:NA):(w.alloc (.cells a b)).cell? ⟨w.heap.size,k,Ns⟩=a[k]?:=by
 unfold OA;rw[show(w.alloc (.cells a b)).heap[(⟨w.heap.size,k,Ns⟩:OX).block]?=Nq (.cells a b) from NL w _];simp
def aj(c d:NA)(w:Nt)(v:Ny)(l:Nu NH):Prop :=
 ∃base a,v=.slice base l.length a/\(l.length:NH)<=1000000 /\
  (l≠[]->∃B o b e,base=Nq ⟨B,o,Ns⟩/\c<=B/\B<d/\w.heap[B]?=Nq (.cells b 3 e)/\∀i,i<l.length->b[o+i]?=Nq (.int .i64 (l[i]?.getD 0)))
def aj.nil(a b:NA)(w:Nt):aj a b w (.slice Ns 0 0) []:=⟨Ns,0,rfl,by decide,λh=>absurd rfl h⟩
def aj.mono{e f a b:NA}{w:Nt}{v:Ny}{l:Nu NH}(h:aj e f w v l)(s:a<=e)(r:f<=b):aj a b w v l:=by
 obtain⟨base,d,rfl,i,g⟩:=h;refine⟨base,d,rfl,i,λc=>?_⟩;have⟨B,o,q,j,p,u,t,n,k⟩:=g c;exact⟨B,o,q,j,p,by omega,by omega,n,k⟩
def aj.kept{a g:NA}{w w':Nt}{v:Ny}{l:Nu NH}{row:NO NA}(h:aj a g w v l)(p:w.gb w' row)(j:∀R,row=Nq R->R<a\/g<=R:=by simp):aj a g w' v l:=by
 obtain⟨base,i,rfl,k,d⟩:=h;refine⟨base,i,rfl,k,λf=>?_⟩;have⟨B,o,y,q,x,u,t,s,r⟩:=d f;exact⟨B,o,y,q,x,u,t,blk p (λe=>by have:=j B e.symm;omega) s,r⟩
def aj.alloc{a b:NA}{w:Nt}{v:Ny}{l:Nu NH}(h:aj a b w v l)(o:Obj):aj a b (w.alloc o) v l:=h.kept (Nr w o Ns) (by simp)
def aj.own{d n:NA}{w:Nt}{v:Ny}{l:Nu NH}(h:w.ownsRow d 3 1 v n (l.map (Og .i64)))(e:(l.length:NH)<=1000000):aj d w.heap.size w v l:=by
 obtain⟨t,s⟩:=h;have q:l.length=n:=by simpa using t
 subst q;rcases s with⟨rfl,o⟩ | ⟨g,c,a,rfl,r,j,x,hm,u,p⟩
 ·exact⟨Ns,0,by rw[o],e,λb=>absurd (OZ o) b⟩
 ·refine⟨_,c,rfl,e,λ_=>⟨g,0,a,(0,0),rfl,r,(Nz.1 j).1,j,λi f=>?_⟩⟩;have k:(a.toList.take (l.length*1))[i]?=Nq (.int .i64 (l[i]?.getD 0)):=by
   rw[p];simp[ND f]
  rw[Ty] at k;simpa[f] using k
def aj.cell{e b:NA}{w:Nt}{v:Ny}{l:Nu NH}(h:aj e b w v l):∃base a,v=.slice base l.length a/\(l.length:NH)<=1000000 /\(l≠[]->∃B o,base=Nq ⟨B,o,Ns⟩/\e<=B/\B<b/\B<w.heap.size/\∀i,i<l.length->w.cell? ⟨B,o+i,Ns⟩=Nq (.int .i64 (l[i]?.getD 0))):=by
 obtain⟨base,a,rfl,g,c⟩:=h;refine⟨base,a,rfl,g,λd=>?_⟩;have⟨B,o,s,r,q,n,k,f,j⟩:=c d;exact⟨B,o,q,n,k,(Nz.1 f).1,λi b=>by simp[OA,f,j i b]⟩
def aT(g:NA->NH):Obj:=.cells #[(g 0),(g 1),(g 2),(g 3),(g 4)] 101 (0,0)
def kT{w:Nt}{A:NA}{g:NA->NH}{e:NA}{v:NH}(h:w.heap[A]?=Nq (aT g))(a:e<5):(w.setCell ⟨A,e,Ns⟩ (.int .i64 v)).heap[A]?=Nq (aT λd=>if d=e then v else g d):=by
 unfold aT at h ⊢;rw[ar h];obtain rfl | rfl | rfl | rfl | rfl:e=0\/e=1\/e=2\/e=3\/e=4:=by omega
 all_goals simp
def aB{w:Nt}{A:NA}{g:NA->NH}{e:NA}(h:w.heap[A]?=Nq (aT g))(a:e<5):w.cell? ⟨A,e,Ns⟩=Nq (.int .i64 (g e)):=by
 unfold aT at h;obtain rfl | rfl | rfl | rfl | rfl:e=0\/e=1\/e=2\/e=3\/e=4:=by omega
 all_goals simp[OA,h]
def dG{w:Nt}{A:NA}{g:NA->NH}(h:w.heap[A]?=Nq (aT g))(e:NA):w.frozen? ⟨A,e,Ns⟩=NC:=by
 unfold aT at h;simp[RN,h]
def fj{g a:NA->NH}(h:∀d,d<5->g d=a d):aT g=aT a:=by
 unfold aT;rw[h 0 (by omega),h 1 (by omega),h 2 (by omega),h 3 (by omega),h 4 (by omega)]
structure Par where
 mn:NH
 mx:NH
 bears:NH
 tall:NH
deriving DecidableEq
def aD(d e:NA)(w:Nt)(v:Ny)(a:Nu Par):Prop :=
 ∃base c,v=.slice base a.length c/\(a.length:NH)<=1000000 /\
  (a≠[]->∃B o b f,base=Nq ⟨B,o,Ns⟩/\d<=B/\B<e/\w.heap[B]?=Nq (.cells b 28 f) /\
   ∀i,i<a.length->∃p,a[i]?=Nq p/\b[o+i*4]?=Nq (.int .i64 p.mn)/\b[o+(i*4+1)]?=Nq (.int .i64 p.mx)/\b[o+(i*4+2)]?=Nq (.int .i64 p.bears)/\b[o+(i*4+3)]?=Nq (.int .i64 p.tall))
def aD.kept{a g:NA}{w w':Nt}{v:Ny}{j:Nu Par}{row:NO NA}(h:aD a g w v j)(p:w.gb w' row)(k:∀R,row=Nq R->R<a\/g<=R:=by simp):aD a g w' v j:=by
 obtain⟨base,i,rfl,l,d⟩:=h;refine⟨base,i,rfl,l,λf=>?_⟩;have⟨B,o,y,q,x,u,t,s,r⟩:=d f;exact⟨B,o,y,q,x,u,t,blk p (λe=>by have:=k B e.symm;omega) s,r⟩
def aD.alloc{b c:NA}{w:Nt}{v:Ny}{a:Nu Par}(h:aD b c w v a)(o:Obj):aD b c (w.alloc o) v a:=h.kept (Nr w o Ns) (by simp)
def aD.mono{f g a b:NA}{w:Nt}{v:Ny}{e:Nu Par}(h:aD f g w v e)(s:a<=f)(r:g<=b):aD a b w v e:=by
 obtain⟨base,d,rfl,j,i⟩:=h;refine⟨base,d,rfl,j,λc=>?_⟩;have⟨B,o,q,k,p,u,t,n,l⟩:=i c;exact⟨B,o,q,k,p,by omega,by omega,n,l⟩
def aD.cell{g d:NA}{w:Nt}{v:Ny}{b:Nu Par}(h:aD g d w v b):∃base a,v=.slice base b.length a/\(b.length:NH)<=1000000 /\(b≠[]->∃B o,base=Nq ⟨B,o,Ns⟩/\g<=B/\B<d/\B<w.heap.size/\∀i,i<b.length->∃p,b[i]?=Nq p/\w.cell? ⟨B,o+i*4,Ns⟩=Nq (.int .i64 p.mn)/\w.cell? ⟨B,o+i*4+1,Ns⟩=Nq (.int .i64 p.mx)/\w.cell? ⟨B,o+i*4+2,Ns⟩=Nq (.int .i64 p.bears)/\w.cell? ⟨B,o+i*4+3,Ns⟩=Nq (.int .i64 p.tall)):=by
 obtain⟨base,a,rfl,j,e⟩:=h;refine⟨base,a,rfl,j,λf=>?_⟩;have⟨B,o,z,y,x,u,t,c,s⟩:=e f;refine⟨B,o,x,u,t,(Nz.1 c).1,λi d=>?_⟩;have⟨p,r,q,n,l,k⟩:=s i d;exact⟨p,r,by simp[OA,c,q],by simp[OA,c,TF,n],by simp[OA,c,TF,l],by simp[OA,c,TF,k]⟩
def dh(d e:NA)(w:Nt)(v:Ny)(c:Nu Par)(a:NH):Prop:=∃b,v=.agg #[b,a]/\aD d e w b c
def wts(g:NA->NH):Ny:=.agg #[(g 0),(g 1),(g 2),(g 3),(g 4)]
def oB(l:Nu NH):NH:=l.foldl (·+·) 0
def tT(l:Nu NH)(k:NA)(x:NH)(h:l[k]?=Nq x):oB (l.take (k+1))=oB (l.take k)+x:=by
 rw[OR,h];simp[oB]
def IK(u y:NA)(v:Ny)(l:Nu NH)(w:Nt)(q:aj u y w v l)(n:∀k,k<=l.length->-1000000000<=oB (l.take k)/\oB (l.take k)<=1000000000) :Oz Ya 145 #[v] w λe t=>e=.returned (.int .i64 (oB l))/\w=t:=by
 obtain⟨base,F,rfl,H,p⟩:=q.cell;have⟨G,r⟩:=aQ p n;clear p n q;go_enter Tp.x145,Tryz.ntmps145;go_wp2;go_loopw [3,8] (λa i wr=>∃k:NA,i=.int .i64 k/\k<=l.length/\a=.int .i64 (oB (l.take k))/\w=wr) (λ_ i _=>(l.length - OP i).toNat)
 case atStart=>exact⟨0,rfl,by omega,by simp[oB],rfl⟩
 case round=>
  obtain⟨k,rfl,I,rfl,rfl⟩:=hrel;by_cases c:k<l.length
  ·obtain⟨B,o,rfl,C,A,z,d⟩:=G.out (by intro e;rw[e] at c;simp at c);have g:=d k c;have D:=r.out k (by omega);have h:=r.out (k+1) (by omega);have f:l[k]?=Nq (l[k]?.getD 0):=by simp[ND c]
   rw[tT l k _ f] at h;have b:=tT l k _ f;generalize l[k]?.getD 0=x at g h b;generalize oB (l.take k)=s at D h b;have j:=Np b;clear d f b;go_wp2;go_roundw
   case rel=>exact⟨k+1,by simp,by omega,by rw[j],by first | rfl | trivial⟩
   case measure=>simp[OP];omega
  ·obtain rfl:k=l.length:=by omega
   go_wp2;go_ret;exact⟨by simp,rfl⟩
def pre(f:Par->NH)(a:Nu Par)(k:NA):NA->NH:=λi=>if i<k then(match a[i]? with | some p=>f p | none=>0) else 0
def yh(f:Par->NH)(a:Nu Par)(k:NA)(p:Par)(h:a[k]?=Nq p)(d:NA):pre f a (k+1) d=if d=k then f p else pre f a k d:=by
 unfold pre;by_cases e:d=k
 ·subst e;simp[h]
 ·by_cases b:d<k
  ·rw[if_pos (by omega),if_neg e,if_pos b]
  ·rw[if_neg (by omega),if_neg e,if_neg b]
def lO(lo L:NA)(v:Ny)(a:Nu Par)(b:NH)(w:Nt)(M:dh lo L w v a b)(c3:L<=w.heap.size)(h5:a.length<=5) :Oz Ya 93 #[v] w λe w'=>e=.returned (wts (pre Par.mn a a.length))/\w.gb w' Ns:=by
 obtain⟨pv,rfl,P⟩:=M;obtain⟨base,c,rfl,hl,-⟩:=P.cell;obtain⟨A,u⟩:∃A,A=w.heap.size:=⟨_,rfl⟩;have HP:=Np P;clear P;go_enter Tp.x93,Tryz.ntmps93;go_upto_region 2 with(fail);have h:w.gb (((w.alloc (.cells #[.slice base a.length c,b] 91)).alloc (aT λ_=>0)).alloc (aT λ_=>0)) Ns:=((Nr _ _ Ns).t (Nr _ _ Ns)).t (Nr _ _ Ns);have M:(((w.alloc (.cells #[.slice base a.length c,b] 91)).alloc (aT λ_=>0)).alloc (aT λ_=>0)).cell? A=Nq (.slice base a.length c):=aa (aE (aE (by rw[u];exact NL w _))) rfl;have N:(((w.alloc (.cells #[.slice base a.length c,b] 91)).alloc (aT λ_=>0)).alloc (aT λ_=>0)).heap[A+1]?=Nq (aT λ_=>0):=aE (by
  have:=NL (w.alloc (.cells #[.slice base a.length c,b] 91)) (aT λ_=>0);rw[NW,<- u] at this;exact this)
 have x:(((w.alloc (.cells #[.slice base a.length c,b] 91)).alloc (aT λ_=>0)).alloc (aT λ_=>0)).heap[A+2]?=Nq (aT λ_=>0):=by
  have:=NL ((w.alloc (.cells #[.slice base a.length c,b] 91)).alloc (aT λ_=>0)) (aT λ_=>0);rw[NW,NW,<- u] at this;exact this
 rw[<- u];show Code.wp _ _ _ _ (((w.alloc (.cells #[.slice base a.length c,b] 91)).alloc (aT λ_=>0)).alloc (aT λ_=>0));have H:A+2<(((w.alloc (.cells #[.slice base a.length c,b] 91)).alloc (aT λ_=>0)).alloc (aT λ_=>0)).heap.size:=(Nz.1 x).1;generalize (((w.alloc (.cells #[.slice base a.length c,b] 91)).alloc (aT λ_=>0)).alloc (aT λ_=>0))=w1 at h M N x H ⊢;have c8:L<=A:=by omega
 obtain⟨D,S⟩:∃D,D=A+2:=⟨_,rfl⟩;obtain⟨R,r⟩:∃R,R=A+1:=⟨_,rfl⟩;rw[show A+1+1=A+2 from rfl,<- S,<- r];rw[<- S] at x H;rw[<- r] at N;have Z:=Np (HP.kept h);have⟨HG,HR,HW⟩:=bC h N x;have b9:¬ R=D:=by omega
 have e5:¬ A=D:=by omega
 have e4:A<=R/\A<=D:=by omega
 have HA:=Np u;have F:L<=D:=by omega
 clear h N x u HP S r;go_wp2;go_loopw [10] (λi wr=>∃k:NA,i=.int .i64 k/\k<=a.length/\w1.gb wr (Nq D)/\wr.heap[D]?=Nq (aT (pre Par.mn a k))) (λi _=>(a.length - OP i).toNat)
 case atStart=>exact⟨0,rfl,by omega,NN _ _,by rw[HW];congr 1⟩
 case round=>
  obtain⟨k,rfl,hk,h,l⟩:=hrel;have d6:D<wr.heap.size:=(Nz.1 l).1;have s:=Z.out.kept h (by rintro R e;cases e;exact .inr F);have d5:=h.cell M (by simp;omega);have⟨I,HB⟩:=aQ h l;by_cases n:k<a.length
  ·obtain⟨T,a8,he,-,g⟩:=s.cell;cases he;obtain⟨B,o,rfl,d9,d8,d7,G⟩:=g (by intro e;rw[e] at n;simp at n);have⟨p,hp,q0,q1,q2,q3⟩:=G k n;have Q:=aB l (show k<5 by omega);have e6:=dG l k;have Y:=Np hp;have O:k<5:=by omega
   generalize pre Par.mn a k k=y at Q;clear G g s h l hp;go_wp2;go_roundw
   case rel=>
    refine⟨k+1,by simp,by omega,(I.t (an _ _ _ _)).t (Nr _ _ _),?_⟩;rw[aE (kT HB O)]
    congr 1
    exact fj λd _=>(yh _ _ _ _ Y d).symm
   case measure=>simp[OP];omega
  ·obtain rfl:k=a.length:=by omega
   have f:=blk h (by simp;omega) HR;have a0:=aB l (show 0<5 by omega);have a1:=aB l (show 1<5 by omega);have a2:=aB l (show 2<5 by omega);have a3:=aB l (show 3<5 by omega);have a4:=aB l (show 4<5 by omega);have b0:=aB f (show 0<5 by omega);have b1:=aB f (show 1<5 by omega);have b2:=aB f (show 2<5 by omega);have b3:=aB f (show 3<5 by omega);have b4:=aB f (show 4<5 by omega);have fz:=dG f;have e8:=Np f;have V:=Np (show wts (pre Par.mn a a.length)=.agg #[(pre Par.mn a a.length 0),(pre Par.mn a a.length 1),(pre Par.mn a a.length 2),(pre Par.mn a a.length 3),(pre Par.mn a a.length 4)] from rfl);generalize pre Par.mn a a.length 0=g0 at *
   generalize pre Par.mn a a.length 1=g1 at *
   generalize pre Par.mn a a.length 2=g2 at *
   generalize pre Par.mn a a.length 3=g3 at *
   generalize pre Par.mn a a.length 4=g4 at *
   obtain⟨W,q⟩:∃W,W=((((wr.setCell R (.int .i64 g0)).setCell ⟨R,1,Ns⟩ (.int .i64 g1)).setCell ⟨R,2,Ns⟩ (.int .i64 g2)).setCell ⟨R,3,Ns⟩ (.int .i64 g3)).setCell ⟨R,4,Ns⟩ (.int .i64 g4):=⟨_,rfl⟩;have z:W.heap[R]?=Nq (.cells #[g0,g1,g2,g3,g4] 101 (0,0)):=by
    rw[q,ar (ar (ar (ar (ar f))))];rfl
   have C:w.gb W Ns:=(HG.andThen I (by rintro j e;cases e;exact .inl (by have:=HA.out;omega))).andThen (row':=Nq R)
    (by rw[q];exact((((an _ _ _ _).t (an _ _ _ _)).t (an _ _ _ _)).t (an _ _ _ _)).t (an _ _ _ _)) (by rintro j e;cases e;exact .inl (by have:=HA.out;omega))
   have⟨X,a6,U⟩:=bC z C q;clear f h l s n z C q;go_wp2;rw[<- U,V];exact Qi (v:=.agg #[g0,g1,g2,g3,g4]) (by simp[Qo,Tryz.results93,go_sem,OA,X.out]) rfl ⟨rfl,a6⟩
def kZ(lo L:NA)(v:Ny)(a:Nu Par)(b:NH)(w:Nt)(M:dh lo L w v a b)(c3:L<=w.heap.size)(h5:a.length<=5) :Oz Ya 92 #[v] w λe w'=>e=.returned (wts (pre Par.mx a a.length))/\w.gb w' Ns:=by
 obtain⟨pv,rfl,P⟩:=M;obtain⟨base,c,rfl,hl,-⟩:=P.cell;obtain⟨A,u⟩:∃A,A=w.heap.size:=⟨_,rfl⟩;have HP:=Np P;clear P;go_enter Tp.x92,Tryz.ntmps92;go_upto_region 2 with(fail);have h:w.gb (((w.alloc (.cells #[.slice base a.length c,b] 91)).alloc (aT λ_=>0)).alloc (aT λ_=>0)) Ns:=((Nr _ _ Ns).t (Nr _ _ Ns)).t (Nr _ _ Ns);have M:(((w.alloc (.cells #[.slice base a.length c,b] 91)).alloc (aT λ_=>0)).alloc (aT λ_=>0)).cell? A=Nq (.slice base a.length c):=aa (aE (aE (by rw[u];exact NL w _))) rfl;have N:(((w.alloc (.cells #[.slice base a.length c,b] 91)).alloc (aT λ_=>0)).alloc (aT λ_=>0)).heap[A+1]?=Nq (aT λ_=>0):=aE (by
  have:=NL (w.alloc (.cells #[.slice base a.length c,b] 91)) (aT λ_=>0);rw[NW,<- u] at this;exact this)
 have x:(((w.alloc (.cells #[.slice base a.length c,b] 91)).alloc (aT λ_=>0)).alloc (aT λ_=>0)).heap[A+2]?=Nq (aT λ_=>0):=by
  have:=NL ((w.alloc (.cells #[.slice base a.length c,b] 91)).alloc (aT λ_=>0)) (aT λ_=>0);rw[NW,NW,<- u] at this;exact this
 rw[<- u];show Code.wp _ _ _ _ (((w.alloc (.cells #[.slice base a.length c,b] 91)).alloc (aT λ_=>0)).alloc (aT λ_=>0));have H:A+2<(((w.alloc (.cells #[.slice base a.length c,b] 91)).alloc (aT λ_=>0)).alloc (aT λ_=>0)).heap.size:=(Nz.1 x).1;generalize (((w.alloc (.cells #[.slice base a.length c,b] 91)).alloc (aT λ_=>0)).alloc (aT λ_=>0))=w1 at h M N x H ⊢;have c8:L<=A:=by omega
 obtain⟨D,S⟩:∃D,D=A+2:=⟨_,rfl⟩;obtain⟨R,r⟩:∃R,R=A+1:=⟨_,rfl⟩;rw[show A+1+1=A+2 from rfl,<- S,<- r];rw[<- S] at x H;rw[<- r] at N;have Z:=Np (HP.kept h);have⟨HG,HR,HW⟩:=bC h N x;have b9:¬ R=D:=by omega
 have e5:¬ A=D:=by omega
 have e4:A<=R/\A<=D:=by omega
 have HA:=Np u;have F:L<=D:=by omega
 clear h N x u HP S r;go_wp2;go_loopw [10] (λi wr=>∃k:NA,i=.int .i64 k/\k<=a.length/\w1.gb wr (Nq D)/\wr.heap[D]?=Nq (aT (pre Par.mx a k))) (λi _=>(a.length - OP i).toNat)
 case atStart=>exact⟨0,rfl,by omega,NN _ _,by rw[HW];congr 1⟩
 case round=>
  obtain⟨k,rfl,hk,h,l⟩:=hrel;have d6:D<wr.heap.size:=(Nz.1 l).1;have s:=Z.out.kept h (by rintro R e;cases e;exact .inr F);have d5:=h.cell M (by simp;omega);have⟨I,HB⟩:=aQ h l;by_cases n:k<a.length
  ·obtain⟨T,a8,he,-,g⟩:=s.cell;cases he;obtain⟨B,o,rfl,d9,d8,d7,G⟩:=g (by intro e;rw[e] at n;simp at n);have⟨p,hp,q0,q1,q2,q3⟩:=G k n;have Q:=aB l (show k<5 by omega);have e6:=dG l k;have Y:=Np hp;have O:k<5:=by omega
   generalize pre Par.mx a k k=y at Q;clear G g s h l hp;go_wp2;go_roundw
   case rel=>
    refine⟨k+1,by simp,by omega,(I.t (an _ _ _ _)).t (Nr _ _ _),?_⟩;rw[aE (kT HB O)]
    congr 1
    exact fj λd _=>(yh _ _ _ _ Y d).symm
   case measure=>simp[OP];omega
  ·obtain rfl:k=a.length:=by omega
   have f:=blk h (by simp;omega) HR;have a0:=aB l (show 0<5 by omega);have a1:=aB l (show 1<5 by omega);have a2:=aB l (show 2<5 by omega);have a3:=aB l (show 3<5 by omega);have a4:=aB l (show 4<5 by omega);have b0:=aB f (show 0<5 by omega);have b1:=aB f (show 1<5 by omega);have b2:=aB f (show 2<5 by omega);have b3:=aB f (show 3<5 by omega);have b4:=aB f (show 4<5 by omega);have fz:=dG f;have e8:=Np f;have V:=Np (show wts (pre Par.mx a a.length)=.agg #[(pre Par.mx a a.length 0),(pre Par.mx a a.length 1),(pre Par.mx a a.length 2),(pre Par.mx a a.length 3),(pre Par.mx a a.length 4)] from rfl);generalize pre Par.mx a a.length 0=g0 at *
   generalize pre Par.mx a a.length 1=g1 at *
   generalize pre Par.mx a a.length 2=g2 at *
   generalize pre Par.mx a a.length 3=g3 at *
   generalize pre Par.mx a a.length 4=g4 at *
   obtain⟨W,q⟩:∃W,W=((((wr.setCell R (.int .i64 g0)).setCell ⟨R,1,Ns⟩ (.int .i64 g1)).setCell ⟨R,2,Ns⟩ (.int .i64 g2)).setCell ⟨R,3,Ns⟩ (.int .i64 g3)).setCell ⟨R,4,Ns⟩ (.int .i64 g4):=⟨_,rfl⟩;have z:W.heap[R]?=Nq (.cells #[g0,g1,g2,g3,g4] 101 (0,0)):=by
    rw[q,ar (ar (ar (ar (ar f))))];rfl
   have C:w.gb W Ns:=(HG.andThen I (by rintro j e;cases e;exact .inl (by have:=HA.out;omega))).andThen (row':=Nq R)
    (by rw[q];exact((((an _ _ _ _).t (an _ _ _ _)).t (an _ _ _ _)).t (an _ _ _ _)).t (an _ _ _ _)) (by rintro j e;cases e;exact .inl (by have:=HA.out;omega))
   have⟨X,a6,U⟩:=bC z C q;clear f h l s n z C q;go_wp2;rw[<- U,V];exact Qi (v:=.agg #[g0,g1,g2,g3,g4]) (by simp[Qo,Tryz.results92,go_sem,OA,X.out]) rfl ⟨rfl,a6⟩
def AR(p:Par)(load:NH)(w:Nt) :Oz Ya 160 #[.agg #[p.mn,p.mx,p.bears,p.tall],load] w λe a=>e=.returned (if p.bears<load then .iface 170 (.agg #[]) else .iface 171 (.agg #[]))/\w.gb a Ns:=by
 go_enter Tp.x160,Tryz.ntmps160;by_cases h:p.bears<load
 ·go_wp2;go_ret;exact⟨rfl,Nr _ _ _⟩
 ·go_wp2;go_ret;exact⟨rfl,Nr _ _ _⟩
def tot:Nu NH->NH
 | []=>0
 | a::t=>tot t+a
def loadAt(g:NA->NH)(l:Nu NH)(i:NA):NH:=tot ((l.drop (i+1)).map λx=>g x.toNat)
def yI(g:NA->NH)(l:Nu NH)(i:NA)(h:l.length<=i+1):loadAt g l i=0:=by
 unfold loadAt;rw[Rp h];rfl
def yH(g:NA->NH)(l:Nu NH)(i:NA)(x:NH)(h:l[i+1]?=Nq x):loadAt g l i=loadAt g l (i+1)+g x.toNat:=by
 unfold loadAt;have a:=(NT.1 h).1;rw[QA a];have:l[i+1]=x:=(NT.1 h).2;simp[tot,this]
def KB(l:Nu NH)(h:∀x∈l,0<=x/\x<=1000):0<=tot l/\tot l<=1000*l.length:=by
 induction l with
 | nil=>simp[tot]
 | cons a t b=>
  have e:=b λx c=>h x (by simp[c]);have d:=h a (by simp);simp only[tot,NQ];omega
def uK(g:NA->NH)(l:Nu NH)(i:NA)(a:∀i,0<=g i/\g i<=1000)(b:l.length<=1000):0<=loadAt g l i/\loadAt g l i<=1000000:=by
 have:=KB ((l.drop (i+1)).map λx=>g x.toNat) (by simp only[Qp];rintro x ⟨y,-,rfl⟩;exact a _);simp only[Ql,SG] at this;unfold loadAt;omega
def ldL(g:NA->NH)(l:Nu NH):Nu NH:=(Oo l.length).map (loadAt g l)
def gd(w:Nt)(O n:NA)(f:NA->NH):Prop:=∃a,w.heap[O]?=Nq (.cells a 3 (0,0))/\a.size=n/\∀i,i<n->a[i]?=Nq (.int .i64 (f i))
def gd.lt{w:Nt}{O n:NA}{f:NA->NH}(h:gd w O n f):O<w.heap.size:=by
 obtain⟨a,h,-⟩:=h;exact(Nz.1 h).1
def gd.cell{w:Nt}{O n i:NA}{f:NA->NH}(h:gd w O n f)(a:i<n):w.cell? ⟨O,i,Ns⟩=Nq (.int .i64 (f i)):=by
 obtain⟨c,h,-,b⟩:=h;simp[OA,h,b i a]
def gd.thaw{w:Nt}{O n:NA}{f:NA->NH}(h:gd w O n f)(i:NA):w.frozen? ⟨O,i,Ns⟩=NC:=by
 obtain⟨a,h,-⟩:=h;simp[RN,h]
def gd.congr{w:Nt}{O n:NA}{f g:NA->NH}(h:gd w O n f)(e:∀i,i<n->f i=g i):gd w O n g:=by
 obtain⟨d,h,b,c⟩:=h;exact⟨d,h,b,λi a=>by rw[c i a,e i a]⟩
def gd.set{w:Nt}{O n i:NA}{f:NA->NH}{x:NH}(h:gd w O n f)(d:i<n):gd (w.setCell ⟨O,i,Ns⟩ (.int .i64 x)) O n λj=>if j=i then x else f j:=by
 obtain⟨g,h,a,c⟩:=h;refine⟨_,ar h,by simp[a],λj b=>?_⟩;by_cases e:j=i
 ·subst e;simp[a,b]
 ·rw[OW,if_neg (by omega),c j b];show _=Nq (Og .i64 (if j=i then x else f j));rw[if_neg e]
def gd.kept{w w':Nt}{O n:NA}{f:NA->NH}{row:NO NA}(h:gd w O n f)(e:w.gb w' row)(a:Nq O≠row:=by simp):gd w' O n f:=by
 obtain⟨i,h,d,g⟩:=h;exact⟨i,blk e a h,d,g⟩
def gd.made(w:Nt)(n:NA):gd (w.alloc (.cells (Uh #[.int .i64 0] n) 3)) w.heap.size n λ_=>0:=by
 refine⟨_,NL w _,size_madeCells _ _,λi a=>?_⟩;unfold Uh;simp[a,Nat.mod_one]
def gd.ints{w:Nt}{O n b a:NA}{f:NA->NH}{l:Nu NH}(h:gd w O n f)(k:b<=O)(j:O<a)(d:l.length=n)(q:n<=1000000)(e:∀i,i<n->l[i]?=Nq (f i)):aj b a w (.slice (Nq O) n n) l:=by
 obtain⟨o,h,p,g⟩:=h;subst d;exact⟨_,_,rfl,by omega,λ_=>⟨O,0,o,_,rfl,k,j,h,λi a=>by rw[Oc,g i a,e i a];rfl⟩⟩
def aj.laid(w:Nt)(l:Nu NH)(n:NA)(c:n=l.length)(d:l.length<=1000)(b:NA × NA:=(0,0))(a:NA:=w.heap.size+1)(hhi:w.heap.size<a:=by omega) :aj w.heap.size a (w.alloc (.cells (l.map (Og .i64)).toArray 3 b)) (.slice (Nq w.heap.size) n n) l:=by
 subst c;refine⟨_,_,rfl,by omega,λ_=>⟨w.heap.size,0,_,b,rfl,Nv _,hhi,NL w _,λi a=>?_⟩⟩;simp[ND a]
def rN{w:Nt}{D n:NA}{x v:Ny}{o:Obj}{a:OX}(h:w.cell? a=Nq v)(b:a≠⟨D,n,Ns⟩):((w.setCell ⟨D,n,Ns⟩ x).alloc o).drew.cell? a=Nq v:=by
 have c:(w.setCell ⟨D,n,Ns⟩ x).cell? a=Nq v:=by rw[PQ _ _ _ _ (Ne.symm b)];exact h
 exact(ai _ Ns).cl ((Nr _ o Ns).cell c (by simp))
def IL{q r:NH}(h:0<=q/\q<=1000000)(b:0<=r/\r<=1000000):∀k,k<=[q,r].length->-1000000000<=oB ([q,r].take k)/\oB ([q,r].take k)<=1000000000:=by
 intro k a;obtain rfl | rfl | rfl:k=0\/k=1\/k=2:=by simp at a;omega
 all_goals simp[oB]
 all_goals omega
def qN(b c:NA)(v:Ny)(q r:NH)(w:Nt)(d:aj b c w v [q,r])(h:0<=q/\q<=1000000)(f:0<=r/\r<=1000000) :Oz Ya 145 #[v] w λe a=>e=.returned (.int .i64 (q+r))/\w=a:=by
 refine(IK b c v [q,r] w d (IL h f)).mono ?_;rintro e a ⟨rfl,rfl⟩;exact⟨by simp[oB],rfl⟩
def lN(lo H:NA)(yv pv:Ny)(l:Nu NH)(g:NA->NH)(w:Nt)(hI:aj lo H w pv l)(k6:H<=w.heap.size)(y:∀x∈l,0<=x/\x<5)(hl:l.length<=1000)(hg:∀i,0<=g i/\g i<=1000)(Z:∃a b,yv=.agg #[a,b]) :Oz Ya 91 #[yv,pv,wts g] w λe v=>∃v',e=.returned v'/\w.gb v Ns/\aj w.heap.size v.heap.size v v' (ldL g l):=by
 obtain⟨u,s,rfl⟩:=Z;obtain⟨base,l8,rfl,g9,hc⟩:=hI.cell;have L:∀w,(Vv 29 (.int .i64 l.length) (.int .i64 l.length)).run Ya w=.ok (.slice (Nq ⟨w.heap.size,0,Ns⟩) l.length l.length) (w.alloc (.cells (Uh #[.int .i64 0] l.length) 3)):=λw=>by
  have:=run_make (P:=Ya) w 29 3 Yk (.int .i64 0) (by rw[Tp.und];exact Ta) (by rw[qD _ _ Tp.tables];exact Tryz.type3) rfl .i64 .i64 l.length l.length (by omega) (by omega) (by simp[Yk];omega) (by omega);simpa[Vr,Yk] using this
 have Q:=Np L;unfold wts;go_enter Tp.x91,Tryz.ntmps91;go_upto_region 3 with(first | rw[Q]);obtain⟨A,O⟩:∃A,A=w.heap.size:=⟨_,rfl⟩;have f:w.gb (((w.alloc (.cells #[u,s] 91)).alloc (aT g)).alloc (.cells (Uh #[.int .i64 0] l.length) 3)) Ns:=((Nr _ _ Ns).t (Nr _ _ Ns)).t (Nr _ _ Ns);have U:(((w.alloc (.cells #[u,s] 91)).alloc (aT g)).alloc (.cells (Uh #[.int .i64 0] l.length) 3)).heap[A+1]?=Nq (aT g):=aE (by
  have:=NL (w.alloc (.cells #[u,s] 91)) (aT g);rw[NW,<- O] at this;exact this)
 have W:gd (((w.alloc (.cells #[u,s] 91)).alloc (aT g)).alloc (.cells (Uh #[.int .i64 0] l.length) 3)) (A+2) l.length λ_=>0:=by
  have:=gd.made ((w.alloc (.cells #[u,s] 91)).alloc (aT g)) l.length;rw[NW,NW,<- O] at this;exact this
 rw[<- O];show Code.wp _ _ _ _ (((w.alloc (.cells #[u,s] 91)).alloc (aT g)).alloc (.cells (Uh #[.int .i64 0] l.length) 3));generalize ((w.alloc (.cells #[u,s] 91)).alloc (aT g)).alloc (.cells (Uh #[.int .i64 0] l.length) 3)=w1 at f U W ⊢;obtain⟨D,X⟩:∃D,D=A+2:=⟨_,rfl⟩;obtain⟨V,hV⟩:∃V,V=A+1:=⟨_,rfl⟩;rw[show A+1+1=A+2 from rfl,<- X,<- hV];rw[<- X] at W;rw[<- hV] at U;have d5:=Np (hI.kept f);have⟨HG,HW,HR,HA,HX,T⟩:=rS f U W O y hg;have b7:¬ V=D:=by omega
 have a8:H<=D/\A<=D:=by omega
 clear f U W O X hV hc hI y hg Q L;go_wp2;go_loopw [8] (λi wr=>∃k:NH,i=.int .i64 k/\-2<=k/\k<l.length/\(0<=k->k+1<l.length)/\w1.gb wr (Nq D)/\gd wr D l.length λj=>if k<(j:NH) then loadAt g l j else 0) (λi _=>(OP i+1).toNat)
 case atStart=>
  refine⟨(l.length:NH) - 2,rfl,by omega,by omega,by omega,NN _ _,HR.congr λi H=>?_⟩;by_cases e:(l.length:NH) - 2<i
  ·rw[if_pos e,yI g l i (by omega)]
  ·rw[if_neg e]
 case round=>
  obtain⟨k,rfl,k5,k0,h9,f,p⟩:=hrel;by_cases g8:0<=k
  ·obtain⟨n,rfl⟩:∃n:NA,k=n:=⟨k.toNat,by omega⟩;have I:n+1<l.length:=by omega
   have S:=d5.out.kept f (by rintro R e;cases e;exact .inr a8.1);obtain⟨c8,e6,he,-,d⟩:=S.cell;cases he;obtain⟨B,o,rfl,l7,l6,l5,N⟩:=d (by intro e;rw[e] at I;simp at I);have hp:=N (n+1) I;obtain⟨x,y⟩:∃x,l[n+1]?=Nq x:=⟨_,ND I⟩;have⟨e9,e8⟩:=HX.out x (Od y);rw[y] at hp;simp only[NK] at hp;obtain⟨m,rfl⟩:∃m:NA,x=m:=⟨x.toNat,by omega⟩;have a7:m<5:=by omega
   have F:=blk f (by simp;omega) HW;have M:=aB F a7;have C:=p.cell (i:=n+1) I;have c:=yH g l n m y;rw[if_pos (by omega)] at C;have b6:=uK g l (n+1) T hl;have b0:=T.out m;simp only[Int.toNat_natCast] at c;have a9:=p.cell (i:=n) (by omega);have fz:=p.thaw n;have l4:=p.lt;have c3:¬ B=D:=by omega
   have k9:V<wr.heap.size:=(Nz.1 F).1;generalize loadAt g l (n+1)=q at C c b6;generalize g m=r at M c b0;have⟨c9,G,Y⟩:=bC c f p;generalize (if(n:NH)<(n:NH) then loadAt g l n else 0)=z at a9;clear f p F N d S y c;have g7:(n:NH)+1<(l.length:NH):=by omega
   have d9:0<=(n:NH)+1:=by omega
   have g5:IntKind.i64.wrap ((n:NH)+1)=(n:NH)+1:=Ov _ (by omega);have g6:((n:NH)+1).toNat=n+1:=by omega
   have h:=Np (NY C (NY hp M));go_upto_region 5 with(fail);go_region_held3 (λv=>v.cell? ⟨D,n+1,Ns⟩=Nq (.int .i64 q)/\v.cell? ⟨B,o+(n+1),Ns⟩=Nq (.int .i64 m)/\v.cell? ⟨V,m,Ns⟩=Nq (.int .i64 r))
    (first | exact h | exact⟨rN h.1 (by simp),rN h.2.1 (λe=>c3 (congrArg VN e)),rN h.2.2 (λe=>b7 (congrArg VN e))⟩ | go_keep)
    (first
     | (go_at_call 145;refine(qN _ _ _ q r _ (by exact aj.laid _ [q,r] 2 rfl (by simp)) (by omega) (by omega)).mono ?_;rintro e w2 ⟨rfl,rfl⟩))
   go_wp2;go_roundw
   case rel=>
    refine⟨(n:NH) - 1,rfl,by omega,by omega,by omega,((G.t (an _ _ _ _)).t (Nr _ _ _)).t (ai _ _),?_⟩;refine((Y.set (i:=n) (x:=q+r) (by omega)).kept ((Nr _ _ Ns).t (ai _ _))).congr λj hj=>?_;have c:=c9.out;show(if j=n then q+r else if(n:NH)<(j:NH) then loadAt g l j else 0)=if(n:NH) - 1<(j:NH) then loadAt g l j else 0;by_cases e:j=n
    ·subst e;rw[if_pos rfl,if_pos (by omega),c]
    ·by_cases e2:(n:NH)<j
     ·rw[if_neg e,if_pos e2,if_pos (by omega)]
     ·rw[if_neg e,if_neg e2,if_neg (by omega)]
   case measure=>simp[OP]
  ·have G:=Np f;have Y:=Np p;clear f p;go_wp2;go_ret;have X:=HA.out;refine⟨_,rfl,HG.andThen G (by rintro j e;cases e;exact .inl (by omega)),Y.ints (by omega) Y.lt (by simp[ldL]) (by omega) λi H=>?_⟩;rw[if_pos (by omega)];simp[ldL,H]
def cd{w:Nt}{base b n:NA}{e:NZ}{v:Ny}{d:Nu Ny}(h:w.ownsRow base e b v n d):∃a m c,v=.slice a m c:=by
 rcases h.2 with⟨rfl,_⟩ | ⟨g,i,f,rfl,_⟩<;>exact⟨_,_,_,rfl⟩
def Tp.info141p:(Ya.info? 141).map (λi=>(i.zero,i.size,i.bytes))=Nq (Nq .nilIface,1,16):=by kernel_rfl
def Tp.und138:Ya.underlying 138=Nq (.slice 141):=by rw[Tp.und];exact Tryz.underlying138
def gH(g:NA->NH)(l:Nu NH):(ldL g l).length=l.length:=by simp[ldL]
def qx(g:NA->NH)(l:Nu NH)(i:NA)(h:i<l.length):(ldL g l)[i]?.getD 0=loadAt g l i:=by simp[ldL,h]
def rZ(p:Par)(load:NH):NZ:=if p.bears<load then 170 else 171
def Hb(p:Par)(load:NH):(if p.bears<load then Value.iface 170 (.agg #[]) else .iface 171 (.agg #[]))=.iface (rZ p load) (.agg #[]):=by unfold rZ;split<;>rfl
def rY(p:Par)(load:NH):Ny:=.iface (rZ p load) (.agg #[])
def rq{w:Nt}{b j a n:NA}{e:NZ}{v:Ny}{i:Nu Ny}(h:w.ownsRow b e a v n i)(k:j<=b):w.ownsRow j e a v n i:=by
 obtain⟨l,c⟩:=h;refine⟨l,?_⟩;rcases c with c | ⟨g,f,d,q,p,o⟩
 ·exact .inl c
 ·exact .inr ⟨g,f,d,q,NM k p,o⟩
def sd(a:Nu Par)(g:NA->NH)(l:Nu NH)(i:NA):Ny:=match a[(l[i]?.getD 0).toNat]? with | some p=>rY p (loadAt g l i) | none=>.nilIface
def ik(a:Nu Par)(g:NA->NH)(l:Nu NH):Nu Ny:=(Oo l.length).map (sd a g l)
def ze(a:Nu Par)(g:NA->NH)(l:Nu NH)(k:NA)(h:k<l.length):(ik a g l).take (k+1)=(ik a g l).take k++[sd a g l k]:=by
 rw[OR];simp[ik,h]
def Ea(lo I:NA)(yv pv:Ny)(b:Nu Par)(y:NH)(l:Nu NH)(g:NA->NH)(w:Nt)(hY:dh lo I w yv b y)(hI:aj lo I w pv l)(n9:I<=w.heap.size)(h5:b.length<=5)(C:∀x∈l,0<=x/\x<b.length)(hl:l.length<=1000)(hg:∀i,0<=g i/\g i<=1000) :Oz Ya 126 #[yv,pv,wts g] w λe w'=>∃v',e=.returned v'/\w.gb w' Ns/\w'.ownsRow w.heap.size 141 1 v' l.length (ik b g l):=by
 have⟨i0,b7,b6,b0,a9⟩:=PM Tp.info141p;obtain⟨qv,rfl,hP⟩:=hY;obtain⟨yb,yc,rfl,m8,-⟩:=hP.cell;obtain⟨base,d5,rfl,n7,-⟩:=hI.cell;have⟨A,w1,hA,G,u,n,c,n4⟩:=bY w (.cells #[.slice yb b.length yc,y] 91) (aT g);have S:=Np (hI.kept u);have d7:=Np (hP.kept u);have⟨HX,e4,d6,HA,U,q7⟩:=rS C hg G hA u n;have q0:=aa n (o:=0) rfl;have q1:=aa n (o:=1) rfl;have r0:=aB c (show 0<5 by omega);have r1:=aB c (show 1<5 by omega);have r2:=aB c (show 2<5 by omega);have r3:=aB c (show 3<5 by omega);have r4:=aB c (show 4<5 by omega);have p4:I<=A:=by omega
 clear hI hP C hg G hA u n c;unfold wts;go_enter Tp.x126,Tryz.ntmps126;go_upto_region 2 with(fail);rw[<- HA,show(w.alloc (.cells #[.slice yb b.length yc,y] 91)).alloc (.cells #[(g 0),(g 1),(g 2),(g 3),(g 4)] 101)=w1 from d6.symm];go_wp2_with (go_at_call 91;(refine(lN lo I _ _ l g _ S (by omega) (by intro x C;have:=HX.out x C;omega) hl e4 ⟨_,_,rfl⟩).mono ?_);rintro e V ⟨lv,rfl,O,s⟩;have h:=s.cell;rw[gH] at h;obtain⟨lb,lc,rfl,-,h⟩:=h;have e7:=Np h;clear h;have q:=Np O;have q5:=Np s;clear O s);have Z:=q.out.cl q0;have n3:=q.out.size;clear r0 r1 r2 r3 r4 q0 q1;go_loopw [7,15] (λov iv wr=>∃k:NA,iv=.int .i64 k/\k<=l.length/\V.gb wr Ns/\wr.ownsRow V.heap.size 141 1 ov k ((ik b g l).take k)) (λ_ iv _=>(l.length - OP iv).toNat)
 case atStart=>exact⟨0,rfl,by omega,NN _ _,PX _ _ _ _⟩
 case round=>
  obtain⟨k,rfl,hk,F,X⟩:=hrel;obtain⟨oa,om,oc,rfl⟩:=cd X;have⟨HG,HO⟩:=aQ F X;have m4:=F.cl Z;have n2:=F.size;by_cases a:k<l.length
  ·have R:=(S.kept q).kept F;have Q:=(d7.kept q).kept F;obtain⟨b1,c1,he,-,W⟩:=R.cell;cases he;obtain⟨B,o,rfl,n,q4,q3,P⟩:=W (by intro e;rw[e] at a;simp at a);have C:=P k a;obtain⟨x,r⟩:∃x,l[k]?=Nq x:=⟨_,ND a⟩;have⟨m9,z⟩:=HX.out x (Od r);rw[r] at C;simp only[NK] at C;obtain⟨m,rfl⟩:∃m:NA,x=m:=⟨x.toNat,by omega⟩;obtain⟨b2,c2,he,-,W⟩:=Q.cell;cases he;obtain⟨YB,yo,rfl,p7,p6,p5,M⟩:=W (by intro e;rw[e] at z;simp at z;omega);have⟨p,hp,p0,p1,p2,p3⟩:=M m (by omega);obtain⟨LB,m6,rfl,q2,s,p9,N⟩:=e7.out (by intro e;have:=gH g l;rw[e] at this;simp at this;omega);have H:=HG.out.cl (N k a);rw[qx g l k a] at H;have L:Wn (sd b g l k=rY p (loadAt g l k)):=Np (by unfold sd;rw[r];simp[hp]);have n6:(m:NH)<(b.length:NH):=z;generalize loadAt g l k=ld at H L;clear F X R Q W P M N r hp;go_wp2;go_region_law
    (first
     | (go_simp;go_at_call 160;refine(AR p ld _).mono ?_;rintro e Y ⟨rfl,D⟩;rw[Hb];have a8:=D.size;have T:=Np ((ai wr Ns).t D);clear D)
     | (refine step_append_lies _ (by rfl) _ _ _ (by rfl) V.heap.size 141 i0 _ 1 16 Tp.und138 b7 b6 b0 a9 rfl (by omega) (.slice oa om oc) k ((ik b g l).take k) (by rfl) (by exact(HO.kept T (by cases(OS oa om oc).ownBlock<;>simp)).alloc _) ⟨Y.heap.size,0,Ns⟩ 1 1 [.iface (rZ p ld) (.agg #[])] (by rfl) (by rfl) (Pt (cs:=#[.iface (rZ p ld) (.agg #[])]) (t:=141) (fr:=(0,0)) (NL Y _)) (by simp[PT]) (by omega) (by unfold Rh;omega) (by omega) (by simp at a8 ⊢;omega) (Y.heap.size+1) (by simp) ?_;intro gg d5 w5 d f c3 b8;have d8:=Np d;have e5:=Np f;clear d f c3 b8))
   all_goals
    have v:V.gb w5 Ns:=((HG.t T).t (Nr _ _ Ns)).andThen e5 (λj e=>.inl (HO.lt j e).1);have HF:=Np v;clear v;go_wp2;go_roundw
    case rel=>
     refine⟨k+1,by simp,by omega,HF,?_⟩;rw[ze b g l k a,L];exact d8
    case measure=>simp[OP];omega
  ·obtain rfl:k=l.length:=by omega
   clear F X;go_wp2;go_ret;have h0:=HO.out;rw[show(ik b g l).take l.length=ik b g l from UP (by simp[ik])] at h0;refine⟨_,rfl,(U.t q).t HG,?_⟩;exact rq h0 (by have:=U.out.size;omega)
def gN{w:Nt}{base n:NA}{e:NZ}{v:Ny}{b:Nu Ny}(h:w.ownsRow base e 1 v n b) :∃a c,v=.slice a n c/\(0<n->∃g,a=Nq ⟨g,0,Ns⟩/\base<=g/\g<w.heap.size/\∀i,i<n->w.cell? ⟨g,i,Ns⟩=b[i]?):=by
 rcases h.2 with⟨rfl,j⟩ | ⟨g,l,k,rfl,f,d,o⟩
 ·exact⟨_,_,by rw[j],λp=>by omega⟩
 ·exact⟨_,_,rfl,λ_=>⟨g,rfl,f,(Nz.1 d).1,λi q=>h.cellAt i (by omega)⟩⟩
@[simp] theorem ta170(w:Nt):(RY (.iface 170 (.agg #[])) 141 170 NB).run Ya w=.ok (.tuple #[.agg #[],.bool NB]) w:=by kernel_rfl
@[simp] theorem MY(w:Nt):(RY (.iface 171 (.agg #[])) 141 170 NB).run Ya w=.ok (.tuple #[.agg #[],.bool NC]) w:=by kernel_rfl
@[simp] theorem ta171(w:Nt):(RY (.iface 171 (.agg #[])) 141 171 NB).run Ya w=.ok (.tuple #[.agg #[],.bool NB]) w:=by kernel_rfl
def fL(a:Nu Par)(g:NA->NH)(l:Nu NH)(i:NA):OI:=match a[(l[i]?.getD 0).toNat]? with | some p=>decide (loadAt g l i<=p.bears) | none=>NC
def aC(a:Nu Par)(g:NA->NH)(l:Nu NH):OI:=(Oo l.length).all (fL a g l)
def gT(H j:NA)(W Y:Ny)(a:Nu Par)(c:NH)(l:Nu NH)(g:NA->NH)(w:Nt)(hY:dh H j w W a c)(Q:aj H j w Y l)(e4:j<=w.heap.size)(h5:a.length<=5)(Z:∀x∈l,0<=x/\x<a.length)(hl:l.length<=1000)(hg:∀i,0<=g i/\g i<=1000) :Oz Ya 96 #[W,Y,wts g] w λe w'=>e=.returned (.bool (aC a g l))/\w.gb w' Ns:=by
 obtain⟨qv,rfl,P⟩:=hY;obtain⟨N,M,rfl,c9,-⟩:=P.cell;obtain⟨base,e9,rfl,d8,-⟩:=Q.cell;have⟨A,X,hA,y,q,v,d,d7⟩:=bY w (.cells #[.slice N a.length M,c] 91) (aT g);have T:=Np (Q.kept q);have R:=Np (show dh H j X (.agg #[.slice N a.length M,c]) a c from⟨_,rfl,P.kept q⟩);have⟨HX,U,S,HA,G⟩:=nW Z hg y hA q;have q0:=aa v (o:=0) rfl;have q1:=aa v (o:=1) rfl;have r0:=aB d (show 0<5 by omega);have r1:=aB d (show 1<5 by omega);have r2:=aB d (show 2<5 by omega);have r3:=aB d (show 3<5 by omega);have r4:=aB d (show 4<5 by omega);have e5:j<=A:=by omega
 clear Q P Z hg y hA q v d;unfold wts;go_enter Tp.x96,Tryz.ntmps96;go_upto_region 1 with(fail);rw[<- HA,show(w.alloc (.cells #[.slice N a.length M,c] 91)).alloc (.cells #[(g 0),(g 1),(g 2),(g 3),(g 4)] 101)=X from S.symm];go_wp2_with (go_at_call 126;refine(Ea H j _ _ a c l g _ R T (by omega) h5 HX hl U).mono ?_;rintro e w2 ⟨lv,rfl,C,u⟩;obtain⟨lb,lc,rfl,B⟩:=gN u;have F:=Np C;have V:=Np B;clear C u B);clear r0 r1 r2 r3 r4 q0 q1;go_loopw [14] (λO wr=>∃k:NA,O=.int .i64 k/\k<=l.length/\(∀i,i<k->fL a g l i=NB)/\w2=wr) (λO _=>(l.length - OP O).toNat)
 case atStart=>exact⟨0,rfl,by omega,λi j=>absurd j (by omega),rfl⟩
 case round=>
  obtain⟨k,rfl,hk,b,rfl⟩:=hrel;have D:=Np b;clear b;by_cases n:k<l.length
  ·obtain⟨LB,rfl,e7,u,s⟩:=V.out (by omega);have r:=s k n;obtain⟨x,f⟩:∃x,l[k]?=Nq x:=⟨_,ND n⟩;have⟨d6,d5⟩:=HX.out x (Od f);obtain⟨p,I⟩:∃p,a[x.toNat]?=Nq p:=⟨_,ND (by omega)⟩;have b:fL a g l k=decide (loadAt g l k<=p.bears):=by unfold fL;rw[f];simp[I]
   rw[show(ik a g l)[k]?=Nq (rY p (loadAt g l k)) by simp only[ik,Pa,Ra n,Pp,sd,f,NK,I]] at r;by_cases L:p.bears<loadAt g l k
   ·rw[show rY p (loadAt g l k)=.iface 170 (.agg #[]) by simp[rY,rZ,L]] at r;have z:Wn (aC a g l=NC):=Np (by
     have:fL a g l k=NC:=by rw[b];simp;omega
     unfold aC;rw[So];intro h;rw[OF] at h;have:=h k (by simp[n])
     simp_all)
    clear s b I f L;go_wp2;go_ret;exact⟨by rw[z];rfl,G.t F⟩
   ·rw[show rY p (loadAt g l k)=.iface 171 (.agg #[]) by simp[rY,rZ,L]] at r;have z:Wn (fL a g l k=NB):=Np (by rw[b];simp;omega);clear s b I f L;go_wp2;go_roundw
    case rel=>
     refine⟨k+1,by simp,by omega,λi j=>?_,by first | rfl | trivial⟩;by_cases e:i=k
     ·rw[e];exact z
     ·exact D i (by omega)
    case measure=>simp[OP];omega
  ·obtain rfl:k=l.length:=by omega
   have z:Wn (aC a g l=NB):=Np (by
    unfold aC;rw[OF];intro i j;exact D i (by simpa using j))
   go_wp2;go_ret;exact⟨by rw[z];rfl,G.t F⟩
def dQ(x a b:NH)(w:Nt)(f:a<=x)(d:x<=b) :Oz Ya 110 #[x,a,b] w λe c=>e=.returned (.bool NB)/\w=c:=by
 go_enter Tp.x110,XG;go_wp2;go_ret;exact⟨rfl,rfl⟩
def fH(x a b:NH)(w:Nt)(c:¬ (a<=x/\x<=b)) :Oz Ya 110 #[x,a,b] w λe d=>e=.returned (.bool NC)/\w=d:=by
 by_cases f:a<=x
 ·have g:¬ x<=b:=λh=>c ⟨f,h⟩;clear c;go_enter Tp.x110,XG;go_wp2;go_ret;exact⟨rfl,rfl⟩
 ·clear c;go_enter Tp.x110,XG;go_wp2;go_ret;exact⟨rfl,rfl⟩
def kE(p:Par):NH:=if 1<=p.mn/\p.mn<=12 then if 1<=p.mx/\p.mx<=12 then if p.mx<p.mn then 5 else if 0<=p.bears/\p.bears<=30 then if 1<=p.tall/\p.tall<=3 then 0 else 1 else 1 else 1 else 1
def wV(a b c d:NH)(w:Nt)(h:¬ (1<=a/\a<=12)) :Oz Ya 109 #[.agg #[a,b,c,d]] w λe f=>e=.returned (.int .i64 1)/\w.gb f Ns:=by
 have g:=Np h;clear h;go_enter Tp.x109,Um;go_wp2_with (first
  | (go_at_call 110;refine(dQ _ _ _ _ (by have:=g.out;omega) (by have:=g.out;omega)).mono ?_;rintro e f ⟨rfl,rfl⟩)
  | (go_at_call 110;(refine(fH _ _ _ _ (by have:=g.out;omega)).mono ?_);rintro e f ⟨rfl,rfl⟩))
 go_ret;exact⟨rfl,Nr _ _ _⟩
def wU(a b c d:NH)(w:Nt)(i:1<=a/\a<=12)(h:¬ (1<=b/\b<=12)) :Oz Ya 109 #[.agg #[a,b,c,d]] w λe f=>e=.returned (.int .i64 1)/\w.gb f Ns:=by
 have g:=Np (NY i h);clear i h;go_enter Tp.x109,Um;go_wp2_with (first
  | (go_at_call 110;refine(dQ _ _ _ _ (by have:=g.out;omega) (by have:=g.out;omega)).mono ?_;rintro e f ⟨rfl,rfl⟩)
  | (go_at_call 110;(refine(fH _ _ _ _ (by have:=g.out;omega)).mono ?_);rintro e f ⟨rfl,rfl⟩))
 go_ret;exact⟨rfl,Nr _ _ _⟩
def wT(a b c d:NH)(w:Nt)(i:1<=a/\a<=12)(h:1<=b/\b<=12)(j:b<a) :Oz Ya 109 #[.agg #[a,b,c,d]] w λe f=>e=.returned (.int .i64 5)/\w.gb f Ns:=by
 have g:=Np (NY i (NY h j));clear i h;go_enter Tp.x109,Um;go_wp2_with (first
  | (go_at_call 110;refine(dQ _ _ _ _ (by have:=g.out;omega) (by have:=g.out;omega)).mono ?_;rintro e f ⟨rfl,rfl⟩)
  | (go_at_call 110;(refine(fH _ _ _ _ (by have:=g.out;omega)).mono ?_);rintro e f ⟨rfl,rfl⟩))
 go_ret;exact⟨rfl,Nr _ _ _⟩
def wS(a b c d:NH)(w:Nt)(j:1<=a/\a<=12)(i:1<=b/\b<=12)(k:¬ b<a)(h:¬ (0<=c/\c<=30)) :Oz Ya 109 #[.agg #[a,b,c,d]] w λe f=>e=.returned (.int .i64 1)/\w.gb f Ns:=by
 have g:=Np (NY j (NY i (NY k h)));clear j i h;go_enter Tp.x109,Um;go_wp2_with (first
  | (go_at_call 110;refine(dQ _ _ _ _ (by have:=g.out;omega) (by have:=g.out;omega)).mono ?_;rintro e f ⟨rfl,rfl⟩)
  | (go_at_call 110;(refine(fH _ _ _ _ (by have:=g.out;omega)).mono ?_);rintro e f ⟨rfl,rfl⟩))
 go_ret;exact⟨rfl,Nr _ _ _⟩
def wR(a b c d:NH)(w:Nt)(k:1<=a/\a<=12)(j:1<=b/\b<=12)(l:¬ b<a)(i:0<=c/\c<=30)(h:¬ (1<=d/\d<=3)) :Oz Ya 109 #[.agg #[a,b,c,d]] w λe f=>e=.returned (.int .i64 1)/\w.gb f Ns:=by
 have g:=Np (NY k (NY j (NY l (NY i h))));clear k j i h;go_enter Tp.x109,Um;go_wp2_with (first
  | (go_at_call 110;refine(dQ _ _ _ _ (by have:=g.out;omega) (by have:=g.out;omega)).mono ?_;rintro e f ⟨rfl,rfl⟩)
  | (go_at_call 110;(refine(fH _ _ _ _ (by have:=g.out;omega)).mono ?_);rintro e f ⟨rfl,rfl⟩))
 go_ret;exact⟨rfl,Nr _ _ _⟩
def wQ(a b c d:NH)(w:Nt)(k:1<=a/\a<=12)(j:1<=b/\b<=12)(l:¬ b<a)(i:0<=c/\c<=30)(h:1<=d/\d<=3) :Oz Ya 109 #[.agg #[a,b,c,d]] w λe f=>e=.returned (.int .i64 0)/\w.gb f Ns:=by
 have g:=Np (NY k (NY j (NY l (NY i h))));clear k j i h;go_enter Tp.x109,Um;go_wp2_with (first
  | (go_at_call 110;refine(dQ _ _ _ _ (by have:=g.out;omega) (by have:=g.out;omega)).mono ?_;rintro e f ⟨rfl,rfl⟩)
  | (go_at_call 110;(refine(fH _ _ _ _ (by have:=g.out;omega)).mono ?_);rintro e f ⟨rfl,rfl⟩))
 go_ret;exact⟨rfl,Nr _ _ _⟩
def kB(p:Par)(w:Nt):Oz Ya 109 #[.agg #[p.mn,p.mx,p.bears,p.tall]] w λe g=>e=.returned (.int .i64 (kE p))/\w.gb g Ns:=by
 unfold kE;by_cases a:1<=p.mn/\p.mn<=12
 ·by_cases b:1<=p.mx/\p.mx<=12
  ·by_cases c:p.mx<p.mn
   ·rw[if_pos a,if_pos b,if_pos c];exact wT _ _ _ _ w a b c
   ·by_cases d:0<=p.bears/\p.bears<=30
    ·by_cases f:1<=p.tall/\p.tall<=3
     ·rw[if_pos a,if_pos b,if_neg c,if_pos d,if_pos f];exact wQ _ _ _ _ w a b c d f
     ·rw[if_pos a,if_pos b,if_neg c,if_pos d,if_neg f];exact wR _ _ _ _ w a b c d f
    ·rw[if_pos a,if_pos b,if_neg c,if_neg d];exact wS _ _ _ _ w a b c d
  ·rw[if_pos a,if_neg b];exact wU _ _ _ _ w a b
 ·rw[if_neg a];exact wV _ _ _ _ w a
def dS(b:Nu Par)(a:NH):NH:=if 5<b.length then 6 else match b.find? (λp=>decide (kE p≠0)) with
 | some p=>kE p
 | none=>if 1<=a/\a<=12 then 0 else 1
def qA{Y:Type}(q:Y->OI)(l:Nu Y)(k:NA)(x:Y)(h:l[k]?=Nq x)(e:q x=NB)(b:∀(i:NA) (y:Y),i<k->l[i]?=Nq y->q y=NC):l.find? q=Nq x:=by
 induction l generalizing k with
 | nil=>simp at h
 | cons a t c=>
  cases k with
  | zero=>simp at h;subst h;simp[e]
  | succ k=>
   rw[List.find?_cons_of_neg (by rw[b 0 a (by omega) (by simp)];simp)];exact c k (by simpa using h) (λi y f d=>b (i+1) y (by omega) (by simpa using d))
def lS{Y:Type}(q:Y->OI)(l:Nu Y)(c:∀(i:NA) (y:Y),l[i]?=Nq y->q y=NC):l.find? q=Ns:=by
 rw[Sa];intro x a;have⟨i,b⟩:=Vs a;rw[c i x b];simp
def oY(lo j:NA)(T:Ny)(b:Nu Par)(a:NH)(w:Nt)(hY:dh lo j w T b a)(b8:j<=w.heap.size) :Oz Ya 52 #[T] w λe N=>e=.returned (.int .i64 (dS b a))/\w.gb N Ns:=by
 obtain⟨qv,rfl,I⟩:=hY;obtain⟨Y,X,rfl,b7,-⟩:=I.cell;by_cases L:5<b.length
 ·have f:=Np (show dS b a=6 by unfold dS;rw[if_pos L]);have Q:(5:NH)<b.length:=by omega
  clear I;go_enter Tp.x52,ZI;go_wp2;go_ret;exact⟨by rw[f];rfl,Nr _ _ _⟩
 ·have⟨A,w1,W,v,l,n⟩:=bI w (.cells #[.slice Y b.length X,a] 24);have S:=Np (I.kept l);have⟨R,HA,s⟩:=bC v W l;have q0:=aa n (o:=0) rfl;have q1:=aa n (o:=1) rfl;have Q:¬ (5:NH)<b.length:=by omega
  clear I v W l n;go_enter Tp.x52,ZI;go_upto_region 1 with(fail);rw[<- HA,<- R];go_wp2;go_loopw [13] (λO wr=>∃k:NA,O=.int .i64 k/\k<=b.length/\(∀i p,i<k->b[i]?=Nq p->kE p=0)/\w1.gb wr Ns) (λO _=>(b.length - OP O).toNat)
  case atStart=>exact⟨0,rfl,by omega,λi p j=>absurd j (by omega),NN _ _⟩
  case round=>
   obtain⟨k,rfl,hk,x,D⟩:=hrel;have⟨d,M⟩:=aQ x D;have F:=S.out.kept D;have a9:=D.cl q0;have a7:=D.cl q1;clear x D;by_cases B:k<b.length
   ·obtain⟨b2,c2,he,-,V⟩:=F.cell;cases he;obtain⟨YB,yo,rfl,c9,c8,c3,C⟩:=V (by intro e;rw[e] at B;simp at B);have⟨p,U,p0,p1,p2,p3⟩:=C k (by omega);have G:=Np U;clear V C U F;by_cases H:kE p=0
    ·go_wp2_with (go_at_call 109;refine(kB p _).mono ?_;rintro e Z ⟨rfl,c⟩;rw[H];have r:=Np c;clear c);go_roundw
     case rel=>
      refine⟨k+1,by simp,by omega,λi q j P=>?_,(M.t (Nr _ _ _)).t r⟩;by_cases e:i=k
      ·subst e;rw[G] at P;cases P;exact H
      ·exact d i q (by omega) P
     case measure=>simp[OP];omega
    ·have f:=Np (show dS b a=kE p by
      unfold dS;rw[if_neg L,qA _ b k p G (by simp[H]) (λi y j h=>by simp[d.out i y j h])])
     obtain⟨z,g⟩:∃z,kE p=z:=⟨_,rfl⟩;rw[g] at H f;have HZ:=Np g;clear g;go_wp2_with (go_at_call 109;refine(kB p _).mono ?_;rintro e Z ⟨rfl,c⟩;rw[HZ];have r:=Np c;clear c);go_ret;exact⟨by rw[f];rfl,((s.t M).t (Nr _ _ _)).t r⟩
   ·obtain rfl:k=b.length:=by omega
    by_cases u:1<=a/\a<=12
    ·have f:=Np (show dS b a=0 by
      unfold dS;rw[if_neg L,lS _ b (λi y h=>by simp[d.out i y (NT.1 h).1 h])];exact if_pos u)
     go_wp2_with (go_at_call 110;refine(dQ _ _ _ _ u.1 u.2).mono ?_;rintro e N ⟨rfl,rfl⟩);go_ret;exact⟨by rw[f];rfl,s.t M⟩
    ·have f:=Np (show dS b a=1 by
      unfold dS;rw[if_neg L,lS _ b (λi y h=>by simp[d.out i y (NT.1 h).1 h])];exact if_neg u)
     have HL:=Np u;clear u;go_wp2_with (go_at_call 110;refine(fH _ _ _ _ HL).mono ?_;rintro e N ⟨rfl,rfl⟩);go_ret;exact⟨by rw[f];rfl,s.t M⟩
def Ib:∀m:Fin 32,∀n:Fin 5,(Wy .and .u8 (m.1:NH) ((2 ^ n.1:NA):NH) != 0)=m.1.testBit n.1:=by decide
def JV:∀m:Fin 32,∀n:Fin 5,Wy .or .u8 (m.1:NH) ((2 ^ n.1:NA):NH)=((m.1 ||| 2 ^ n.1:NA):NH):=by decide
@[simp] theorem MX(w:Nt):(UC 205 (.agg #[.int .u8 1,.int .u8 2,.int .u8 4,.int .u8 8,.int .u8 16]) (.int .i64 0)).run Ya w=.ok (.int .u8 1) w:=by kernel_rfl
@[simp] theorem MW(w:Nt):(UC 205 (.agg #[.int .u8 1,.int .u8 2,.int .u8 4,.int .u8 8,.int .u8 16]) (.int .i64 1)).run Ya w=.ok (.int .u8 2) w:=by kernel_rfl
@[simp] theorem MV(w:Nt):(UC 205 (.agg #[.int .u8 1,.int .u8 2,.int .u8 4,.int .u8 8,.int .u8 16]) (.int .i64 2)).run Ya w=.ok (.int .u8 4) w:=by kernel_rfl
@[simp] theorem MU(w:Nt):(UC 205 (.agg #[.int .u8 1,.int .u8 2,.int .u8 4,.int .u8 8,.int .u8 16]) (.int .i64 3)).run Ya w=.ok (.int .u8 8) w:=by kernel_rfl
@[simp] theorem MT(w:Nt):(UC 205 (.agg #[.int .u8 1,.int .u8 2,.int .u8 4,.int .u8 8,.int .u8 16]) (.int .i64 4)).run Ya w=.ok (.int .u8 16) w:=by kernel_rfl
def km(n:NA)(w:Nt)(h:n<5):Oz Ya 153 #[n] w λe a=>e=.returned (.int .u8 ((2 ^ n:NA):NH))/\w=a:=by
 obtain rfl | rfl | rfl | rfl | rfl:n=0\/n=1\/n=2\/n=3\/n=4:=by omega
 all_goals
  go_enter Tp.x153,Tryz.ntmps153;go_wp2;go_ret;exact⟨rfl,rfl⟩
def qz(m n:NA)(w:Nt)(hm:m<32)(h:n<5):Oz Ya 129 #[.int .u8 m,n] w λe b=>e=.returned (.bool (m.testBit n))/\w=b:=by
 have a:=Ib ⟨m,hm⟩ ⟨n,h⟩;simp only at a;have f:=Np a;clear a;obtain⟨z,c⟩:∃z:NH,((2 ^ n:NA):NH)=z:=⟨_,rfl⟩;have d:=Np c;clear c;go_enter Tp.x129,Tryz.ntmps129;go_wp2_with (go_at_call 153;refine(km n _ h).mono ?_;rintro e b ⟨rfl,rfl⟩;rw[d]);go_ret;exact⟨by rw[<- f,d];rfl,rfl⟩
def ng(m n:NA)(w:Nt)(hm:m<32)(h:n<5):Oz Ya 151 #[.int .u8 m,n] w λe b=>e=.returned (.int .u8 ((m ||| 2 ^ n:NA):NH))/\w=b:=by
 have a:=JV ⟨m,hm⟩ ⟨n,h⟩;simp only at a;have f:=Np a;clear a;obtain⟨z,c⟩:∃z:NH,((2 ^ n:NA):NH)=z:=⟨_,rfl⟩;have d:=Np c;clear c;go_enter Tp.x151,Tryz.ntmps151;go_wp2_with (go_at_call 153;refine(km n _ h).mono ?_;rintro e b ⟨rfl,rfl⟩;rw[d]);go_ret;exact⟨by rw[<- f,d];rfl,rfl⟩
def rD(k:NH)(w:Nt):Oz Ya 162 #[.bool NB,k] w λe a=>e=.returned (.tuple #[])/\w=a:=by
 go_enter Tp.x162,Zn;go_wp2;go_end0;exact⟨rfl,rfl⟩
def sE(p:OX)(w:Nt) :CallsD Ya 161 #[.pointer (Nq p)] .returning w λe d c=>e=.returned (.tuple #[])/\d=.returning/\c=w.alloc (.cells #[.int .i64 0] 181):=by
 have a:∀w,(RY .nilIface 20 181 NB).run Ya w=.ok (.tuple #[.agg #[.int .i64 0],.bool NC]) w:=λw=>by kernel_rfl
 refine callsD_of_wpS Tp.x161 rfl λc₀ f b=>?_;apply ZJ;apply WB;simp[ZK,go_sem,Zc,b,Wd,Exit.thenS,a];apply ZJ;apply WB;simp[ZK,go_sem,Zc,b,Wd,Exit.thenS];refine wpS_cond (t:=NC) (by simp[Act.eval,OY]) ?_;simp only[OJ,if_false];refine wpS_of_wp (wp_skip ?_);cases c₀
 simp_all [bodyPostS,Qo,YP]
def lU(B:NA)(x k:NH)(a:Nu Tu)(w:Nt)(d:w.heap[B]?=Nq (.cells #[x] 40 (0,0))) :CallsD Ya 161 #[.pointer (Nq B)] (.panicking ({ v:=.iface 181 (.agg #[k]),recovered:=NC }::a)) w λe g f =>e=.returned (.tuple #[])/\g=.panicking ({ v:=.iface 181 (.agg #[k]),recovered:=NB }::a)/\f=(w.alloc (.cells #[k] 181)).setCell B (.int .i64 k):=by
 have b:∀w,(RY (.iface 181 (.agg #[k])) 20 181 NB).run Ya w=.ok (.tuple #[.agg #[k],.bool NB]) w:=λw=>by kernel_rfl
 have i:=aa (aE (p:=.cells #[k] 181) d) (o:=0) rfl;have h:=aA (aE (p:=.cells #[k] 181) d) (o:=0);refine callsD_of_wpS Tp.x161 rfl λc₀ j c=>?_;apply ZJ;apply WB;simp[ZK,go_sem,Zc,c,Wd,Exit.thenS,b];apply ZJ;apply WB;simp[ZK,go_sem,Zc,c,Wd,Exit.thenS];refine wpS_cond (t:=NB) (by simp[Act.eval,OY]) ?_;simp only[if_true];apply WB;simp[ZK,go_sem,i,h,bodyPostS,Qo,YP]
def vW(k:NH)(w:Nt):Oz Ya 162 #[.bool NC,k] w λe b=>e=.panicked [{ v:=.iface 181 (.agg #[k]),recovered:=NC }]/\w=b:=by
 have a:∀(x:OI) (w:Nt),(Op.unary .not (.bool x)).run Ya w=.ok (.bool (!x)) w:=λ_ _=>rfl;go_enter Tp.x162,Zn;go_wp2;exact⟨rfl,rfl,rfl⟩
def bL(l:Nu NH):NA:=l.foldl (λm x=>m ||| 2 ^ x.toNat) 0
def oP(l:Nu NH)(k:NA)(x:NH)(h:l[k]?=Nq x):bL (l.take (k+1))=bL (l.take k) ||| 2 ^ x.toNat:=by
 rw[OR,h];simp[bL]
def jR(l:Nu NH)(n:NA)(h:∀x∈l,x.toNat<n):bL l<2 ^ n:=by
 unfold bL;have b:∀(l:Nu NH) (m:NA),m<2 ^ n->(∀x∈l,x.toNat<n)->l.foldl (λm x=>m ||| 2 ^ x.toNat) m<2 ^ n:=by
  intro l;induction l with
  | nil=>exact λm hm _=>hm
  | cons a t e=>exact λm hm d=>e _ (Nat.or_lt_two_pow hm (Nat.pow_lt_pow_right (by omega) (d a (by simp)))) λx c=>d x (by simp[c])
 exact b l 0 (Nat.two_pow_pos n) h
def nM(l:Nu NH)(b:NA):(bL l).testBit b=NB↔∃x∈l,x.toNat=b:=by
 unfold bL;have c:∀(l:Nu NH) (m:NA),(l.foldl (λm x=>m ||| 2 ^ x.toNat) m).testBit b=NB↔m.testBit b=NB\/∃x∈l,x.toNat=b:=by
  intro l;induction l with
  | nil=>simp
  | cons a t d=>
   intro m;simp only[PN,d,Nat.testBit_or,QI,Nat.testBit_two_pow,decide_eq_true_eq,ON,exists_eq_or_imp];constructor
   ·rintro((h | h) | h)
    ·exact .inl h
    ·exact .inr (.inl h)
    ·exact .inr (.inr h)
   ·rintro(h | h | h)
    ·exact .inl (.inl h)
    ·exact .inl (.inr h)
    ·exact .inr h
 rw[c l 0];simp
def dq(a:Nu Par)(x:NH):NH:=match a[x.toNat]? with | some p=>p.tall | none=>0
def aN(a:Nu Par)(l:Nu NH):NH:=(l.map (dq a)).foldl (·+·) 0
def jD(a:Nu Par)(l:Nu NH)(k:NA)(x:NH)(h:l[k]?=Nq x):aN a (l.take (k+1))=aN a (l.take k)+dq a x:=by
 rw[OR,h];simp[aN]
def ss(b:Nu Par)(a:NH)(l:Nu NH):NH:=if aN b l<=a then 0 else 10
def iK(lo hi:NA)(yv pv:Ny)(a:Nu Par)(b:NH)(l:Nu NH)(w:Nt)(hY:dh lo hi w yv a b)(hI:aj lo hi w pv l)(n7:hi<=w.heap.size)(h5:a.length<=5)(P:∀x∈l,0<=x/\x<a.length)(G:l.Nodup)(ht:∀p∈a,0<=p.tall/\p.tall<=1000)(k0:l.length<=100) :Oz Ya 133 #[yv,pv] w λe u=>e=.returned (.int .i64 (ss a b l))/\w.gb u Ns:=by
 have n4:∀(fn:Fn) (first I:NJ Ny) (w:Nt),(Zd fn first I).run Ya w=.ok (.func fn first I) w:=λ_ _ _ _=>rfl;have h9:∀(x:OI) (w:Nt),(Op.unary .not (.bool x)).run Ya w=.ok (.bool (!x)) w:=λ_ _=>rfl;obtain⟨qv,rfl,hP⟩:=hY;obtain⟨yb,yc,rfl,m5,-⟩:=hP.cell;obtain⟨base,I,rfl,n6,-⟩:=hI.cell;have⟨A,w1,hA,Q,r,s,V,b8⟩:=bY w (.cells #[.slice yb a.length yc,b] 91) (.cells #[.int .i64 0] 40);have e9:=Np (hI.kept r);have e6:=Np (hP.kept r);have⟨HX,e7,HT,e4,HA,a6,e5⟩:=AH P G ht Q hA r V;have q0:=aa s (o:=0) rfl;have q1:=aa s (o:=1) rfl;clear hI hP P G ht Q hA r s V;go_enter_defers Tp.x133,Zo;go_upto_region 4 with(fail);rw[<- HA,<- e4];go_wp2;go_loopw [5,6,12] (λmv tv iv wr=>∃k:NA,iv=.int .i64 k/\k<=l.length/\mv=.int .u8 (bL (l.take k))/\tv=.int .i64 (aN a (l.take k))/\0<=aN a (l.take k)/\aN a (l.take k)<=1000*k/\w1.gb wr Ns) (λ_ _ iv _=>(l.length - OP iv).toNat)
 case atStart=>exact⟨0,rfl,by omega,by simp[bL],by simp[aN],by simp[aN],by simp[aN],NN _ _⟩
 case round=>
  obtain⟨k,rfl,hk,rfl,rfl,F,D,W⟩:=hrel;have O:=Np W;have l8:=W.cl q0;have l6:=W.cl q1;have m8:=W.size;clear W;by_cases g:k<l.length
  ·have Z:=e9.out.kept O;have Y:=e6.out.kept O;obtain⟨b1,c1,he,-,hc⟩:=Z.cell;cases he;obtain⟨B,o,rfl,s,p9,p8,X⟩:=hc (by intro e;rw[e] at g;simp at g);have P:=X k g;obtain⟨x,c⟩:∃x,l[k]?=Nq x:=⟨_,ND g⟩;have⟨m7,C⟩:=HX.out x (Od c);rw[c] at P;simp only[NK] at P;have d:(bL (l.take k)).testBit x.toNat=NC:=by
    rw[So];intro h;have⟨y,hy,m4⟩:=(nM _ _).1 h;have⟨j,hj⟩:=Vs hy;have S:j<k:=by have:=(NT.1 hj).1;simp at this;omega
    rw[PI S] at hj;have m6:=HX.out y (Od hj);obtain rfl:y=x:=by omega
    have⟨h1,h2⟩:=NT.1 hj;have⟨h3,h4⟩:=NT.1 c;exact Rq.1 e7 j k h1 h3 S (h2.t h4.symm)
   have hM:bL (l.take k)<32:=jR _ 5 λy hy=>by have:=HX.out y (Tb hy);omega
   have q:=oP l k x c;have i:=jD a l k x c;obtain⟨m,rfl⟩:∃m:NA,x=m:=⟨x.toNat,by omega⟩;obtain⟨b2,c2,he,-,hc⟩:=Y.cell;cases he;obtain⟨YB,yo,rfl,p4,n9,n8,U⟩:=hc (by intro e;rw[e] at C;simp at C;omega);have⟨p,hp,p0,p1,p2,p3⟩:=U m (by omega);have n2:=HT.out p (Od hp);rw[show dq a m=p.tall by unfold dq;simp[hp]] at i;simp only[Int.toNat_natCast] at d q;have n3:(m:NH)<(a.length:NH):=C;have R:m<5:=by omega
   generalize bL (l.take k)=M at d hM q;generalize aN a (l.take k)=T at F D i;have⟨a7,e8,L,q6⟩:=cJ d q i c;clear Z Y hc X U hp d q i c;go_wp2_with (first
    | (go_at_call 110;refine(dQ _ _ _ _ (by omega) (by omega)).mono ?_;rintro e u ⟨rfl,rfl⟩)
    | (go_at_call 162;refine(rD _ _).mono ?_;rintro e u ⟨rfl,rfl⟩)
    | (go_at_call 129;refine(qz M m _ hM R).mono ?_;rintro e u ⟨rfl,rfl⟩;rw[a7])
    | (go_at_call 151;refine(ng M m _ hM R).mono ?_;rintro e u ⟨rfl,rfl⟩)
    | (go_at_call 145;refine(qN _ _ _ T p.tall _ (by exact aj.laid _ [T,p.tall] 2 rfl (by simp)) (by omega) (by omega)).mono ?_;rintro e u ⟨rfl,rfl⟩))
   go_roundw
   case rel=>
    refine⟨k+1,by simp,by omega,by rw[e8],by rw[L],by rw[L];omega,by rw[L];omega,O.t (Nr _ _ _)⟩
   case measure=>simp[OP];omega
  ·obtain rfl:k=l.length:=by omega
   rw[Ps] at F D;rw[Ps];have HZ:=Np (show ss a b l=if aN a l<=b then 0 else 10 from rfl);generalize aN a l=T at F D HZ;generalize bL l=M;have n:=bk O e5;have p7:=aa (o:=0) n rfl;have p6:=aA (o:=0) n;have N:=Np n;have m9:=b8;clear n;by_cases z:T<=b
   ·have HC:=Np (HZ.t (if_pos z));go_wp2_with (go_at_call 162;refine(rD _ _).mono ?_;rintro e u ⟨rfl,rfl⟩);refine UF (f:=161) (args:=#[.pointer (Nq (A+1:NA))]) (by simp) (by simp[go_sem]) ?_;refine(sE ⟨A+1,0,Ns⟩ _).mono ?_;rintro e u' b0 ⟨rfl,rfl,rfl⟩;have H:(((wr.setCell (A+1:NA) (.int .i64 0)).alloc (.cells #[.int .i64 0] 181)).heap[A+1]?=Nq (.cells #[.int .i64 0] 40 (0,0))):=aE (by rw[ar N];rfl);refine⟨.int .i64 0,?_,by rw[HC],?_⟩
    ·simp[Qo,TD,go_sem,OA,H]
    ·have hh:=a6.out.t O;exact(hh.andThen (an _ _ _ _) (by rintro j e;cases e;exact .inl (by have:=HA.out;omega))).t (Nr _ _ _)
   ·have HC:=Np (HZ.t (if_neg z));have G:decide (T<=b)=NC:=by simp;omega
    go_wp2_with (go_at_call 162;refine(vW _ _).mono ?_;rintro e u ⟨rfl,rfl⟩);refine UF (f:=161) (args:=#[.pointer (Nq (A+1:NA))]) (by simp) (by simp[go_sem]) ?_;refine(lU (A+1) 0 10 [] _ N).mono ?_;rintro e u' b0 ⟨rfl,rfl,rfl⟩;have hh:=a6.out.t O;have H:=ar (o:=0) (v:=.int .i64 10) (aE (p:=.cells #[.int .i64 10] 181) N);simp[Leaves,settle,Qo,TD,go_sem,OA,H,HC.out];exact(hh.t (Nr _ _ Ns)).andThen (an _ _ _ _) (by rintro j e;cases e;exact .inl (by have:=HA.out;omega))
structure YOk(ps:Nu Par)(lim:NH):Prop where
 len:ps.length<=5
 each:∀p∈ps,1<=p.mn/\p.mn<=p.mx/\p.mx<=12/\0<=p.bears/\p.bears<=30/\1<=p.tall/\p.tall<=3
 l1:1<=lim
 l2:lim<=12
def YOk.chk{b:Nu Par}{a:NH}(h:YOk b a):dS b a=0:=by
 have e:=h.len;unfold dS;rw[if_neg (by omega),lS _ b (λi y d=>by
  have:=h.each y (Od d);have c:kE y=0:=by unfold kE;rw[if_pos (by omega),if_pos (by omega),if_neg (by omega),if_pos (by omega),if_pos (by omega)]
  simp[c])]
 exact if_pos ⟨h.l1,h.l2⟩
structure POk(ps:Nu Par)(lim:NH)(l:Nu NH):Prop where
 ok:∀x∈l,0<=x/\x<ps.length
 nd:l.Nodup
 tall:aN ps l<=lim
 len:l.length<=100
structure PIn(ps:Nu Par)(l:Nu NH):Prop where
 ok:∀x∈l,0<=x/\x<ps.length
 nd:l.Nodup
 len:l.length<=100
def POk.pin{b:Nu Par}{a:NH}{l:Nu NH}(h:POk b a l):PIn b l:=⟨h.ok,h.nd,h.len⟩
def POk.chk{b:Nu Par}{a:NH}{l:Nu NH}(h:POk b a l):ss b a l=0:=if_pos h.tall
def yr(O z:NA)(T qv:Ny)(d:Nu Par)(a:NH)(l:Nu NH)(w:Nt)(U:aD O z w T d)(V:aj O z w qv l)(e7:z<=w.heap.size)(C:YOk d a)(P:PIn d l) :Oz Ya 81 #[.agg #[T,a],qv] w λe w'=>e=.returned (.tuple #[.agg #[T,a],(ss d a l)])/\w.gb w' Ns:=by
 obtain⟨x,u,rfl,d8,-⟩:=U.cell;obtain⟨base,g5,rfl,e6,-⟩:=V.cell;have⟨A,w1,hA,B,n,r,G,e5⟩:=bY w (.cells #[.slice x d.length u,a] 24) (.cells #[.slice Ns 0 0,.int .i64 0] 91);have b6:=Np (V.kept n);have M:=Np (U.kept n);have⟨a6,HA,b9,a8,g6⟩:=nW B hA n G r;have S:=aa r (o:=0) rfl;have R:=aa r (o:=1) rfl;have e8:z<=A:=by omega
 have⟨X,s⟩:=aQ C P;clear U V C P B hA n G r;go_enter Tp.x81,Yl;go_upto_region 1 with(fail);rw[<- HA,<- a6];go_upto_region 4 with(go_at_call 52;refine(oY O z _ d a _ ⟨_,rfl,M⟩ (by omega)).mono ?_;rintro e Q ⟨rfl,L⟩;rw[X.chk];have c:=Np L;clear L);have p0:=c.out.cl S;have p1:=c.out.cl R;have e4:=c.out.size;clear S R;go_upto_region 5 with(fail);obtain⟨Y,i⟩:∃Y,Y=Q.heap.size:=⟨_,rfl⟩;obtain⟨y,f⟩:∃y,y=Q.alloc (.cells #[.slice x d.length u,a] 91):=⟨_,rfl⟩;have g:Q.gb y Ns:=by rw[f];exact Nr _ _ Ns
 have q:y.heap[Y]?=Nq (.cells #[.slice x d.length u,a] 91 (0,0)):=by rw[f,i];exact NL _ _
 have d9:y.heap.size=Y+1:=by rw[f,NW,i]
 rw[<- i,<- f];have S:=aa q (o:=0) rfl;have R:=aa q (o:=1) rfl;have h:=Np (bk g (blk c (by simp) a8));have N:=Np q;have b8:=Np ((b9.t c).t g);have b0:=Np ((b6.kept c).kept g);have a9:=Np ((M.kept c).kept g);have e9:A+1<Y:=by omega
 clear g q f i p0 p1;go_region_law
  (first
   | (go_simp;go_at_call 133;refine(iK O z _ _ d a l _ ⟨_,rfl,a9.kept (ai _ Ns)⟩ (b0.kept (ai _ Ns)) (by simp;omega) X.len s.ok s.nd (λp P=>by have:=X.out.each p P;omega) s.len).mono ?_;rintro e w4 ⟨rfl,I⟩;have b:=Np ((ai y Ns).t I);have r0:=aa (o:=0) (bk b N) rfl;have r1:=aa (o:=1) (bk b N) rfl;have s0:=aa (o:=0) (bk b h) rfl;have s1:=aa (o:=1) (bk b h) rfl;have f0:=aA (o:=0) (bk b h);have f1:=aA (o:=1) (bk b h);clear I))
 all_goals
  have D:=bk b h;obtain⟨W,k⟩:∃W,W=(w4.setCell (A+1:NA) (.slice x d.length u)).setCell ⟨A+1,1,Ns⟩ (.int .i64 a):=⟨_,rfl⟩;have F:W.heap[A+1]?=Nq (.cells #[.slice x d.length u,a] 91 (0,0)):=by rw[k,ar (ar D)];rfl
  have H:w.gb W Ns:=(b8.t b).andThen (row':=Nq (A+1)) (by rw[k];exact(an _ _ _ _).t (an _ _ _ _)) (by rintro j e;cases e;exact .inl (by have:=HA.out;omega));have⟨a7,b7,Z⟩:=bC F H k;clear D F H k;go_wp2;rw[<- Z];exact Qi (v:=.tuple #[.agg #[.slice x d.length u,a],(ss d a l)]) (by simp[Qo,Xf,go_sem,OA,a7.out]) rfl ⟨rfl,b7⟩
def jO(f d:NA)(b qv:Ny)(c:Nu Par)(a:NH)(l:Nu NH)(w:Nt)(n:aD f d w b c)(o:aj f d w qv l)(i:d<=w.heap.size)(g:YOk c a)(j:POk c a l) :Oz Ya 81 #[.agg #[b,a],qv] w λe k=>e=.returned (.tuple #[.agg #[b,a],.int .i64 0])/\w.gb k Ns:=by
 have h:=yr f d b qv c a l w n o i g j.pin
 rwa [j.chk] at h
def xk(a b:OI):NH:=if a != b then 3 else if a then 1 else 2
def xj(a b:OI)(w:Nt):Oz Ya 95 #[.bool a,.bool b] w λe c=>e=.returned (.int .i64 (xk a b))/\w=c:=by
 cases a<;>cases b;all_goals
  go_enter Tp.x95,Tryz.ntmps95;go_wp2;go_ret;exact⟨rfl,rfl⟩
def As(a b c d:NH)(w:Nt):Oz Ya 39 #[a,b,c,d] w λe y=>e=.returned (.agg #[a,b,c,d])/\w.gb y Ns:=by
 obtain⟨A,n⟩:∃A,A=w.heap.size:=⟨_,rfl⟩;obtain⟨i,f⟩:∃i,i=w.alloc (.cells #[.int .i64 0,.int .i64 0,.int .i64 0,.int .i64 0] 28):=⟨_,rfl⟩;have h:i.heap[A]?=Nq (.cells #[.int .i64 0,.int .i64 0,.int .i64 0,.int .i64 0] 28 (0,0)):=by rw[f,n];exact NL w _
 have u:w.gb i Ns:=by rw[f];exact Nr _ _ Ns
 have⟨x,q,z,B⟩:=cJ n f h u;have r0:=aa (o:=0) h rfl;have F:=aa (o:=1) h rfl;have D:=aa (o:=2) h rfl;have C:=aa (o:=3) h rfl;have G:∀o,i.frozen? ⟨A,o,Ns⟩=NC:=λo=>aA h;clear n f h u;go_enter Tp.x39,Tryz.ntmps39;go_upto_region 1 with(fail);rw[<- x,<- q];obtain⟨W,g⟩:∃W,W=(((i.setCell A (.int .i64 a)).setCell ⟨A,1,Ns⟩ (.int .i64 b)).setCell ⟨A,2,Ns⟩ (.int .i64 c)).setCell ⟨A,3,Ns⟩ (.int .i64 d):=⟨_,rfl⟩;have k:W.heap[A]?=Nq (.cells #[a,b,c,d] 28 (0,0)):=by rw[g,ar (ar (ar (ar z)))];rfl
 have l:w.gb W Ns:=B.out.andThen (row':=Nq A) (by rw[g];exact(((an _ _ _ _).t (an _ _ _ _)).t (an _ _ _ _)).t (an _ _ _ _)) (by rintro j e;cases e;exact .inl (by have:=x.out;omega));have⟨r,s,p⟩:=bC k l g;clear k l g;go_wp2;rw[<- p];exact Qi (v:=.agg #[a,b,c,d]) (by simp[Qo,Tryz.results39,go_sem,OA,r.out]) rfl ⟨rfl,s⟩
def bJ(n:NH):Nu Par:=[⟨8,10,n,2⟩,⟨4,6,6,2⟩,⟨2,3,3,1⟩,⟨5,5,0,1⟩]
def YOk.mn{a:Nu Par}{b:NH}(h:YOk a b)(i:NA):0<=pre Par.mn a a.length i/\pre Par.mn a a.length i<=1000:=by
 unfold pre;split
 ·rename_i c
  rw[ND c];have:=h.each _ (RL c);simp only;omega
 ·omega
def YOk.mx{a:Nu Par}{b:NH}(h:YOk a b)(i:NA):0<=pre Par.mx a a.length i/\pre Par.mx a a.length i<=1000:=by
 unfold pre;split
 ·rename_i c
  rw[ND c];have:=h.each _ (RL c);simp only;omega
 ·omega
def di(a:Nu Par)(l:Nu NH):NH:=xk (aC a (pre Par.mn a a.length) l) (aC a (pre Par.mx a a.length) l)
def CP(B k:NA)(pv qv:Ny)(c:Nu Par)(a:NH)(l:Nu NH)(w:Nt)(hP:aD B k w pv c)(hI:aj B k w qv l)(g9:k<=w.heap.size)(O:YOk c a)(hp:POk c a l) :Oz Ya 37 #[.agg #[pv,a],qv] w λe Z=>e=.returned (.tuple #[(di c l),.int .i64 0])/\w.gb Z Ns:=by
 obtain⟨y,x,rfl,g7,-⟩:=hP.cell;obtain⟨base,b9,rfl,g8,-⟩:=hI.cell;have⟨A,w1,hA,C,s,G⟩:=bI w (.cells #[.slice y c.length x,a] 24);have b0:w1.heap.size=A+1:=by rw[C,NW,hA]
 have U:=Np (hI.kept s);have T:=Np (hP.kept s);have⟨c3,HA,d7⟩:=bC C hA s;have q0:=aa G (o:=0) rfl;have q1:=aa G (o:=1) rfl;have h8:k<=A:=by omega
 have⟨M,I⟩:=aQ O hp;clear hP hI O hp C hA s G;go_enter Tp.x37,Tryz.ntmps37;go_upto_region 1 with(fail);rw[<- HA,<- c3];go_upto_region 2 with(go_at_call 81;refine(jO B k _ _ c a l _ T U (by omega) M I).mono ?_;rintro e w2 ⟨rfl,S⟩;have v:=Np S;clear S);have a9:=v.out.size;obtain⟨Y,q⟩:∃Y,Y=w2.heap.size:=⟨_,rfl⟩;obtain⟨g,j⟩:∃g,g=w2.alloc (.cells #[.slice y c.length x,a] 91):=⟨_,rfl⟩;have r:w2.gb g Ns:=by rw[j];exact Nr _ _ Ns
 have u:g.heap[Y]?=Nq (.cells #[.slice y c.length x,a] 91 (0,0)):=by rw[j,q];exact NL _ _
 have a8:g.heap.size=Y+1:=by rw[j,NW,q]
 rw[<- q,<- j];clear q0 q1;have s0:=aa u (o:=0) rfl;have s1:=aa u (o:=1) rfl;have d:=Np u;have d6:=Np ((d7.t v).t r);have d5:=Np ((U.kept v).kept r);have c8:=Np ((T.kept v).kept r);have h9:A<Y:=by omega
 have n:k<=g.heap.size:=by omega
 clear r u j q b0 a9 a8;go_upto_region 4 with(fail);have b:=Np (NN g Ns);have N:∀W,g.gb W Ns->dh B k W (.agg #[.slice y c.length x,a]) c a:=λW h=>⟨_,rfl,c8.kept h⟩;have P:∀W,g.gb W Ns->aj B k W (.slice base l.length b9) l:=λW h=>d5.kept h;have⟨H,c9⟩:=aQ N P;clear N P;have SC:=Np (NY s0 s1);obtain⟨L,F⟩:∃L,L=pre Par.mn c c.length:=⟨_,rfl⟩;obtain⟨gx,D⟩:∃gx,gx=pre Par.mx c c.length:=⟨_,rfl⟩;have R:∀i,0<=L i/\L i<=1000:=by rw[F];exact M.mn
 have Q:∀i,0<=gx i/\gx i<=1000:=by rw[D];exact M.mx
 have⟨X,V,d9,d8⟩:=cJ F D R Q;clear F D R Q;go_region_held3 (λZ=>Z.cell? Y=Nq (.slice y c.length x)/\Z.cell? ⟨Y,1,Ns⟩=Nq (.int .i64 a))
  (first | exact SC)
  (first
   | (go_at_call 93;refine(lO B k _ c a _ (H _ (by first | exact b | exact b.t (ai _ _))) (NM n (by first | exact b.size | exact(b.t (ai _ Ns)).size)) M.len).mono ?_;rintro e f ⟨rfl,p⟩;rw[<- X];replace b:=Np (show g.gb f Ns by first | exact b.t p | exact(b.t (ai _ _)).t p);replace SC:=Np (show f.cell? Y=Nq (.slice y c.length x)/\f.cell? ⟨Y,1,Ns⟩=Nq (.int .i64 a) from⟨aa (bk b d) rfl,aa (bk b d) rfl⟩);clear p)
   | (go_at_call 92;refine(kZ B k _ c a _ (H _ (by first | exact b | exact b.t (ai _ _))) (NM n (by first | exact b.size | exact(b.t (ai _ Ns)).size)) M.len).mono ?_;rintro e f ⟨rfl,p⟩;rw[<- V];replace b:=Np (show g.gb f Ns by first | exact b.t p | exact(b.t (ai _ _)).t p);replace SC:=Np (show f.cell? Y=Nq (.slice y c.length x)/\f.cell? ⟨Y,1,Ns⟩=Nq (.int .i64 a) from⟨aa (bk b d) rfl,aa (bk b d) rfl⟩);clear p)
   | (go_at_call 96;refine(gT B k _ _ c a l _ _ (H _ (by first | exact b | exact b.t (ai _ _))) (c9 _ (by first | exact b | exact b.t (ai _ _))) (NM n (by first | exact b.size | exact(b.t (ai _ Ns)).size)) M.len I.ok (by have:=I.out.len;omega) (by first | exact d9 | exact d8)).mono ?_;rintro e f ⟨rfl,p⟩;replace b:=Np (show g.gb f Ns by first | exact b.t p | exact(b.t (ai _ _)).t p);replace SC:=Np (show f.cell? Y=Nq (.slice y c.length x)/\f.cell? ⟨Y,1,Ns⟩=Nq (.int .i64 a) from⟨aa (bk b d) rfl,aa (bk b d) rfl⟩);clear p)
   | (go_at_call 95;refine(xj _ _ _).mono ?_;rintro e f ⟨rfl,rfl⟩))
 have HV:=Np (show di c l=xk (aC c L l) (aC c gx l) by rw[X,V];rfl);generalize xk (aC c L l) (aC c gx l)=z at HV ⊢;go_wp2;go_ret2;exact⟨by rw[HV];rfl,d6.t b⟩
def cR(a:Nu Par)(g:NA->NH)(l:Nu NH):NA->NH
 | 0=>30
 | k+1=>match a[(l[k]?.getD 0).toNat]? with | some p=>min (cR a g l k) (p.bears - loadAt g l k) | none=>cR a g l k
def uh(S C:NA)(yv pv:Ny)(c:Nu Par)(r:NH)(l:Nu NH)(g:NA->NH)(w:Nt)(hY:dh S C w yv c r)(Y:aj S C w pv l)(k9:C<=w.heap.size)(h5:c.length<=5)(u:∀x∈l,0<=x/\x<c.length)(hl:l.length<=1000)(hg:∀i,0<=g i/\g i<=1000)(hb:∀p∈c,0<=p.bears/\p.bears<=1000) :Oz Ya 94 #[yv,pv,wts g] w λe w'=>e=.returned (.int .i64 (cR c g l l.length))/\w.gb w' Ns:=by
 obtain⟨qv,rfl,X⟩:=hY;obtain⟨yb,yc,rfl,g9,-⟩:=X.cell;obtain⟨base,m7,rfl,k8,-⟩:=Y.cell;have⟨A,w1,hA,y,q,f,b,k5⟩:=bY w (.cells #[.slice yb c.length yc,r] 91) (aT g);have N:=Np (Y.kept q);have a6:=Np (X.kept q);have⟨HX,O,Z,HA,a7,n2⟩:=rS u hg y hA q f;have q0:=aa f (o:=0) rfl;have q1:=aa f (o:=1) rfl;have r0:=aB b (show 0<5 by omega);have r1:=aB b (show 1<5 by omega);have r2:=aB b (show 2<5 by omega);have r3:=aB b (show 3<5 by omega);have r4:=aB b (show 4<5 by omega);have l4:C<=A:=by omega
 clear Y X u hg y hA q f b;unfold wts;go_enter Tp.x94,Tryz.ntmps94;go_upto_region 2 with(fail);rw[<- HA,show(w.alloc (.cells #[.slice yb c.length yc,r] 91)).alloc (.cells #[(g 0),(g 1),(g 2),(g 3),(g 4)] 101)=w1 from Z.symm];go_wp2_with (go_at_call 91;(refine(lN S C _ _ l g _ N (by omega) (by intro x u;have:=HX.out x u;omega) hl O ⟨_,_,rfl⟩).mono ?_);rintro e w2 ⟨lv,rfl,G,n⟩;have d:=n.cell;rw[gH] at d;obtain⟨lb,lc,rfl,-,d⟩:=d;have a9:=Np d;clear d;have h:=Np G;have m9:=Np n;clear G n);have R:=h.out.cl q0;have k0:=h.out.size;clear r0 r1 r2 r3 r4 q0 q1;have b0:=Np hb;clear hb;go_loopw [7,15] (λnv T wr=>∃k:NA,T=.int .i64 k/\k<=l.length/\nv=.int .i64 (cR c g l k)/\w2.gb wr Ns) (λ_ T _=>(l.length - OP T).toNat)
 case atStart=>exact⟨0,rfl,by omega,rfl,NN _ _⟩
 case round=>
  obtain⟨k,rfl,hk,rfl,v⟩:=hrel;have HG:=Np v;have g6:=v.cl R;have h9:=v.size;by_cases a:k<l.length
  ·have L:=(N.kept h).kept v;have I:=(a6.kept h).kept v;obtain⟨b1,c1,W,-,Q⟩:=L.cell;cases W;obtain⟨B,o,rfl,f,m6,m5,H⟩:=Q (by intro e;rw[e] at a;simp at a);have u:=H k a;obtain⟨x,j⟩:∃x,l[k]?=Nq x:=⟨_,ND a⟩;have⟨h8,s⟩:=HX.out x (Od j);rw[j] at u;simp only[NK] at u;obtain⟨m,rfl⟩:∃m:NA,x=m:=⟨x.toNat,by omega⟩;obtain⟨b2,c2,W,-,Q⟩:=I.cell;cases W;obtain⟨YB,yo,rfl,l8,l7,l6,D⟩:=Q (by intro e;rw[e] at s;simp at s;omega);have⟨p,U,p0,p1,p2,p3⟩:=D m (by omega);obtain⟨LB,g8,rfl,m4,n,m3,F⟩:=a9.out (by intro e;have:=gH g l;rw[e] at this;simp at this;omega);have z:=HG.out.cl (F k a);rw[qx g l k a] at z;have P:cR c g l (k+1)=min (cR c g l k) (p.bears - loadAt g l k):=by simp[cR,j,U]
   have l5:=b0.out p (Od U);have V:=uK g l k O hl;have k7:(m:NH)<(c.length:NH):=s;generalize loadAt g l k=ld at z P V;generalize cR c g l k=S0 at P;obtain⟨M,hM⟩:∃M,min S0 (p.bears - ld)=M:=⟨_,rfl⟩;have k6:(if p.bears - ld<S0 then p.bears - ld else S0)=M:=by rw[<- hM];omega
   have HS:=Np (P.t hM);clear v L I Q H D F j U P;go_upto_region 5 with(fail);go_quiet (fail);go_wp2;go_roundw
   case rel=>exact⟨k+1,by simp,by omega,by rw[HS],HG.t (ax _ _ _)⟩
   case measure=>simp[OP];omega
  ·obtain rfl:k=l.length:=by omega
   clear v;go_wp2;go_ret;exact⟨rfl,(a7.t h).t HG⟩
def dH(Q X P W:NA)(C B:Ny)(a b:Nu NH)(w:Nt)(F:aj Q X w C a)(D:aj P W w B b) :Oz Ya 31 #[C,B] w λe O=>e=.returned (.bool (decide (a=b)))/\w.gb O Ns:=by
 obtain⟨ba,ca,rfl,T,p⟩:=F.cell;obtain⟨bb,cb,rfl,S,G⟩:=D.cell;have⟨H1,H2⟩:=aQ p G;clear p G F D;by_cases c:a.length=b.length
 ·have H:=Np c;have h:((a.length:NH) != (b.length:NH))=NC:=by rw[c];simp
  clear c;go_enter Tp.x31,WC;go_wp2;go_loopw [5] (λu wr=>∃k:NA,u=.int .i64 k/\k<=a.length/\(∀i,i<k->a[i]?=b[i]?)/\w.gb wr Ns) (λu _=>(a.length - OP u).toNat)
  case atStart=>exact⟨0,rfl,by omega,λi s=>absurd s (by omega),NN _ _⟩
  case round=>
   obtain⟨k,rfl,hk,j,l⟩:=hrel;have⟨r,A⟩:=aQ j l;clear j;by_cases f:k<a.length
   ·have d:k<b.length:=by have:=H.out;omega
    obtain⟨A1,o1,rfl,a9,a8,a7,o⟩:=H1.out (by intro e;rw[e] at f;simp at f);obtain⟨B1,o2,rfl,a6,Z,Y,n⟩:=H2.out (by intro e;rw[e] at d;simp at d);have N:=l.cl (o k f);have M:=l.cl (n k d);have z:a[k]?=Nq (a[k]?.getD 0):=by simp[ND f]
    have v:b[k]?=Nq (b[k]?.getD 0):=by simp[ND d]
    generalize a[k]?.getD 0=x at N z;generalize b[k]?.getD 0=y at M v;have U:(k:NH)<(b.length:NH):=by omega
    have V:(k:NH)<(a.length:NH):=by omega
    have⟨L,I⟩:=aQ z v;clear o n l z v;by_cases g:x=y
    ·subst g;go_upto_region 6 with(fail);go_quiet (fail);go_wp2;go_roundw
     case rel=>
      refine⟨k+1,by simp,by omega,λi s=>?_,A.t (ax _ _ _)⟩;by_cases e:i=k
      ·rw[e,L,I]
      ·exact r i (by omega)
     case measure=>simp[OP];omega
    ·have q:=Np (show decide (a=b)=NC by
      rw[decide_eq_false_iff_not];intro e;have p:=L.out;rw[e,I] at p;exact g (by cases p;rfl))
     have R:(x != y)=NB:=by simp[g]
     go_upto_region 6 with(fail);go_quiet (fail);go_wp2;go_ret;exact⟨by rw[q];rfl,A.t (ax _ _ _)⟩
   ·obtain rfl:k=a.length:=by omega
    have q:=Np (show decide (a=b)=NB by
     rw[decide_eq_true_eq];refine RO λi=>?_;by_cases s:i<a.length
     ·exact r i s
     ·rw[OO (by omega),OO (by have:=H.out;omega)])
    clear l;go_wp2;go_ret;exact⟨by rw[q];rfl,A⟩
 ·have q:=Np (show decide (a=b)=NC by
   rw[decide_eq_false_iff_not];intro e;exact c (by rw[e]))
  have h:((a.length:NH) != (b.length:NH))=NB:=by simp;omega
  clear c;go_enter Tp.x31,WC;go_wp2;go_ret;exact⟨by rw[q];rfl,NN _ _⟩
def bg(w:Nt)(b g:NA):Prop :=
 ∃(base:NO OX) (len cap:NA) (g':NA) (s:NH),g'<=g/\w.heap[b]?=Nq (.cells #[.slice base len cap,g',.int .u64 s] 89 (0,0))/\(len:NH)<=9223372036854775807 /\
  (0<len->∃a c,base=Nq ⟨a,c,Ns⟩/\a<b/\∀i,i<len->∃x,w.cell? ⟨a,c+i,Ns⟩=Nq (.int .i64 x))
def bg.mono{w:Nt}{b g d:NA}(h:bg w b g)(f:g<=d):bg w b d:=by
 obtain⟨base,a,c,k,s,e,r⟩:=h;exact⟨base,a,c,k,s,by omega,r⟩
def xE{w:Nt}{b g:NA}{base:NO OX}{a d:NA}{s s':NH}{z:Ny}(q:w.heap[b]?=Nq (.cells #[.slice base a d,g,.int .u64 s] 89 (0,0)))(n:(a:NH)<=9223372036854775807)(k:0<a->∃f h,base=Nq ⟨f,h,Ns⟩/\f<b/\∀i,i<a->∃x,w.cell? ⟨f,h+i,Ns⟩=Nq (.int .i64 x))(nq:NA) :w.gb ((((w.drewN nq).setCell ⟨b,1,Ns⟩ (.int .i64 (g+1))).setCell ⟨b,2,Ns⟩ z).setCell ⟨b,2,Ns⟩ (.int .u64 s')).drew (Nq b) /\bg ((((w.drewN nq).setCell ⟨b,1,Ns⟩ (.int .i64 (g+1))).setCell ⟨b,2,Ns⟩ z).setCell ⟨b,2,Ns⟩ (.int .u64 s')).drew b (g+1) /\((((w.drewN nq).setCell ⟨b,1,Ns⟩ (.int .i64 (g+1))).setCell ⟨b,2,Ns⟩ z).setCell ⟨b,2,Ns⟩ (.int .u64 s')).drew.heap.size=w.heap.size:=by
 refine⟨((((ax w nq _).t (an _ b 1 _)).t (an _ b 2 _)).t (an _ b 2 _)).t (ai _ _),?_,by simp[Qq,World.drewN,World.drew]⟩;have u:(w.drewN nq).heap[b]?=Nq (.cells #[.slice base a d,g,.int .u64 s] 89 (0,0)):=q;have r:=ar (o:=2) (v:=.int .u64 s') (ar (o:=2) (v:=z) (ar (o:=1) (v:=.int .i64 (g+1)) u));refine⟨base,a,d,g+1,s',Nv _,by simpa[World.drew] using r,n,λl=>?_⟩;have⟨f,h,B,A,y⟩:=k l;refine⟨f,h,B,A,λi p=>?_⟩;have⟨x,j⟩:=y i p;refine⟨x,?_⟩;have c:∀o,(⟨b,o,Ns⟩:OX)≠⟨f,h+i,Ns⟩:=λo e=>by cases e;omega
 show OA ((((w.drewN nq).setCell ⟨b,1,Ns⟩ (.int .i64 (g+1))).setCell ⟨b,2,Ns⟩ z).setCell ⟨b,2,Ns⟩ (.int .u64 s')) _=_;rw[PQ _ _ _ _ (c _),PQ _ _ _ _ (c _),PQ _ _ _ _ (c _)];exact j
def bg.lt{w:Nt}{b g:NA}(h:bg w b g):b<w.heap.size:=by
 obtain⟨_,_,_,_,_,_,a,_⟩:=h;exact(Nz.1 a).1
def bg.kept{w w':Nt}{b g:NA}{row:NO NA}(h:bg w b g)(p:w.gb w' row)(o:∀B,row=Nq B->b<B:=by simp):bg w' b g:=by
 have j:=h.lt;have f:Nq b≠row:=λe=>by have:=o b e.symm;omega
 obtain⟨base,a,k,D,s,z,C,y,d⟩:=h;refine⟨base,a,k,D,s,z,(p.block b j f).t C,y,λu=>?_⟩;have⟨l,q,H,G,F⟩:=d u;exact⟨l,q,H,G,λi A=>(F i A).imp λx r=>p.cell r (λe=>by have:=o l e.symm;omega)⟩
def bg.alloc{w:Nt}{b g:NA}(h:bg w b g)(o:Obj):bg (w.alloc o) b g:=h.kept (Nr w o Ns)
def bg.set{w:Nt}{b g X o:NA}{v:Ny}(h:bg w b g)(a:b<X):bg (w.setCell ⟨X,o,Ns⟩ v) b g:=h.kept (an w X o v) (by rintro B e;cases e;exact a)
def KC{w d:Nt}{b B e a n:NA}{v:Ny}{c:Nu Ny}(f:w.gb d (Nq b))(h:w.ownsRow B e a v n c)(g:b<B):d.ownsRow B e a v n c :=
 h.kept f (by
  by_cases e:v.ownBlock=Nq b
  ·have:=(h.lt b e).1;omega
  ·exact .inr e)
def AL{w d c:Nt}{b:NA}{a:NO NA}(h:w.gb d (Nq b))(k:d.gb c a)(f:∀j,a=Nq j->w.heap.size<=j):w.gb c (Nq b) :=
 h.andThen k λj e=>.inl (f j e)
def Tn(b g:NA)(w a:Nt):Prop:=w.gb a (Nq b)/\bg a b g
def mo(k:IntKind)(b g:NA)(w:Nt)(p:NH->Prop)(e:Ending)(a:Nt):Prop:=∃r,p r/\e=.returned (.int k r)/\Tn b g w a/\a.heap.size=w.heap.size
def Iz(x:NH):0<=IntKind.u64.wrap x/\IntKind.u64.wrap x<18446744073709551616:=by
 have h:IntKind.u64.bits=64:=rfl;have a:IntKind.u64.signed=NC:=rfl;simp only[IntKind.wrap,h,a];constructor
 ·simp;omega
 ·simp;omega
def JW(a:BinOp)(x y:NH):0<=Wy a .u64 x y/\Wy a .u64 x y<18446744073709551616:=by
 unfold Wy;exact Iz _
def LQ(x y:NH):0<=Wy .xor .u64 x y / 512/\Wy .xor .u64 x y / 512<36028797018963968:=by
 have:=JW .xor x y;omega
def EU(b:NA)(j h:NA)(a f:NA)(g:NA)(s x:NH)(w:Nt)(y:g<4611686018427387904)(c:w.heap[b]?=Nq (.cells #[.slice (Nq ⟨j,h,Ns⟩) a f,g,.int .u64 s] 89 (0,0)))(q:(a:NH)<=9223372036854775807)(p:g<a)(k:0<a->∃d e,(Nq ⟨j,h,Ns⟩:NO OX)=Nq ⟨d,e,Ns⟩/\d<b/\∀i,i<a->∃x,w.cell? ⟨d,e+i,Ns⟩=Nq (.int .i64 x))(A:w.cell? ⟨j,h+g,Ns⟩=Nq (.int .i64 x)) :Oz Ya 125 #[.pointer (Nq b)] w (mo .u64 b (g+1) w λu=>0<=u/\u<36028797018963968):=by
 have C:w.cell? b=Nq (.slice (Nq ⟨j,h,Ns⟩) a f):=by simp[OA,c]
 have B:w.cell? ⟨b,1,Ns⟩=Nq (.int .i64 g):=by simp[OA,c]
 have r:w.cell? ⟨b,2,Ns⟩=Nq (.int .u64 s):=by simp[OA,c]
 have f1:w.frozen? ⟨b,1,Ns⟩=NC:=by simp[RN,c]
 have f2:w.frozen? ⟨b,2,Ns⟩=NC:=by simp[RN,c]
 have n:(g:NH)<(a:NH):=by omega
 have t:∀(nq:NA) (u v z:Ny),((((w.drewN nq).setCell ⟨b,1,Ns⟩ u).setCell ⟨b,2,Ns⟩ v).setCell ⟨b,2,Ns⟩ z).cell? ⟨b,2,Ns⟩=Nq z:=by
  intro nq u v z;refine Tg _ _ _ (u:=v) ?_;refine Tg _ _ _ (u:=.int .u64 s) ?_;rw[PQ _ _ _ _ (by simp)];simpa using r
 have o:=λnq z s'=>xE (z:=z) (s':=s') c q k nq;have⟨l,F,D⟩:=bC o c k;clear o c k;go_enter Tp.x125,Zp;go_wp2;go_quiet (fail);go_wp2;go_quiet (fail);go_wp2;go_region;all_goals go_wp2
 all_goals go_ret
 all_goals exact⟨_,LQ _ _,rfl,⟨(l _ _ _).1,(l _ _ _).2.1⟩,(l _ _ _).2.2⟩
def EV(b:NA)(base:NO OX)(a f:NA)(g:NA)(s:NH)(w:Nt)(r:g<4611686018427387904)(c:w.heap[b]?=Nq (.cells #[.slice base a f,g,.int .u64 s] 89 (0,0)))(o:(a:NH)<=9223372036854775807)(n:¬ g<a)(h:0<a->∃d e,base=Nq ⟨d,e,Ns⟩/\d<b/\∀i,i<a->∃x,w.cell? ⟨d,e+i,Ns⟩=Nq (.int .i64 x)) :Oz Ya 125 #[.pointer (Nq b)] w (mo .u64 b (g+1) w λu=>0<=u/\u<36028797018963968):=by
 have y:w.cell? b=Nq (.slice base a f):=by simp[OA,c]
 have t:w.cell? ⟨b,1,Ns⟩=Nq (.int .i64 g):=by simp[OA,c]
 have p:w.cell? ⟨b,2,Ns⟩=Nq (.int .u64 s):=by simp[OA,c]
 have f1:w.frozen? ⟨b,1,Ns⟩=NC:=by simp[RN,c]
 have f2:w.frozen? ⟨b,2,Ns⟩=NC:=by simp[RN,c]
 have k:(a:NH)<=(g:NH):=by omega
 have q:∀(nq:NA) (u v z:Ny),((((w.drewN nq).setCell ⟨b,1,Ns⟩ u).setCell ⟨b,2,Ns⟩ v).setCell ⟨b,2,Ns⟩ z).cell? ⟨b,2,Ns⟩=Nq z:=by
  intro nq u v z;refine Tg _ _ _ (u:=v) ?_;refine Tg _ _ _ (u:=.int .u64 s) ?_;rw[PQ _ _ _ _ (by simp)];simpa using p
 have l:=λnq z s'=>xE (z:=z) (s':=s') c o h nq;have⟨j,B,A⟩:=bC l c h;clear l c h;go_enter Tp.x125,Zp;go_wp2;go_quiet (fail);go_wp2;go_region;all_goals go_wp2
 all_goals go_ret
 all_goals exact⟨_,LQ _ _,rfl,⟨(j _ _ _).1,(j _ _ _).2.1⟩,(j _ _ _).2.2⟩
def tO(b g:NA)(w:Nt)(q:bg w b g)(B:g<4611686018427387904) :Oz Ya 125 #[.pointer (Nq b)] w (mo .u64 b (g+1) w λu=>0<=u/\u<36028797018963968):=by
 obtain⟨base,a,f,d,s,A,k,j,i⟩:=q;have fin:∀e h,mo .u64 b (d+1) w (λu=>0<=u/\u<36028797018963968) e h->mo .u64 b (g+1) w (λu=>0<=u/\u<36028797018963968) e h:=by
  rintro e h ⟨r,y,v,l,t⟩;exact⟨r,y,v,⟨l.1,l.2.mono (by omega)⟩,t⟩
 by_cases c:d<a
 ·obtain⟨o,n,rfl,C,z⟩:=i (by omega);have⟨x,p⟩:=z d c;exact(EU b o n a f d s x w (by omega) k j c i p).mono fin
 ·exact(EV b base a f d s w (by omega) k j c i).mono fin
def Ex(b:NA)(w:Nt)(v:Ny)(l:Nu NH):Prop :=
 ∃base a,v=.slice base l.length a/\(l.length:NH)<=9223372036854775807/\(l≠[]->∃B o,base=Nq ⟨B,o,Ns⟩/\B≠b/\B<w.heap.size/\∀i,i<l.length->w.cell? ⟨B,o+i,Ns⟩=Nq (.int .i64 (l[i]?.getD 0)))
def Ex.laid{b:NA}(w:Nt)(l:Nu NH)(n:NA)(c:n=l.length)(f:b<w.heap.size)(e:l.length<=1000)(a:NA × NA:=(0,0)) :Ex b (w.alloc (.cells (l.map (Og .i64)).toArray 3 a)) (.slice (Nq w.heap.size) n n) l:=by
 subst c;refine⟨_,_,rfl,by omega,λ_=>⟨w.heap.size,0,rfl,by omega,by simp,λi d=>?_⟩⟩;have:=NL w (.cells (l.map (Og .i64)).toArray 3 a);unfold OA;rw[this];simp[ND d]
def Ja{u n:NH}(_:0<=u)(a:0<=n):0<=u % (n+1)/\u % (n+1)<=n:=by
 have c:=Int.emod_nonneg u (show n+1≠0 by omega);have b:=Int.emod_lt_of_pos u (show 0<n+1 by omega);omega
def EJ(b g:NA)(n:NH)(w:Nt)(d:bg w b g)(k:g<4611686018427387904)(p:n<1) :Oz Ya 68 #[.pointer (Nq b),n] w (mo .i64 b (g+1) w λr=>r=0):=by
 have l:=Np d;clear d;go_enter Tp.x68,ZL;go_wp2_with (go_at_call 125;refine(tO b g _ l k).mono ?_;rintro e o ⟨u,⟨j,i⟩,rfl,h,f⟩;have c:=Np h;have a:=Np f;clear h f);go_ret;exact⟨0,rfl,rfl,c,a⟩
def EK(b g:NA)(n:NH)(w:Nt)(f:bg w b g)(k:g<4611686018427387904)(q:1<=n)(hm:n<=1000000000) :Oz Ya 68 #[.pointer (Nq b),n] w (mo .i64 b (g+1) w λr=>0<=r/\r<=n):=by
 have o:=Np f;clear f;go_enter Tp.x68,ZL;go_wp2_with (go_at_call 125;refine(tO b g _ o k).mono ?_;rintro e p ⟨u,⟨a,j⟩,rfl,i,h⟩;have d:=Np i;have c:=Np h;clear i h);go_ret;have l:=Ja a (show 0<=n by omega);refine⟨_,?_,rfl,d,c⟩;rw[IntWalk.wrap64_in (u % (n+1)) ⟨by omega,by omega⟩];exact l
def gJ(b g:NA)(n:NH)(w:Nt)(c:bg w b g)(d:g<4611686018427387904)(hm:n<=1000000000) :Oz Ya 68 #[.pointer (Nq b),n] w (mo .i64 b (g+1) w λr=>0<=r/\(r<=n\/r=0)):=by
 by_cases h:n<1
 ·refine(EJ b g n w c d h).mono ?_;rintro e f ⟨r,i,a⟩;exact⟨r,by omega,a⟩
 ·refine(EK b g n w c d (by omega) hm).mono ?_;rintro e f ⟨r,i,a⟩;exact⟨r,by omega,a⟩
def kJ(b g:NA)(a c:NH)(w:Nt)(h:bg w b g)(o:g<4611686018427387904)(y:-1000000000<=a)(x:a<=400000000)(v:-400000000<=c)(t:c<=400000000)(s:c - a<=1000000000) :Oz Ya 70 #[.pointer (Nq b),a,c] w (mo .i64 b (g+1) w λr=>a<=r/\(r<=c\/r=a)):=by
 have p:=Np h;clear h;go_enter Tp.x70,Tryz.ntmps70;go_wp2_with (go_at_call 68;refine(gJ b g _ _ p o (by omega)).mono ?_;rintro e q ⟨u,⟨n,l⟩,rfl,j,i⟩;have f:=Np j;have d:=Np i;clear j i;have k:u<=1400000000:=by omega);go_ret;refine⟨_,?_,rfl,f,d⟩;omega
def kM(b g:NA)(v:Ny)(l:Nu NH)(w:Nt)(h:bg w b g)(A:g<4611686018427387904)(y:Ex b w v l)(a:0<l.length)(hm:l.length<=1000) :Oz Ya 90 #[.pointer (Nq b),v] w (mo .i64 b (g+1) w λr=>r∈l):=by
 obtain⟨base,D,rfl,x,i⟩:=y;obtain⟨B,o,rfl,C,I,n⟩:=i (by intro e;rw[e] at a;simp at a);have⟨F,G⟩:=aQ h n;clear h n i;go_enter Tp.x90,Tryz.ntmps90;go_wp2_with (go_at_call 68;refine(gJ b g _ _ F A (by omega)).mono ?_;rintro e s ⟨u,⟨d,t⟩,rfl,q,p⟩;have c:=Np q;have f:=Np p;clear q p;obtain⟨k,rfl⟩:=Int.eq_ofNat_of_zero_le d;(have j:k<l.length:=by omega);(have z:(k:NH)<(l.length:NH):=by omega);(have H:s.cell? ⟨B,o+k,Ns⟩=Nq (.int .i64 (l[k]?.getD 0)):=c.out.1.cell (G k j) (λe=>C (by cases e;rfl))));go_ret;refine⟨_,?_,rfl,c,f⟩;simp[ND j]
def xy(b g:NA)(n:NH)(w:Nt)(f:bg w b g)(l:g<4611686018427387904)(q:1<=n)(p:n<=1000) :Oz Ya 69 #[.pointer (Nq b),n] w λe a=>(∃t:OI,e=.returned (.bool t))/\Tn b (g+1) w a/\a.heap.size=w.heap.size:=by
 have o:=Np f;clear f;go_enter Tp.x69,Tryz.ntmps69;go_wp2_with (go_at_call 68;refine(gJ b g _ _ o l (by omega)).mono ?_;rintro e a ⟨u,⟨k,j⟩,rfl,i,h⟩;have d:=Np i;have c:=Np h;clear i h);go_ret;exact⟨⟨_,rfl⟩,d,c⟩
def Ay(base:NO OX)(a c:NA)(w:Nt)(o:(a:NH)<=9223372036854775807)(k:0<a->∃b d,base=Nq ⟨b,d,Ns⟩/\∀i,i<a->∃x,w.cell? ⟨b,d+i,Ns⟩=Nq (.int .i64 x)) :Oz Ya 24 #[.slice base a c] w λe j=>e=.returned (.pointer (Nq w.heap.size))/\w.gb j Ns/\bg j w.heap.size 0:=by
 have q:=Np k;clear k;go_enter Tp.x24,Tryz.ntmps24;go_wp2;go_ret;refine⟨rfl,Nr _ _ _,base,a,c,0,7640891576956012809,Nv _,NL _ _,o,λl=>?_⟩;have⟨b,d,e,h⟩:=q.out l;have⟨r,f⟩:=h 0 l;have g:b<w.heap.size:=block_lt_of_cell f;refine⟨b,d,e,g,λi p=>?_⟩;have⟨x,n⟩:=h i p;exact⟨x,(Nr w _ Ns).cl n⟩
structure zF(p:Par):Prop where
 a:1<=p.mn
 b:p.mn<=8
 c:p.mn<=p.mx
 d:p.mx<=p.mn+2
 e:0<=p.bears
 f:p.bears<=30
 g:1<=p.tall
 h:p.tall<=2
def Mi(p:Par):Ny:=.agg #[p.mn,p.mx,p.bears,p.tall]
def vz{w c a:Nt}{b g:NA}(h:w.gb c (Nq b))(k:Tn b g c a):w.gb a (Nq b):=h.t k.1
def vR(b g:NA)(w:Nt)(H:bg w b g)(hg:g<1000000):Oz Ya 62 #[.pointer (Nq b)] w λe X=>∃p,zF p/\e=.returned (Mi p)/\Tn b (g+7) w X:=by
 obtain⟨Z,C⟩:∃Z,Z=w.heap.size:=⟨_,rfl⟩;have I:b<Z:=by rw[C];exact H.lt
 obtain⟨y,n⟩:∃y,y=w.alloc (.cells #[.int .i64 0,.int .i64 0,.int .i64 0,.int .i64 0] 28):=⟨_,rfl⟩;have Q:y.heap[Z]?=Nq (.cells #[.int .i64 0,.int .i64 0,.int .i64 0,.int .i64 0] 28 (0,0)):=by rw[n,C];exact NL w _
 have R:w.gb y (Nq b):=by rw[n];exact Nr _ _ _
 have l:=Np (show bg y b g by rw[n];exact H.alloc _);have⟨S,M,c,q⟩:=cJ C n Q R;clear C n Q R H;go_enter Tp.x62,Tryz.ntmps62;go_upto_region 1 with(fail);rw[<- S,<- M];go_upto_region 2 with(go_at_call 70;refine(kJ b g 1 8 _ l (by omega) (by omega) (by omega) (by omega) (by omega) (by omega)).mono ?_;rintro e V ⟨s,a8,rfl,a,-⟩;replace c:=Np (blk a.1 (by simp;omega) c);replace q:=Np (vz q a);replace l:=Np a.2;clear a);have i:Z≠b:=by omega
 go_wp2_with (fail);refine(kM b (g+1) _ [0,0,1,2] _ (l.alloc _) (by omega) (Ex.laid _ [0,0,1,2] 4 rfl l.lt (by decide)) (by decide) (by decide)).mono ?_;rintro e w3 ⟨k,P,rfl,a,-⟩;simp only[ON,PY,or_false] at P;have d:=Nr V (.cells #[.int .i64 0,.int .i64 0,.int .i64 1,.int .i64 2] 3) (Nq b);replace c:=Np (blk a.1 (by simpa using i) (blk d (by simpa using i) c));replace q:=Np ((q.t d).t a.1);replace l:=Np a.2;clear a d;have a9:0<=k/\k<=2:=by omega
 clear P;go_wp2_with (go_at_call 68;refine(gJ b _ _ _ l (by omega) (by omega)).mono ?_;rintro e U ⟨u,Y,rfl,a,-⟩;replace c:=Np (blk a.1 (by simpa using i) c);replace q:=Np (vz q a);replace l:=Np a.2;clear a)
 rename_i u1 G wx u2 D wy wz
 refine(kM b (g+1+1+1+1+1) _ [0,u1,u2,u] _ (l.alloc _) (by omega) (Ex.laid _ [0,u1,u2,u] 4 rfl l.lt (by simp)) (by simp) (by simp)).mono ?_;rintro e w7 ⟨r,O,rfl,a,-⟩;simp only[ON,PY,or_false] at O;have d:=Nr U (.cells #[.int .i64 0,u1,u2,u] 3) (Nq b);replace c:=Np (blk a.1 (by simpa using i) (blk d (by simpa using i) c));replace q:=Np ((q.t d).t a.1);replace l:=Np a.2;clear a d;have a7:0<=r/\r<=30:=by omega
 clear O Y G D;have f:=λ(T:Nt) (h:T.heap[Z]?=Nq (.cells #[.int .i64 0,.int .i64 0,.int .i64 0,.int .i64 0] 28 (0,0))) (o:NA)=>aA (o:=o) h;have F:=Np f;clear f;go_wp2_with (go_at_call 70;refine(kJ b _ 1 2 _ l (by omega) (by omega) (by omega) (by omega) (by omega) (by omega)).mono ?_;rintro e N ⟨A,a6,rfl,a,-⟩;replace c:=Np (blk a.1 (by simpa using i) c);replace q:=Np (vz q a);replace l:=Np a.2;clear a;have z0:=aa (o:=0) c rfl;have z1:=aa (o:=1) c rfl;have z2:=aa (o:=2) c rfl;have z3:=aa (o:=3) c rfl;have t0:=aA (o:=0) c;have t1:=aA (o:=1) c;have t2:=aA (o:=2) c;have t3:=aA (o:=3) c);obtain⟨W,x⟩:∃W,W=(((N.setCell Z (.int .i64 s)).setCell ⟨Z,1,Ns⟩ (.int .i64 (s+k))).setCell ⟨Z,2,Ns⟩ (.int .i64 r)).setCell ⟨Z,3,Ns⟩ (.int .i64 A):=⟨_,rfl⟩;have L:W.heap[Z]?=Nq (.cells #[s,.int .i64 (s+k),r,A] 28 (0,0)):=by rw[x,ar (ar (ar (ar c)))];rfl
 have z:N.gb W (Nq Z):=by rw[x];exact(((an _ _ _ _).t (an _ _ _ _)).t (an _ _ _ _)).t (an _ _ _ _)
 rw[<- x];exact Qi (v:=.agg #[s,.int .i64 (s+k),r,A]) (by simp[Qo,Tryz.results62,go_sem,OA,L]) rfl ⟨⟨s,s+k,r,A⟩,⟨by dsimp only;omega,by dsimp only;omega,by dsimp only;omega,by dsimp only;omega,by dsimp only;omega,by dsimp only;omega,by dsimp only;omega,by dsimp only;omega⟩,rfl,AL q z (by rintro j e;cases e;have:=S.out;omega),l.kept z (by rintro B e;cases e;exact I)⟩
end
end Go.Proofs.YtidgnkmjgioapaaGreat
section
namespace Go
def lR(z:NJ Ny):z=((Oo z.size).map λj=>z[j]?.getD NG).toArray:=by
 apply Array.ext
 ·simp
 ·intro i a b;simp[a]
end Go
namespace Go.Co
open Go
def bT(w:Nt)(B:NA):Prop:=∃a e f,w.heap[B]?=Nq (.cells a e f)/\∀(i:NA) v,a[i]?=Nq v->∃k m,v=Og k m
def bS(a:Nu Ny):Prop:=∀v∈a,∃k m,v=Og k m
def bS.app{b a:Nu Ny}(h:bS b)(d:bS a):bS (b++a):=λv c=>(Qb.1 c).elim (h v) (d v)
def xg{z:NJ Ny}(c:bS z.toList)(d:0<z.size)(n:NA):bS (Qu z n).toList:=by
 intro v b;simp only[Qu,Array.toList_map,Qp] at b;obtain⟨i,_,rfl⟩:=b;have a:i % z.size<z.size:=Nat.mod_lt _ d;rw[getElem!_pos z _ a];exact c _ (Array.getElem_mem_toList a)
def nU{w:Nt}{B:NA}{a:NJ Ny}{e:NZ}{f:NA × NA}(h:w.heap[B]?=Nq (.cells a e f))(b:bS a.toList):bT w B:=⟨a,e,f,h,λi v c=>b v (QC.2 (PR c))⟩
def bT.all{w:Nt}{B:NA}{a:NJ Ny}{e:NZ}{f:NA × NA}(h:bT w B)(c:w.heap[B]?=Nq (.cells a e f)):bS a.toList:=by
 obtain⟨n,l,k,b,j⟩:=h;rw[c] at b;cases b;intro v d;have⟨i,g⟩:=TN.1 d;exact j i v (by simpa using g)
def pX{P:NR}(w:Nt)(t L:NZ)(base:NA)(e:NZ)(i:Sd)(z:Ny)(b UQ:NA)(V:P.underlying t=Nq (.slice e))(Y:P.info? e=Nq i)(hz:i.zero=Nq z)(l:i.size=b)(S:i.bytes=UQ)(N:z.cells.size=b)(O:0<b)(v:Ny)(n:NA)(F:Nu Ny)(h:w.ownsRow base e b v n F)(I:OX)(m c:NA)(a:Nu Ny)(Q:a.length=m*b)(d:∀j u,a[j]?=Nq u->w.cell? (I.add j)=Nq u)(h1:∀u∈a,u.oneCell'=NB)(hm:0<m)(T:n+m<=Rh)(f:(n+m)*UQ<=140737488355328)(C:base<=w.heap.size)(H:NA)(hH:w.heap.size=H)(hI:∀g,v.ownBlock=Nq g->bT w g)(B:bS a)(a7:bS z.cells.toList) :∃g r x,(Rj #[t,t] L #[v,.slice (Nq I) m c]).run P w=.ok (.slice (Nq ⟨g,0,Ns⟩) (n+m) r) x /\x.ownsRow base e b (.slice (Nq ⟨g,0,Ns⟩) (n+m) r) (n+m) (F++a)/\w.grownBy x v.ownBlock/\(v.ownBlock=Nq g\/g=H)/\g<x.heap.size/\bT x g:=by
 have⟨g,r,x,X,h2,h3,h4,h5⟩:=run_append_lies (P:=P) w t L base e i z b UQ V Y hz l S N O v n F h I m c a Q d h1 hm T f C H hH;refine⟨g,r,x,X,h2,h3,h4,h5,?_⟩;subst l;subst S;have W:n+m<=9223372036854775807:=by simp only[Rh] at T;omega
 have M:=λk=>xg (z:=z.cells) a7 (by rw[N];exact O) k;rcases h.2 with⟨rfl,rfl⟩ | ⟨U,q,D,rfl,c3,Z,b8,b9,a9,y⟩
 ·have p:=run_append_nil (P:=P) w t L e i z V Y hz I m c a Q d hm (by omega) (by have hb:=f;simp only[Oc] at hb;omega);have s:=X.symm.trans p;simp only[Result.ok.injEq,Value.slice.injEq,OM,Addr.mk.injEq] at s;obtain⟨⟨⟨rfl,_⟩,_⟩,rfl⟩:=s;exact nU (NL w.drew _) (by simpa using B.app (M _))
 ·by_cases o:n+m<=q
  ·have R:n*i.size+a.length<=D.size:=by rw[Q,a9,<- TY];exact Nat.mul_le_mul_right _ o
   have p:=run_append_room (P:=P) w t L e i V Y U n q D Z I m c a Q d h1 o R;have s:=X.symm.trans p;simp only[Result.ok.injEq,Value.slice.injEq,OM,Addr.mk.injEq] at s;obtain⟨⟨⟨rfl,_⟩,_⟩,rfl⟩:=s;have hc:=(hI g rfl).all Z;refine nU (setRow_heap w g D _ e _ Z) ?_;exact((bS.app (λv G=>hc v (Tb G)) B).app λv G=>hc v (List.mem_of_mem_drop G))
  ·have A:∀j u,F[j]?=Nq u->w.cell? ((⟨U,0,Ns⟩:OX).add j)=Nq u:=h.cells (g:=U) rfl;have p:=run_append_grow (P:=P) w t L e i z V Y hz ⟨U,0,Ns⟩ n q F h.1 A I m c a Q d (by omega) (by omega) (growslice_fits (by omega) f);have s:=X.symm.trans p;simp only[Result.ok.injEq,Value.slice.injEq,OM,Addr.mk.injEq] at s;obtain⟨⟨⟨rfl,_⟩,_⟩,rfl⟩:=s;have hc:=(hI U rfl).all Z;refine nU (NL w.drew _) ?_;have hx:bS F:=λv G=>hc v (by rw[<- y] at G;exact Tb G);simpa using(hx.app B).app (M _)
def kG{P:NR}{w:Nt}{o:PE}{a:QF}{K:QF->Nt->Prop}{Q:Ux->QF->Nt->Prop}(s x:OQ)(t:NZ)(k:o.op=.call { callee:=.builtin .append,args:=#[s,x],argTypes:=#[t,t] })(base:NA)(e:NZ)(i:Sd)(z:Ny)(size UQ:NA)(ht:P.underlying t=Nq (.slice e))(hi:P.info? e=Nq i)(hz:i.zero=Nq z)(hsize:i.size=size)(hby:i.bytes=UQ)(hzs:z.cells.size=size)(hsz:0<size)(v:Ny)(n:NA)(xs:Nu Ny)(hs:a.eval s=v)(hown:w.ownsRow base e size v n xs)(ad:OX)(m c:NA)(news:Nu Ny)(hx:a.eval x=.slice (Nq ad) m c)(hl:news.length=m*size)(hnews:∀j u,news[j]?=Nq u->w.cell? (ad.add j)=Nq u)(h1:∀u∈news,u.oneCell'=NB)(hm:0<m)(h63:n+m<=Rh)(hbytes:(n+m)*UQ<=140737488355328)(hbase:base<=w.heap.size)(H:NA)(hH:w.heap.size=H)(hI:∀g,v.ownBlock=Nq g->bT w g)(hni:bS news)(hzi:bS z.cells.toList)(h:∀g b d,d.ownsRow base e size (.slice (Nq ⟨g,0,Ns⟩) (n+m) b) (n+m) (xs++news)->w.grownBy d v.ownBlock->(v.ownBlock=Nq g\/g=H)->g<d.heap.size->bT d g->K (a.put o.dst (.slice (Nq ⟨g,0,Ns⟩) (n+m) b)) d):o.wp P a w K Q:=by
 have⟨g,b,d,f,y,r,q,p,l⟩:=pX (P:=P) w t o.type base e i z size UQ ht hi hz hsize hby hzs hsz v n xs hown ad m c news hl hnews h1 hm h63 hbytes hbase H hH hI hni hzi;unfold Oper.wp QN;simp only[k,resolve,invoke,builtin,PF,SZ,PC,SH,Qj,Sx,hs,hx,f];exact h g b d y r q p l
def bT.kept{w w':Nt}{j:NA}{r:NO NA}(h:bT w j)(g:w.grownBy w' r)(d:Nq j≠r:=by simp):bT w' j:=by
 obtain⟨k,e,f,a,i⟩:=h;exact⟨k,e,f,(g.block j (Nz.1 a).1 d).trans a,i⟩
def iW{P:NR}{w:Nt}{f:NJ PE}{o:PE}{a:QF}{K:QF->Nt->Prop}{Q:Ux->QF->Nt->Prop}{E:Prop}(k:o.guard=Ns)(s x:OQ)(t:NZ)(l:o.op=.call { callee:=.builtin .append,args:=#[s,x],argTypes:=#[t,t] })(base:NA)(e:NZ)(i:Sd)(z:Ny)(size UQ:NA)(ht:P.underlying t=Nq (.slice e))(hi:P.info? e=Nq i)(hz:i.zero=Nq z)(hsize:i.size=size)(hby:i.bytes=UQ)(hzs:z.cells.size=size)(hsz:0<size)(v:Ny)(n:NA)(xs:Nu Ny)(hs:a.eval s=v)(hown:w.ownsRow base e size v n xs)(ad:OX)(m c:NA)(news:Nu Ny)(hx:a.eval x=.slice (Nq ad) m c)(hl:news.length=m*size)(hnews:∀j u,news[j]?=Nq u->w.cell? (ad.add j)=Nq u)(h1:∀u∈news,u.oneCell'=NB)(hm:0<m)(h63:n+m<=Rh)(hbytes:(n+m)*UQ<=140737488355328)(hbase:base<=w.heap.size)(H:NA)(hH:w.heap.size=H)(hI:∀g,v.ownBlock=Nq g->bT w g)(hni:bS news)(hzi:bS z.cells.toList)(h:∀g d b,b.ownsRow base e size (.slice (Nq ⟨g,0,Ns⟩) (n+m) d) (n+m) (xs++news)->w.grownBy b v.ownBlock->(v.ownBlock=Nq g\/g=H)->g<b.heap.size->bT b g->K (a.put o.dst (.slice (Nq ⟨g,0,Ns⟩) (n+m) d)) b) :if Oy o (PH f a.tmps)=NB then Oper.wp P o a w K Q else E:=by
 rw[if_pos (by simp[Oy,k])];exact kG s x t l base e i z size UQ ht hi hz hsize hby hzs hsz v n xs hs hown ad m c news hx hl hnews h1 hm h63 hbytes hbase H hH hI hni hzi h
def mw{P:NR}{w:Nt}{k:NJ PE}{d:Nu PE}{o:PE}{a:QF}{Q:Ux->QF->Nt->Prop}(l:o.guard=Ns)(s x:OQ)(t:NZ)(p:o.op=.call { callee:=.builtin .append,args:=#[s,x],argTypes:=#[t,t] })(base:NA)(e:NZ)(i:Sd)(z:Ny)(size UQ:NA)(ht:P.underlying t=Nq (.slice e))(hi:P.info? e=Nq i)(hz:i.zero=Nq z)(hsize:i.size=size)(hby:i.bytes=UQ)(hzs:z.cells.size=size)(hsz:0<size)(v:Ny)(n:NA)(xs:Nu Ny)(hs:a.eval s=v)(hown:w.ownsRow base e size v n xs)(ad:OX)(m c:NA)(news:Nu Ny)(hx:a.eval x=.slice (Nq ad) m c)(hl:news.length=m*size)(hnews:∀j u,news[j]?=Nq u->w.cell? (ad.add j)=Nq u)(h1:∀u∈news,u.oneCell'=NB)(hm:0<m)(h63:n+m<=Rh)(hbytes:(n+m)*UQ<=140737488355328)(hbase:base<=w.heap.size)(H:NA)(hH:w.heap.size=H)(hI:∀g,v.ownBlock=Nq g->bT w g)(hni:bS news)(hzi:bS z.cells.toList)(h:∀g b f,f.ownsRow base e size (.slice (Nq ⟨g,0,Ns⟩) (n+m) b) (n+m) (xs++news)->w.grownBy f v.ownBlock->(v.ownBlock=Nq g\/g=H)->g<f.heap.size->bT f g->Vb P k Q d (a.put o.dst (.slice (Nq ⟨g,0,Ns⟩) (n+m) b)) f):Vb P k Q (o::d) a w :=
 wpList_plain l λ_ q=>kG s x t p base e i z size UQ ht hi hz hsize hby hzs hsz v n xs hs hown ad m c news hx hl hnews h1 hm h63 hbytes hbase H hH hI hni hzi λg b f C B A y r=>q _ _ (h g b f C B A y r)
end Go.Co
end
namespace Go.Proofs.YtidgnkmjgioapaaGreat
section
open Go.RowKit Go.Co
def Tp.und22:Ya.underlying 22=Nq (.slice 28):=by rw[Tp.und];exact VV
def Tp.info28p:(Ya.info? 28).map (λi=>(i.zero,i.size,i.bytes))=Nq (Nq (.agg #[.int .i64 0,.int .i64 0,.int .i64 0,.int .i64 0]),4,32):=by kernel_rfl
def iI(p:Par):Nu Ny:=[.int .i64 p.mn,.int .i64 p.mx,.int .i64 p.bears,.int .i64 p.tall]
def fJ(a:Nu Par):Nu Ny:=a.flatMap iI
def rl(a:Nu Par)(p:Par):fJ (a++[p])=fJ a++iI p:=by simp[fJ]
def uu(a:Nu Par)(i:NA)(p:Par)(h:a[i]?=Nq p)(d:NA)(c:d<4):(fJ a)[i*4+d]?=(iI p)[d]?:=by
 induction a generalizing i with
 | nil=>simp at h
 | cons q t b=>
  unfold fJ;rw[Qx];cases i with
  | zero=>
   simp at h;subst h;rw[Ot (by simp[iI];omega),Nat.zero_mul,Oc]
  | succ i=>
   simp at h;rw[Pq (by simp[iI];omega)];rw[show(i+1)*4+d - (iI q).length=i*4+d from by simp[iI];omega];exact b i h
def aD.own{j n:NA}{w:Nt}{v:Ny}{a:Nu Par}(h:w.ownsRow j 28 4 v n (fJ a))(z:a.length=n)(p:(a.length:NH)<=1000000):aD j w.heap.size w v a:=by
 subst z;obtain⟨H,D⟩:=h;rcases D with⟨rfl,s⟩ | ⟨g,f,c,rfl,C,q,G,hm,F,y⟩
 ·exact⟨Ns,0,by rw[s],p,λe=>absurd (OZ s) e⟩
 ·refine⟨_,f,rfl,p,λ_=>⟨g,0,c,(0,0),rfl,C,(Nz.1 q).1,q,λi A=>?_⟩⟩;have o:a[i]?=Nq a[i]:=ND A;have b:∀d,d<4->c[i*4+d]?=(iI a[i])[d]?:=λd B=>by
   have r:(c.toList.take (a.length*4))[i*4+d]?=(iI a[i])[d]?:=by rw[y];exact uu a i _ o d B
   rw[PI (by omega)] at r;simpa using r
  have k:=b 0 (by omega);have x:=b 1 (by omega);have u:=b 2 (by omega);have t:=b 3 (by omega);rw[Nat.add_zero] at k;refine⟨_,o,?_,?_,?_,?_⟩;all_goals simp only[Oc]
  ·exact k
  ·exact x
  ·exact u
  ·exact t
def qg{P:NR}{c:Qs}{Q:Ux->QF->Nt->Prop}{a:QF}{w:Nt}(F:Nt->Prop)(b:F w)(h:∀u,F u->c.wp P Q a u):c.wp P Q a w:=h w b
def oR{w:Nt}{k:NA}{o:Obj}(h:w.heap[k]?=Nq o):k<w.heap.size:=(Nz.1 h).1
def YR(b g Z X:NA)(u:NA)(a:NH)(w:Nt)(i:Ny)(wr:Nt):Prop :=
 ∃(k:NA) (fv:Ny) (ps:Nu Par),i=.int .i64 ((u:NH) - k)/\k<=u/\ps.length=k/\(∀p∈ps,zF p) /\
  wr.heap[X]?=Nq (.cells #[fv,a] 24 (0,0))/\wr.ownsRow (X+1) 28 4 fv k (fJ ps)/\bg wr b (g+7*k)/\w.gb wr (Nq b)/\X<wr.heap.size/\wr.heap[Z]?=Nq (.cells #[.slice Ns 0 0,.int .i64 0] 24 (0,0))/\∀j,fv.ownBlock=Nq j->bT wr j
def YR.step{b g Z X u k d f:NA}{c:NH}{w a:Nt}{i:Nu Par}{p:Par}(H:k<u)(s:i.length=k)(t:∀x∈i,zF x)(r:zF p){G:Ny}(o:a.heap[X]?=Nq (.cells #[G,c] 24 (0,0)))(n:a.ownsRow (X+1) 28 4 (.slice (Nq d) (k+1) f) (k+1) (fJ i++iI p))(C:bg a b (g+7*k+7))(F:w.gb a (Nq b))(B:w.heap.size<=X)(y:b<X)(A:a.heap[Z]?=Nq (.cells #[.slice Ns 0 0,.int .i64 0] 24 (0,0)))(z:Z<X)(D:bT a d) :YR b g Z X u c w (.int .i64 ((u:NH) - k - 1)) (a.setCell X (.slice (Nq d) (k+1) f)):=by
 have l:d≠X:=by have:=(n.lt d rfl).1;omega
 refine⟨k+1,_,i++[p],by simp;omega,by omega,by simp[s],?_,by rw[ar o];rfl,?_,?_,AL F (an _ X 0 _) (by rintro j e;cases e;exact B),?_,blk (an _ _ _ _) (by simp;omega) A,λj e=>by
  simp[OG] at e;subst e;exact D.kept (an _ X 0 _) (by simpa using l)⟩
 ·intro x q;rcases Qb.1 q with h | h
  ·exact t x h
  ·rw[Pk.1 h];exact r
 ·rw[rl];exact n.kept (an _ X 0 _) (.inr (by simp[OG];exact l))
 ·rw[show g+7*(k+1)=g+7*k+7 by omega];exact C.set y
 ·have:=(Nz.1 o).1;simpa[Qq] using this
structure Iq(n:NA)(ps:Nu Par)(lim:NH):Prop where
 len:ps.length<=n
 each:∀p∈ps,zF p
 l1:2<=lim
 l2:lim<=6\/lim=12
def zL(b g n:NA)(w:Nt)(ht:bg w b g)(hg:g<100000)(hn:n<=1000):Oz Ya 33 #[.pointer (Nq b),n] w λe w'=>∃D a v,Iq n D a/\e=.returned (.agg #[v,.int .i64 a])/\Tn b (g+3+7*n) w w'/\aD w.heap.size w'.heap.size w' v D/\∀ad m c,v=.slice (Nq ad) m c->bT w' ad.block:=by
 have⟨i0,e7,d6,d5,c9⟩:=PM Tp.info28p;obtain⟨Z,hZ⟩:∃Z,Z=w.heap.size:=⟨_,rfl⟩;have e9:b<Z:=by rw[hZ];exact ht.lt
 have⟨HT,HZ⟩:=aQ ht hZ;clear ht hZ;go_enter Tp.x33,Tryz.ntmps33;go_upto_region 1 with(fail);rw[<- HZ];refine qg (λu=>u.heap[Z]?=Nq (.cells #[.slice Ns 0 0,.int .i64 0] 24 (0,0))/\w.gb u (Nq b)/\bg u b g) ⟨by rw[HZ];exact NL _ _,Nr _ _ _,HT.alloc _⟩ (λw1 hF=>?_);obtain⟨r1,g1,t1⟩:=hF;have⟨R1,G1,T1⟩:=bC r1 g1 t1;clear r1 g1 t1;have r:Z≠b:=by omega
 go_upto_region 2 with(first
  | (go_at_call 70;refine(kJ b g 2 6 _ T1 (by omega) (by omega) (by omega) (by omega) (by omega) (by omega)).mono ?_;rintro e s ⟨lo,e6,rfl,L,-⟩;have U:=Np L;clear L)
  | (go_at_call 90;refine(kM b (g+1) _ [lo,12] _ (U.2.alloc _) (by omega) (Ex.laid _ [lo,12] 2 rfl U.2.lt (by simp)) (by simp) (by simp)).mono ?_;rintro e w3 ⟨a,d,rfl,I,-⟩;have N3:=Np I;have z:=Np d;clear I d))
 have d:=z.out;simp only[ON,PY,or_false] at d;have M:2<=a/\(a<=6\/a=12):=by omega
 clear d z e6;have A:=Nr s (.cells #[lo,.int .i64 12] 3) (Nq b);have g3:w.gb w3 (Nq b):=((G1.t U.1).t A).t N3.1;have z3:=blk N3.1 (by simpa using r) (blk A (by simpa using r) (blk U.1 (by simpa using r) R1));obtain⟨X,hX⟩:∃X,X=w3.heap.size:=⟨_,rfl⟩;rw[<- hX];refine qg (λu=>u.heap[X]?=Nq (.cells #[.slice Ns 0 0,.int .i64 a] 24 (0,0))/\w.gb u (Nq b)/\bg u b (g+2)/\u.heap[Z]?=Nq (.cells #[.slice Ns 0 0,.int .i64 0] 24 (0,0))) ⟨by rw[hX];exact NL _ _,g3.t (Nr _ _ _),N3.2.alloc _,aE z3⟩ (λw4 hF=>?_);obtain⟨x4,g4,t4,z4⟩:=hF;have g6:Z<X:=by have:=oR z3;omega
 have d7:w.heap.size<=X:=by have:=HZ.out;omega
 have⟨X4,G4,T4,Z4⟩:=cJ x4 g4 t4 z4;clear A g3 z3 hX x4 g4 t4 z4 R1 G1 T1 U N3;have g5:b<X:=by omega
 go_wp2_with (go_at_call 68;refine(gJ b (g+2) _ _ T4 (by omega) (by omega)).mono ?_;rintro e w5 ⟨u,hu,rfl,H,-⟩;have T:=Np H;clear H);obtain⟨m,rfl⟩:=Int.eq_ofNat_of_zero_le hu.1;have hm:m<=n:=by omega
 have x5:=blk T.1 (by simp;omega) X4;have z5:=blk T.1 (by simpa using r) Z4;have⟨X5,Z5⟩:=aQ x5 z5;have G5:=Np (G4.t T.1);have T5:=Np T.2;clear x5 z5 X4 Z4 G4 T4 T hu;go_loopw [6] (YR b (g+3) Z X m a w) (λi _=>(OP i).toNat)
 case atStart=>exact⟨0,_,[],by simp,by omega,rfl,by simp,X5,PX _ _ _ _,by simpa using T5.out,G5,oR X5,Z5,λj e=>by cases e⟩
 case round=>
  obtain⟨k,S,D,rfl,h1,h2,h3,h4,h5,h6,h7,h8,h9,Q⟩:=hrel;have a6:=Np Q;have c0:wr.cell? X=Nq S:=aa h4 rfl;have c1:wr.cell? ⟨X,1,Ns⟩=Nq (.int .i64 a):=aa h4 rfl;have⟨H4,x,H6,H7,Y,H3,F⟩:=AH h4 h5 h6 h7 h2 h3 h9;clear h4 h5 h6 h7 h2 h3 h9 Q;by_cases e5:k<m
  ·have n2:(0:NH)<(m:NH) - (k:NH):=by omega
   have r3:IntKind.i64.wrap ((m:NH) - (k:NH) - 1)=(m:NH) - (k:NH) - 1:=Ov _ (by omega);have e8:Nq X≠S.ownBlock:=λe=>by have:=(x.lt X e.symm).1;omega
   have fX:wr.frozen? ⟨X,0,Ns⟩=NC:=aA H4;have O:b<X+1:=by omega
   go_wp2_with (fail);go_region_law
    (first
     | (go_simp;go_at_call 62;refine(vR b (g+3+7*k) _ (by exact H6) (by omega)).mono ?_;rintro e s ⟨p,hp,rfl,HN⟩;have d9:wr.heap.size<=s.heap.size:=HN.1.size;have q9:X<s.heap.size:=(by omega);have r8:s.cell? X=Nq S:=aa (blk HN.1 (by simp;omega) H4) rfl;have f:=Np HN;have HP:=Np hp;clear HN hp;unfold Mi)
     | (refine iW (by rfl) _ _ _ (by rfl) (X+1) 28 i0 _ 4 32 Tp.und22 e7 d6 d5 c9 rfl (by omega) S k (fJ D) (by rfl) (by exact(KC f.1 x O).alloc _) ⟨s.heap.size,0,Ns⟩ 1 1 (iI p) (by rfl) (by rfl) (Pt (cs:=(iI p).toArray) (t:=28) (fr:=(0,0)) (NL s _)) (by simp[iI,PT]) (by omega) (by unfold Rh;omega) (by omega) (by simp at d9 ⊢;omega) (s.heap.size+1) (by simp) (λj e=>((((a6 j e).kept (ai _ Ns)).kept f.1 (λe2=>by have:=(x.lt j e).1;cases e2;omega)).kept (Nr s _ Ns))) (by intro v G;simp[iI] at G;rcases G with rfl | rfl | rfl | rfl<;>exact⟨_,_,rfl⟩) (by intro v G;simp[Vr] at G;exact⟨_,_,G⟩) ?_;intro gg r9 w5 h l r6 r5 y;have l4:=Np y;clear y;have B5:=blk l e8 (aE (blk f.1 (by simp;omega) H4));have r7:w5.cell? X=Nq S:=aa B5 rfl;have c5:w5.frozen? ⟨X,0,Ns⟩=NC:=aA B5;have l6:=Np B5;have HG:=Np l;have HO:=Np h;clear B5 h))
   all_goals
    have N:=AL (((H7.t (ai _ _)).t f.1).t (Nr s _ _)) HG (λj e=>by have:=(x.lt j e).1;omega);have V:bg w5 b (g+3+7*k+7):=((f.2.alloc _).kept HG (λj e=>by have:=(x.lt j e).1;omega));have P:=blk HG (λe=>by have:=(x.lt Z e.symm).1;omega) (aE (blk f.1 (by simpa using r) F));have a7:=YR.step (g:=g+3) (w:=w) e5 Y H3 HP l6 HO V N d7 g5 P g6 l4;have FF:=Np a7;clear a7 N V P;go_wp2;go_roundw
    case rel=>exact FF
    case measure=>simp[OP];omega
  ·obtain rfl:k=m:=by omega
   obtain⟨fa,fm,fc,rfl⟩:=cd x;have d0:=aa F (o:=0) rfl;have d1:=aa F (o:=1) rfl;have f0:=aA F (o:=0);have f1:=aA F (o:=1);go_wp2;obtain⟨W,C⟩:∃W,W=(wr.setCell Z (.slice fa fm fc)).setCell ⟨Z,1,Ns⟩ (.int .i64 a):=⟨_,rfl⟩;have g9:W.heap[Z]?=Nq (.cells #[.slice fa fm fc,.int .i64 a] 24 (0,0)):=by rw[C,ar (ar F)];rfl
   have q:wr.gb W (Nq Z):=by rw[C];exact(an _ _ _ _).t (an _ _ _ _)
   have r4:D.length<=1000:=by have:=Y.out;omega
   have e4:=(aD.own x Y (by omega)).kept q (by rintro R e;cases e;exact .inl (by omega));rw[<- C];refine Qi (v:=.agg #[.slice fa fm fc,.int .i64 a]) (by simp[Qo,Tryz.results33,go_sem,OA,g9]) rfl ⟨D,a,_,⟨by have:=Y.out;omega,H3,M.1,M.2⟩,rfl,⟨AL H7 q (by rintro j e;cases e;have:=HZ.out;omega),(H6.kept q (by rintro B e;cases e;exact e9)).mono (by have:=Y.out;omega)⟩,e4.mono (by omega) q.size,λad m2 c2 e=>by
    cases e;exact(a6 _ rfl).kept q (λe2=>by have:=(x.lt _ rfl).1;cases e2;omega)⟩
def zM(b g n:NA)(w:Nt)(f:bg w b g)(i:g<100000)(h:n<=1000):Oz Ya 33 #[.pointer (Nq b),n] w λe d=>∃c a v,Iq n c a/\e=.returned (.agg #[v,.int .i64 a])/\Tn b (g+3+7*n) w d/\aD w.heap.size d.heap.size d v c :=
 (zL b g n w f i h).mono λ_ _ ⟨c,a,v,o,l,k,j,_⟩=>⟨c,a,v,o,l,k,j⟩
end
section
open Go.RowKit
structure Ew(n:NA)(l:Nu NH):Prop where
 len:l.length=n
 nd:l.Nodup
 all:∀x∈l,0<=x/\x<n
def nL(l:Nu NH)(i k:NA):Nu NH:=(l++[l[k]?.getD 0]).set k i
def FJ{l:Nu NH}{k:NA}{x:NH}(y:NH)(h:l[k]?=Nq x):(l.set k y++[x]).Perm (y::l):=by
 induction l generalizing k with
 | nil=>simp at h
 | cons a t b=>
  cases k with
  | zero=>
   simp at h;subst h;simp only[List.set_cons_zero,Oa];exact(TP (l₁:=t) (l₂:=[a])).cons y
  | succ k=>
   simp at h;simp only[List.set_cons_succ,Oa];exact((b h).cons a).trans (List.Perm.swap _ _ _)
def Ew.step{i k:NA}{l:Nu NH}(h:Ew i l)(d:k<=i):Ew (i+1) (nL l i k):=by
 have b:(nL l i k).Perm ((i:NH)::l):=by
  unfold nL;by_cases e:k<i
  ·obtain⟨x,a⟩:∃x,l[k]?=Nq x:=⟨_,ND (by rw[h.len];exact e)⟩;rw[a,Vt _ _ (by rw[h.len];exact e)];exact FJ _ a
  ·obtain rfl:k=i:=by omega
   rw[List.set_append_right _ _ (by rw[h.len];exact Nv _),h.len,Nat.sub_self];exact TP (l₁:=l) (l₂:=[(k:NH)])
 refine⟨by rw[b.length_eq,NQ,h.len],b.nodup_iff.2 (List.nodup_cons.2 ⟨λhm=>?_,h.nd⟩),λx a=>?_⟩
 ·have:=h.all _ hm;omega
 ·rcases ON.1 (b.mem_iff.1 a) with rfl | c
  ·omega
  ·have:=h.all x c;omega
def Dw(b g n:NA)(w:Nt)(z:bg w b g)(hg:g<100000)(hn:n<=1000):Oz Ya 72 #[.pointer (Nq b),n] w λe t=>∃l v,Ew n l/\e=.returned v/\Tn b (g+n) w t/\aj w.heap.size t.heap.size t v l:=by
 have h:∀w,(Vv 29 (.int .i64 n) (.int .i64 n)).run Ya w=.ok (.slice (Nq ⟨w.heap.size,0,Ns⟩) n n) (w.alloc (.cells (Uh #[.int .i64 0] n) 3)):=λw=>by
  have:=run_make (P:=Ya) w 29 3 Yk (.int .i64 0) (by rw[Tp.und];exact Ta) (by rw[qD _ _ Tp.tables];exact Tryz.type3) rfl .i64 .i64 n n (by omega) (by omega) (by simp[Yk];omega) (by omega);simpa[Vr,Yk] using this
 obtain⟨D,C⟩:∃D,D=w.heap.size:=⟨_,rfl⟩;have A:b<D:=by rw[C];exact z.lt
 have⟨HT,s,H⟩:=bC z C h;clear z C h;go_enter Tp.x72,Tryz.ntmps72;go_upto_region 2 with(first | rw[H]);rw[<- s];show Code.wp _ _ _ _ (w.alloc (.cells (Uh #[.int .i64 0] n) 3));refine qg (λu=>w.gb u (Nq b)/\bg u b g/\gd u D n λ_=>0) ⟨Nr _ _ _,HT.alloc _,by rw[s];exact gd.made w n⟩ (λw1 hF=>?_);obtain⟨W,L,N⟩:=hF;have⟨G1,T1,R1⟩:=bC W L N;clear W L N;go_wp2;go_loopw [6] (λy wr=>∃(i:NA) (l:Nu NH),y=.int .i64 i/\i<=n/\Ew i l/\w.gb wr (Nq b)/\bg wr b (g+i)/\gd wr D n λj=>l[j]?.getD 0) (λy _=>(n - OP y).toNat)
 case atStart=>exact⟨0,[],rfl,by omega,⟨rfl,List.nodup_nil,by simp⟩,G1,T1,R1.congr λi hi=>by simp⟩
 case round=>
  obtain⟨i,l,rfl,hi,R,V,T,U⟩:=hrel;have⟨a,Y,q,c⟩:=cJ R V T U;clear R V T U;by_cases o:i<n
  ·have Q:(i:NH)<(n:NH):=by omega
   have Z:IntKind.i64.wrap ((i:NH)+1)=(i:NH)+1:=Ov _ (by omega);go_upto_region 6 with(go_at_call 68;refine(gJ b (g+i) _ _ q (by omega) (by omega)).mono ?_;rintro e I ⟨u,O,rfl,f,-⟩;have G:=Np f;clear f);obtain⟨k,rfl⟩:=Int.eq_ofNat_of_zero_le O.1;have hk:k<=i:=by omega
   have a6:(k:NH)<(n:NH):=by omega
   have d:=c.out.kept G.1 (by simp;omega);have ck:=d.cell (i:=k) (by omega);have ci:=d.cell (i:=i) o;have fi:=d.thaw i;have r:=d.set (i:=i) (x:=l[k]?.getD 0) o;have b7:=r.cell (i:=k) (by omega);have fk:=r.thaw k;have M:=r.set (i:=k) (x:=(i:NH)) (by omega);have R7:=Np M;have b0:=d.lt;clear d r M O;go_wp2;go_roundw
   case rel=>
    have p:I.gb ((I.setCell ⟨D,i,Ns⟩ (.int .i64 (l[k]?.getD 0))).setCell ⟨D,k,Ns⟩ (.int .i64 i)) (Nq D):=(an _ _ _ _).trans (an _ _ _ _);refine⟨i+1,nL l i k,by simp,by omega,a.step hk,AL (Y.trans G.1) p (by rintro j e;cases e;have:=s.out;omega),G.2.kept p (by rintro B e;cases e;exact A),R7.congr λj S=>?_⟩;unfold nL;by_cases F:j=k
    ·subst F;rw[if_pos rfl,Sz (by simp[a.out.len];omega)];rfl
    ·rw[if_neg F,Ri (λe=>F e.symm)];by_cases X:j=i
     ·subst X;rw[if_pos rfl,Pq (by rw[a.len];exact Nv _),a.len,Nat.sub_self];rfl
     ·rw[if_neg X];by_cases e3:j<i
      ·rw[Ot (by rw[a.len];exact e3)]
      ·rw[OO (by rw[a.len];omega),OO (by simp[a.out.len];omega)]
   case measure=>simp[OP];omega
  ·obtain rfl:i=n:=by omega
   go_wp2;go_ret;exact⟨l,_,a,rfl,⟨Y,q⟩,c.ints (by have:=s.out;omega) c.lt a.len (by omega) λj S=>by rw[ND (by rw[a.len];exact S)];rfl⟩
end
end Go.Proofs.YtidgnkmjgioapaaGreat
namespace Go.Proofs
section
open Go Go.RowKit
def Tp.x200:Yc 200 Tryz.f200:=Yd
def Tp.x211:Yc 211 Tryz.f211:=Yd
def Tp.x217:Yc 217 Tryz.f217:=Yd
@[simp] theorem Tp.callPf2:Ye 200/\Ye 211/\Ye 217:=⟨Yf 200,Yf 211,Yf 217⟩
end
end Go.Proofs
namespace Go.Proofs.YtidgnkmjgioapaaGreat
section
open Go.RowKit
def lP(x:NH)(w:Nt):Oz Ya 198 #[x] w λe a=>e=.returned (.bool NC)/\w=a:=by
 go_enter Tp.x198,Tryz.ntmps198;go_wp2;go_ret;exact⟨rfl,rfl⟩
def yJ(x y:NH)(w:Nt):Oz Ya 217 #[x,y] w λe a=>e=.returned (.bool (decide (x<y)))/\w=a:=by
 go_enter Tp.x217,Tryz.ntmps217;go_wp2_with (go_at_call 198;refine(lP _ _).mono ?_;rintro e b ⟨rfl,rfl⟩);go_ret;exact⟨rfl,rfl⟩
def DI(n:NA)(h:n<=12)(w:Nt):Oz Ya 197 #[.int .u64 n] w λe a=>∃v,e=.returned (.int .i64 v)/\w=a:=by
 obtain rfl | rfl | rfl | rfl | rfl | rfl | rfl | rfl | rfl | rfl | rfl | rfl | rfl:n=0\/n=1\/n=2\/n=3\/n=4\/n=5\/n=6\/n=7\/n=8\/n=9\/n=10\/n=11\/n=12:=by omega
 all_goals
  go_enter Tp.x197,Tryz.ntmps197;go_wp2;go_ret;exact⟨_,rfl,rfl⟩
end
end Go.Proofs.YtidgnkmjgioapaaGreat
section
namespace Go
section
variable{P:NR}{ops:NJ PE}{md:RQ}{Q:Ux->QF->Nt->Prop}{S:Nt->Prop}
def cE(P:NR)(md:RQ)(ops:NJ PE)(Q:Ux->QF->Nt->Prop)(S:Nt->Prop)(n:NA)(L:NJ OI->QF->Nt->Prop):NA->NJ OI->QF->Nt->Prop
 | 0,listed,a,w=>L listed a w
 | f+1,listed,a,w=>
  Oe md ops listed≠[]/\∀i∈Oe md ops listed,i<n/\wpOp P ops Q i (λc b=>S b/\cE P md ops Q S n L f (listed.setIfInBounds i NB) c b) a w
def eF{n g:NA}{L:NJ OI->QF->Nt->Prop}(b:∀listed a w,L listed a w->wpAny P md ops Q g listed a w) :∀(f:NA) (listed:NJ OI) (a:QF) (w:Nt),cE P md ops Q S n L f listed a w->wpAny P md ops Q (f+g) listed a w
 | 0,listed,a,w,h=>by rw[Oc];exact b _ _ _ h
 | f+1,listed,a,w,h=>by
  rw[show f+1+g=(f+g)+1 by omega];exact⟨λe=>absurd e h.1,λi d=>wpOp_mono (λk c j=>eF b f _ k c j.2) (h.2 i d).2⟩
def vj{n i:NA}{y:PE}{v:Ny}{L:NJ OI->QF->Nt->Prop}(W:ops[i]?=Nq y)(s:∀(j:NA) (o:PE) N b,ops[j]?=Nq o->o.op≠.select N b)(Y:WE md ops n=NB)(hc:We md ops n=NB)(Z:n<ops.size)(G:i<n)(hQ:∀c a w,Q (.panic c) (a.put y.dst v) w->Q (.panic c) a w)(B:∀listed a w,L listed a w->∀j∈Oe md ops listed,n<=j) :∀(f:NA) (listed:NJ OI) (a:QF) (w:Nt),HeadInv md ops n listed ->(∀j x,ops[j]?=Nq x->j≠i->listed.getD j NB=NC->(∀e∈x.after,Pe md e=NB->e.on≠i)->y.apart ops x=NB) ->i∈Oe md ops listed->YieldsIf P ops S y v a->S w ->cE P md ops Q S n L f (listed.setIfInBounds i NB) (a.put y.dst v) w->cE P md ops Q S n L (f+1) listed a w:=by
 intro f;induction f with
 | zero=>
  intro listed a w p _ t O M H;have g:=(mem_ready.1 t).1;refine⟨λh=>(by rw[h] at t;cases t),λj A=>?_⟩;have q:j<n:=by
   rcases PP j n with h | h
   ·exact h
   ·exact absurd A (tail_waits Y hc Z p _ i rfl G g j h)
  refine⟨q,?_⟩;by_cases d:j=i
  ·subst d;exact O.wpOp W M ⟨M,H⟩
  ·have:=B _ _ _ H j (Ze A d);omega
 | succ f ih=>
  intro listed a w p l t O M H;have g:=(mem_ready.1 t).1;refine⟨λh=>(by rw[h] at t;cases t),λj A=>?_⟩;have q:j<n:=by
   rcases PP j n with h | h
   ·exact h
   ·exact absurd A (tail_waits Y hc Z p _ i rfl G g j h)
  refine⟨q,?_⟩;by_cases d:j=i
  ·subst d;exact O.wpOp W M ⟨M,H⟩
  ·have T:=(H.2 j (Ze A d)).2;have⟨u,x,z,I⟩:=mem_ready.1 A;have D:∀e∈x.after,Pe md e=NB->e.on≠i:=λe he hb X=>by
    have T:=I e he hb;rw[X,getD_both g] at T;cases T
   have h2:=wpOp_putIf z (l j x z d u D) (λN b=>s i y N b W) (λN b=>s j x N b z) hQ O T;have r:∀k C,ops[k]?=Nq C->k≠i->(listed.setIfInBounds j NB).getD k NB=NC ->
     (∀e∈C.after,Pe md e=NB->e.on≠i)->y.apart ops C=NB:=λk C hk V g U=>by
    refine l k C hk V ?_ U;by_cases F:j=k
    ·subst F;exact u
    ·rw[getD_set_ne NB F] at g;exact g
   refine wpOp_mono (λa' w' R=>⟨R.2.1,ih (listed.setIfInBounds j NB) a' w' (p.set A q) r (Ze t (Ne.symm d)) R.1 R.2.1 ?_⟩) h2;rw[Array.setIfInBounds_comm _ _ d];exact R.2.2
def yR(md:RQ)(ops:NJ PE)(n:NA)(listed:NJ OI):OI :=
 decide (listed.size=ops.size) && (Oo ops.size).all (λj=>!listed.getD j NC || ((ops[j]?).map (·.after.all λe=>!Pe md e || listed.getD e.on NC)).getD NB) &&
  (Oo ops.size).all λt=>decide (t<n) || !listed.getD t NB
def DS{n:NA}{listed:NJ OI}(h:yR md ops n listed=NB):HeadInv md ops n listed:=by
 simp only[yR,Of,decide_eq_true_eq] at h;obtain⟨⟨l,k⟩,i⟩:=h;refine⟨l,λj o b c e d f=>?_,λt p a=>?_⟩
 ·have:=OF.1 k j (Py.2 (Nz.1 b).1);simp only[c,b,Uj,Bool.false_or,Pp,NK] at this;have g:=(PL.1 this) e d;simpa[f] using g
 ·have:=OF.1 i t (Py.2 a);simp only[QI,decide_eq_true_eq,QM] at this;exact this.elim (λe=>absurd e (by omega)) id
def pg{n i g:NA}{b:PE}{v:Ny}{f:NA}{listed:NJ OI}{a:QF}{w:Nt}{R:QF->Nt->Prop}(d:ops[i]?=Nq b)(e:(WM ops && WE md ops n && We md ops n && decide (n<ops.size) && decide (i<n) && yR md ops n listed && YM md ops listed i && (Oe md ops listed).contains i)=NB)(l:∀c a w,Q (.panic c) (a.put b.dst v) w->Q (.panic c) a w)(j:YieldsIf P ops S b v a)(k:S w)(h:cE P md ops Q S n (λlisted a w=>Tt md ops g n listed=NB/\R a w) f (listed.setIfInBounds i NB) (a.put b.dst v) w) :cE P md ops Q S n (λlisted a w=>Tt md ops g n listed=NB/\R a w) (f+1) listed a w:=by
 simp only[Of,decide_eq_true_eq] at e;obtain⟨⟨⟨⟨⟨⟨⟨y,x⟩,u⟩,t⟩,s⟩,r⟩,q⟩,p⟩:=e;exact vj d (Region.noSelect_spec y) x u t s l (λlisted a w o=>seqB_ready o.1) f listed a w (DS r) (Region.free_spec d q) (by simpa using p) j k h
def tk(i:NA){n g:NA}{b:PE}{v:Ny}{f:NA}{listed:NJ OI}{a:QF}{w:Nt}{R:QF->Nt->Prop}(e:ops[i]?=Nq b:=by rfl)(hy:∀w,S w->(QN a.eval b).run P w=.ok (.value v) w:=by intro w d;(try dsimp only at d);go_simp;try with_reducible rfl)(hB:(WM ops && WE md ops n && We md ops n && decide (n<ops.size) && decide (i<n) && yR md ops n listed && YM md ops listed i && (Oe md ops listed).contains i)=NB:=by kernel_rfl)(hQ:∀c a w,Q (.panic c) (a.put b.dst v) w->Q (.panic c) a w:=by exact λ_ _ _ h=>h)(hw:Oy b (PH ops a.tmps)=NB:=by kernel_rfl)(hS:S w:=by assumption)(h:cE P md ops Q S n (λlisted a w=>Tt md ops g n listed=NB/\R a w) f (listed.setIfInBounds i NB) (a.put b.dst v) w) :cE P md ops Q S n (λlisted a w=>Tt md ops g n listed=NB/\R a w) (f+1) listed a w:=pg e hB hQ (Or.inl ⟨hw,hy⟩) hS h
def tku(i:NA){n g:NA}{b:PE}{f:NA}{listed:NJ OI}{a:QF}{w:Nt}{R:QF->Nt->Prop}(d:ops[i]?=Nq b:=by rfl)(hB:(WM ops && WE md ops n && We md ops n && decide (n<ops.size) && decide (i<n) && yR md ops n listed && YM md ops listed i && (Oe md ops listed).contains i)=NB:=by kernel_rfl)(hQ:∀c a w,Q (.panic c) (a.put b.dst NG) w->Q (.panic c) a w:=by exact λ_ _ _ h=>h)(hw:Oy b (PH ops a.tmps)=NC:=by kernel_rfl)(hS:S w:=by assumption)(h:cE P md ops Q S n (λlisted a w=>Tt md ops g n listed=NB/\R a w) f (listed.setIfInBounds i NB) (a.put b.dst NG) w) :cE P md ops Q S n (λlisted a w=>Tt md ops g n listed=NB/\R a w) (f+1) listed a w:=pg d hB hQ (Or.inr ⟨hw,rfl⟩) hS h
def bf(P:NR)(md:RQ)(ops:NJ PE)(Q:Ux->QF->Nt->Prop)(S:Nt->Prop)(n:NA)(L:NJ OI->QF->Nt->Prop)(f:NA)(listed:NJ OI)(a:QF)(w:Nt)(c:Nu NA):Prop :=
 ∀i∈c,i<n/\wpOp P ops Q i (λd b=>S b/\cE P md ops Q S n L f (listed.setIfInBounds i NB) d b) a w
def bf.nil{n f:NA}{L:NJ OI->QF->Nt->Prop}{listed:NJ OI}{a:QF}{w:Nt}:bf P md ops Q S n L f listed a w []:=λ_ h=>by cases h
def bf.cons{n i:NA}{c:PE}{f:NA}{listed:NJ OI}{a:QF}{w:Nt}{L:NJ OI->QF->Nt->Prop}{e:Nu NA}(o:ops[i]?=Nq c)(l:decide (i<n)=NB)(h:∀b:QF->Nt->Prop,Shut (∀a w,S w->(S w->cE P md ops Q S n L f (listed.setIfInBounds i NB) a w)->b a w)->if Oy c (PH ops a.tmps)=NB then Oper.wp P c a w b Q else b (a.put c.dst NG) w)(k:bf P md ops Q S n L f listed a w e):bf P md ops Q S n L f listed a w (i::e):=λj d=>by
 rcases ON.1 d with rfl | d
 ·exact⟨by simpa using l,wpOp_step o (λb q=>h b (λa w g p=>q a w ⟨g,p g⟩))⟩
 ·exact k j d
def vh{n f:NA}{listed:NJ OI}{a:QF}{w:Nt}{L:NJ OI->QF->Nt->Prop}(c:Nu NA)(g:decide (Oe md ops listed=c)=NB)(d:c≠[])(h:bf P md ops Q S n L f listed a w c) :cE P md ops Q S n L (f+1) listed a w:=by
 have b:Oe md ops listed=c:=by simpa using g
 exact⟨λe=>d (b ▸ e),b ▸ h⟩
def rdy(b:Nu NA){n f:NA}{listed:NJ OI}{a:QF}{w:Nt}{L:NJ OI->QF->Nt->Prop}(h:bf P md ops Q S n L f listed a w b)(c:decide (Oe md ops listed=b)=NB:=by kernel_rfl)(hne:b≠[]:=by simp):cE P md ops Q S n L (f+1) listed a w:=vh b c hne h
def cns(i:NA){n:NA}{b:PE}{f:NA}{listed:NJ OI}{a:QF}{w:Nt}{L:NJ OI->QF->Nt->Prop}{d:Nu NA}(h:∀c:QF->Nt->Prop,Shut (∀a w,S w->(S w->cE P md ops Q S n L f (listed.setIfInBounds i NB) a w)->c a w)->if Oy b (PH ops a.tmps)=NB then Oper.wp P b a w c Q else c (a.put b.dst NG) w)(e:bf P md ops Q S n L f listed a w d)(g:ops[i]?=Nq b:=by rfl)(hn:decide (i<n)=NB:=by rfl):bf P md ops Q S n L f listed a w (i::d):=bf.cons g hn h e
def rdc(i:NA){n:NA}{b:PE}{f:NA}{listed:NJ OI}{a:QF}{w:Nt}{L:NJ OI->QF->Nt->Prop}(h:∀c:QF->Nt->Prop,Shut (∀a w,S w->(S w->cE P md ops Q S n L f (listed.setIfInBounds i NB) a w)->c a w)->if Oy b (PH ops a.tmps)=NB then Oper.wp P b a w c Q else c (a.put b.dst NG) w)(d:decide (Oe md ops listed=[i])=NB:=by kernel_rfl)(hi:ops[i]?=Nq b:=by rfl)(hn:decide (i<n)=NB:=by rfl):cE P md ops Q S n L (f+1) listed a w:=rdy [i] (cns i h bf.nil hi hn) d (by simp)
def aI{id:NA}{a:QF}{w:Nt}{l:Nu PE}(n:NA)(S:Nt->Prop)(hm:P.follows .mixedOrders=NB)(d:decide (n<=l.length)=NB)(e:S w.drew)(h:S w.drew->cE P .any l.toArray Q S n (λlisted a w=>Tt .any l.toArray (l.length - n) n listed=NB/\Vb P l.toArray Q (l.drop n) a w) n (OY l.length NC) a w.drew) :(Code.region id l.toArray NB).wp P Q a w:=by
 have c:n<=l.length:=by simpa using d
 refine wp_region_any hm ?_;have:=eF (g:=l.length - n) (λlisted a w b=>by
  have:=Ym (md:=.any) (Q':=Q) (ops:=l.toArray) (l.drop n) n listed a w (λj=>by simp[RZ]) (by rw[SG];exact b.1) b.2
  rwa [SG] at this) _ _ _ _ (h e)
 rw[show n+(l.length - n)=l.toArray.size by simp;omega] at this;simpa using this
end
end Go
namespace Go
def MD{P:NR}{Q:Ux->QF->Nt->Prop}{a:QF}{w:Nt}{l:Nu PE}(n:NA)(S:Nt->Prop)(d:decide (n<=l.length)=NB)(e:S w)(h:S w->cE P .any l.toArray Q S n (λlisted a w=>Tt .any l.toArray (l.length - n) n listed=NB/\Vb P l.toArray Q (l.drop n) a w) n (OY l.length NC) a w) :wpAny P .any l.toArray Q l.toArray.size (OY l.toArray.size NC) a w:=by
 have c:n<=l.length:=by simpa using d
 have:=eF (g:=l.length - n) (λlisted a w b=>by
  have:=Ym (md:=.any) (Q':=Q) (ops:=l.toArray) (l.drop n) n listed a w (λj=>by simp[RZ]) (by rw[SG];exact b.1) b.2
  rwa [SG] at this) _ _ _ _ (h e)
 rw[show n+(l.length - n)=l.toArray.size by simp;omega] at this;simpa using this
end Go
end
namespace Go.Proofs.YtidgnkmjgioapaaGreat
section
open Go.RowKit
def cZ(B:NA)(w:Nt)(L:Nu NH):Prop:=∃a,w.heap[B]?=Nq (.cells a 3 (0,0))/\∀i,i<L.length->a[i]?=Nq (.int .i64 (L[i]?.getD 0))
def je:NA->Nu NH->Nu NH
 | 0,L=>L
 | j+1,L=>if L[j+1]?.getD 0<L[j]?.getD 0 then je j ((L.set (j+1) (L[j]?.getD 0)).set j (L[j+1]?.getD 0)) else L
def cS(k:NA)(L:Nu NH):Nu NH:=(Oo k).foldl (λL i=>je i L) L
def fO(k:NA)(L:Nu NH):cS (k+1) L=je k (cS k L):=by simp[cS,RF]
def Db(j:NA)(L:Nu NH):(je j L).length=L.length:=by
 induction j generalizing L with
 | zero=>rfl
 | succ j a=>
  unfold je;split
  ·rw[a];simp
  ·rfl
def jY(k:NA)(L:Nu NH):(cS k L).length=L.length:=by
 induction k with
 | zero=>rfl
 | succ k a=>rw[fO,Db,a]
def rP{l:Nu NH}(h:∀i,i+1<l.length->l[i]?.getD 0<=l[i+1]?.getD 0):∀k,k<=l.length->cS k l=l
 | 0,_=>rfl
 | k+1,a=>by
  rw[fO,rP h k (by omega)];cases k with
  | zero=>rfl
  | succ k=>
   unfold je;have:=h k (by omega);rw[if_neg (by omega)]
section
variable{B:NA}{w w':Nt}{L:Nu NH}
def cZ.kept{r:NO NA}(h:cZ B w L)(d:w.gb w' r)(a:Nq B≠r:=by simp):cZ B w' L:=let ⟨cs,h1,h2⟩:=h;⟨cs,blk d a h1,h2⟩
def cZ.at{k:NA}(h:cZ B w L)(a:k<L.length):w.cell? ⟨B,k,Ns⟩=Nq (.int .i64 (L[k]?.getD 0)):=let ⟨_,h1,h2⟩:=h;aa h1 (h2 k a)
def cZ.thaw{k:NA}(h:cZ B w L):w.frozen? ⟨B,k,Ns⟩=NC:=let ⟨_,h1,_⟩:=h;aA h1
def cZ.step{j:NA}{y v:Ny}(h:cZ B w L)(d:w.cell? ⟨B,j,Ns⟩=Nq y):(w.setCell ⟨B,j+1,Ns⟩ v).cell? ⟨B,j,Ns⟩=Nq y/\(w.setCell ⟨B,j+1,Ns⟩ v).frozen? ⟨B,j,Ns⟩=NC:=by
 obtain⟨c,a,-⟩:=h;have b:(w.setCell ⟨B,j+1,Ns⟩ v).heap[B]?=Nq (.cells (c.setIfInBounds (j+1) v) 3 (0,0)):=by rw[ar a]
 have e:c[j]?=Nq y:=by simpa[OA,a] using d
 exact⟨aa b (by rw[Po (by omega)];exact e),aA b⟩
def cZ.swap{j:NA}{a b:NH}(h:cZ B w L)(g:j+1<L.length) :cZ B ((w.setCell ⟨B,j+1,Ns⟩ (.int .i64 b)).setCell ⟨B,j,Ns⟩ (.int .i64 a)) ((L.set (j+1) b).set j a):=by
 obtain⟨f,k,d⟩:=h;have n:(w.setCell ⟨B,j+1,Ns⟩ (.int .i64 b)).heap[B]?=Nq (.cells (f.setIfInBounds (j+1) (.int .i64 b)) 3 (0,0)):=by rw[ar k]
 have l:((w.setCell ⟨B,j+1,Ns⟩ (.int .i64 b)).setCell ⟨B,j,Ns⟩ (.int .i64 a)).heap[B]?=Nq (.cells ((f.setIfInBounds (j+1) (.int .i64 b)).setIfInBounds j (.int .i64 a)) 3 (0,0)):=by rw[ar n]
 have p:=(Nz.1 (d (j+1) g)).1;refine⟨_,l,λi c=>?_⟩;simp only[Ur] at c;by_cases e:i=j
 ·subst e;rw[Rd (by rw[Array.size_setIfInBounds];omega),Sz (by rw[Ur];omega)];rfl
 ·by_cases o:i=j+1
  ·subst o;rw[Po (by omega),Rd (by omega),Ri (by omega),Sz (by omega)];rfl
  ·rw[Po (by omega),Po (by omega),Ri (by omega),Ri (by omega)];exact d i c
end
def AF(B c:NA)(L:Nu NH)(w:Nt)(hI:cZ B w L)(e7:L.length<=1000) :Oz Ya 211 #[.slice (Nq B) L.length c,.int .i64 0,L.length] w λe w'=>e=.returned (.tuple #[])/\w.gb w' (Nq B)/\cZ B w' (cS L.length L):=by
 have HI:=Np hI;have d7:(L.length:NH)<=1000:=by omega
 clear hI;go_enter Tp.x211,Zq;go_wp2;go_loopw [6] (λP wr=>∃k:NA,P=.int .i64 (k+1:NA)/\k<=1000/\w.gb wr (Nq B)/\cZ B wr (cS (min (k+1) L.length) L)) (λP _=>(L.length - OP P).toNat)
 case atStart=>exact⟨0,rfl,by omega,NN _ _,by
  by_cases h:L.length=0
  ·rw[h];exact HI
  ·rw[show min (0+1) L.length=0+1 by omega,fO];exact HI⟩
 case round=>
  obtain⟨k,rfl,hk,hG,hR⟩:=hrel;have⟨HG,T⟩:=aQ hG hR;clear hG hR;by_cases d6:k+1<L.length
  ·have Z:(k:NH)+1<(L.length:NH):=by omega
   have X:IntKind.i64.wrap ((k:NH)+1+1)=(k:NH)+1+1:=Ov _ (by omega);have c3:IntKind.i64.wrap ((k:NH)+1)=(k:NH)+1:=Ov _ (by omega);go_wp2;go_loopw [7] (λO V=>∃(j:NA) (f:Nu NH),O=.int .i64 j/\j<=k+1/\je (k+1) (cS (min (k+1) L.length) L)=je j f/\f.length=L.length/\w.gb V (Nq B)/\cZ B V f) (λO _=>(OP O).toNat)
   case atStart=>exact⟨k+1,_,rfl,Nv _,rfl,jY _ _,HG,T⟩
   case round=>
    obtain⟨j0,f,rfl,hj,Y,y,A,z⟩:=hrel;have⟨u,F,x,g⟩:=cJ Y y A z;clear Y y A z;have l:je (k+1) (cS (min (k+1) L.length) L)=f->∀o,w.gb o (Nq B)->cZ B o f->∃N,Og .i64 ((k:NH)+1+1)=.int .i64 ((N+1:NA):NH)/\N<=1000/\w.gb o (Nq B)/\cZ B o (cS (min (N+1) L.length) L):=λe o h1 h2=>
     ⟨k+1,by simp,by omega,h1,by rw[show min (k+1+1) L.length=(k+1)+1 by omega,fO,<- show min (k+1) L.length=k+1 by omega,show min (k+1) L.length=k+1 by omega];rw[show min (k+1) L.length=k+1 by omega] at e;rw[e];exact h2⟩
    have n:=Np l;clear l;cases j0 with
    | zero=>
     go_wp2_with (fail);go_quiet (fail);go_wp2;go_roundw
     case rel=>exact n u _ (x.andThen (ax _ _ Ns) (by simp)) (g.kept (ax _ _ Ns))
     case measure=>simp[OP];omega
    | succ j=>
     have p:j+1<f.length:=by have:=F.out;omega
     have M:=g.out.at (k:=j+1) p;have I:=g.out.at (k:=j) (by omega);have z1:=g.out.thaw (k:=j+1);have z0:=g.out.thaw (k:=j);have d:je (j+1) f=if f[j+1]?.getD 0<f[j]?.getD 0 then je j ((f.set (j+1) (f[j]?.getD 0)).set j (f[j+1]?.getD 0)) else f:=rfl;generalize f[j+1]?.getD 0=a at d M;generalize f[j]?.getD 0=b at d I;have c8:IntKind.i64.wrap (j:NH)=(j:NH):=Ov _ (by omega);have d5:((j:NH)+1).toNat=j+1:=by omega
     have d9:(j:NH)+1<(L.length:NH):=by omega
     have a6:(j:NH)<(L.length:NH):=by omega
     have e4:(0:NH)<=(j:NH)+1:=by omega
     have d8:(0:NH)<(j:NH)+1:=by omega
     have c9:(j:NH)+1 - 1=(j:NH):=by omega
     have U:=Np p;clear p;by_cases W:a<b
     ·rw[if_pos W] at d;have s:=Np d;clear d;go_wp2_with (fail);go_quiet (first | (go_at_call 217;refine Qc ((yJ _ _ _).mono (λe o h=>⟨h.1,h.2.symm⟩))));go_upto_region 6 with(fail);have q:=ax wr nq Ns;generalize wr.drewN nq=wa at q ⊢;have i:wr.gb wa.drew Ns:=q.t (ai wa Ns);have D:=g.out.kept i;have x2:=i.cl M;have G:=i.cl I;have R:=Np (D.swap (a:=a) (b:=b) U);have S:=Np (((x.andThen i (by simp)).andThen (an _ B (j+1) (.int .i64 b)) (λj e=>.inr e)).andThen (an _ B j (.int .i64 a)) (λj e=>.inr e));have z2:=D.thaw (k:=j+1);have H:=D.thaw (k:=j);have r:=D.step (v:=.int .i64 b) G;have C:=Np r;have z4:=r.2;clear D r M I z1 z0 q i;refine aI 16 (λw'=>w'.cell? ⟨B,j,Ns⟩=Nq (.int .i64 b)/\w'.frozen? ⟨B,j,Ns⟩=NC) (by kernel_rfl) (by kernel_rfl) ⟨G,H⟩ (λhHeld=>?_);simp only[NQ,NU,Oh,OV,Oc,Oj,Ol,Ow,On,Oa];refine tk 0 (h:=tk 1 (h:=tk 2 (h:=tk 3 (h:=tk 4 (h:=tk 5 (h:=tk 6 (h:=tk 7 (h:=tk 8 (h:=tk 9 (h:=tk 10 (h:=tk 11 (h:=tk 12 (h:=?_)))))))))))));try go_frame
      refine rdc 13 λK Q=>?_;go_simp;refine Q.out _ _ (by first | exact hHeld | exact⟨G,H⟩ | exact C) (λhHeld=>?_);refine tk 14 (h:=?_);try go_frame
      refine rdc 15 λK Q=>?_;go_simp;refine Q.out _ _ (by first | exact hHeld | exact⟨G,H⟩ | exact C) (λhHeld=>?_);try go_frame
      refine⟨by kernel_rfl,?_⟩;simp only[Oi,OH];go_wp2;refine⟨?_,?measure⟩
      repeat apply Exists.intro
      refine⟨?rel,rfl⟩
      case rel=>exact⟨j,_,rfl,by omega,u.t s,by simp[F.out],S,R⟩
      case measure=>simp[OP]
     ·rw[if_neg W] at d;have s:=Np d;clear d;go_wp2_with (fail);go_quiet (first | (go_at_call 217;refine Qc ((yJ _ _ _).mono (λe o h=>⟨h.1,h.2.symm⟩))));go_wp2;go_roundw
      case rel=>exact n (u.t s) _ (x.andThen (ax _ _ Ns) (by simp)) (g.kept (ax _ _ Ns))
      case measure=>simp[OP];omega
  ·have he:min (k+1) L.length=L.length:=by omega
   rw[he] at T;go_wp2;go_end0;exact⟨rfl,HG,T⟩
def mq(base:NO OX)(B:NA)(w:Nt)(L:Nu NH):Prop:=(base=Nq ⟨B,0,Ns⟩/\cZ B w L)\/L=[]
def AG(base:NO OX)(B c:NA)(L:Nu NH)(w:Nt)(a:mq base B w L)(b:L.length<=1000) :Oz Ya 211 #[.slice base L.length c,.int .i64 0,L.length] w λe w'=>e=.returned (.tuple #[])/\w.gb w' (Nq B)/\mq base B w' (cS L.length L):=by
 rcases a with⟨rfl,a⟩ | rfl
 ·exact(AF B c L w a b).mono λe w' ⟨i,h,g⟩=>⟨i,h,.inl ⟨rfl,g⟩⟩
 ·go_enter Tp.x211,Zq;go_wp2;go_loopw [6] (λd wr=>d=.int .i64 1/\w.gb wr (Nq B)) (λ_ _=>0)
  case atStart=>exact⟨rfl,NN _ _⟩
  case round=>
   obtain⟨rfl,f⟩:=hrel;go_wp2;go_end0;exact⟨rfl,f,.inr rfl⟩
end
section
open Go.RowKit
def pS(n:NA)(h:n<=12)(w:Nt):Oz Ya 156 #[.int .u64 n] w λe a=>∃v,e=.returned (.int .i64 v)/\w=a:=by
 go_enter Tp.x156,Tryz.ntmps156;go_wp2_with (go_at_call 197;refine(DI n h _).mono ?_;rintro e b ⟨v,rfl,rfl⟩);go_ret;exact⟨_,rfl,rfl⟩
def Nc(base:NO OX)(B c:NA)(L:Nu NH)(d:NH)(w:Nt)(g:mq base B w L)(j:L.length<=12) :Oz Ya 200 #[.slice base L.length c,.int .i64 0,L.length,d] w λe f=>e=.returned (.tuple #[])/\w.gb f (Nq B)/\mq base B f (cS L.length L):=by
 have k:=Np g;clear g;go_enter Tp.x200,Tryz.ntmps200;go_wp2;go_loopw [1,2,3] (λa b c wr=>a=.int .i64 0/\b=.int .i64 L.length/\c=.int .i64 d/\w=wr) (λ_ _ _ _=>0)
 case atStart=>exact⟨rfl,rfl,rfl,rfl⟩
 case round=>
  obtain⟨rfl,rfl,rfl,rfl⟩:=hrel;have o:IntKind.i64.wrap (L.length:NH)=(L.length:NH):=Ov _ (by omega);have n:(L.length:NH)<=12:=by omega
  go_wp2_with (go_at_call 211;refine(AG base B c L _ k (by omega)).mono ?_;rintro e l ⟨rfl,i,h⟩);refine Qi (results_none rfl _ _ _) rfl ?_;exact⟨rfl,i,h⟩
def Mb(base:NO OX)(B c:NA)(L:Nu NH)(w:Nt)(d:mq base B w L)(a:L.length<=12) :Oz Ya 164 #[.slice base L.length c] w λe b=>e=.returned (.tuple #[])/\w.gb b (Nq B)/\mq base B b (cS L.length L):=by
 have i:=Np d;clear d;have j:IntKind.u64.wrap (L.length:NH)=(L.length:NH):=by simp[IntKind.wrap,IntKind.signed,IntKind.bits];omega
 go_enter Tp.x164,Tryz.ntmps164;go_wp2_with (first
  | (go_at_call 156;refine(pS L.length a _).mono ?_;rintro e f ⟨v,rfl,rfl⟩)
  | (go_at_call 200;refine(Nc base B c L _ _ i a).mono ?_;rintro e f ⟨rfl,h,g⟩))
 go_end0;exact⟨rfl,h,g⟩
def my(b:NO OX)(n c:NA)(w:Nt):Oz Ya 135 #[.slice b n c] w λe a=>e=.returned (.func (.func 165) #[] #[.pointer (Nq w.heap.size)])/\a=w.alloc (.cells #[.slice b n c] 29):=by
 go_enter Tp.x135,Tryz.ntmps135;go_wp2;go_ret;exact⟨rfl,rfl⟩
def cM(c:Nu NH):NA->Nu NH->NA->Nu (Nu NH)
 | 0,b,_=>[b]
 | m+1,b,a=>(Vq a (c.length - a)).flatMap λi=>cM c m (b++[c[i]?.getD 0]) (i+1)
def mP{a:Nu NH}{m:NA}{b:Nu NH}{i:NA}(h:i<a.length):cM a (m+1) b i=cM a m (b++[a[i]?.getD 0]) (i+1)++cM a (m+1) b (i+1):=by
 have e:a.length - i=(a.length - (i+1))+1:=by omega
 simp only[cM];rw[e,List.range'_succ,Qx]
def uP{a:Nu NH}{m:NA}{b:Nu NH}{i:NA}(h:a.length<=i):cM a (m+1) b i=[]:=by
 simp only[cM];rw[show a.length - i=0 by omega];rfl
def eZ(a:Nu NH)(k:NA):Nu (Nu NH):=(Vq k (a.length+1 - k)).flatMap λm=>cM a m [] 0
def oC{a:Nu NH}{k:NA}(h:k<a.length+1):eZ a k=cM a k [] 0++eZ a (k+1):=by
 have e:a.length+1 - k=(a.length+1 - (k+1))+1:=by omega
 unfold eZ;rw[e,List.range'_succ,Qx]
def xK{a:Nu NH}{k:NA}(h:a.length+1<=k):eZ a k=[]:=by
 unfold eZ;rw[show a.length+1 - k=0 by omega];rfl
end
end Go.Proofs.YtidgnkmjgioapaaGreat
namespace Go
section
open Go.RowKit
section
variable{F:Fence}{n:NA}{P:NR}
structure Stp(n1 B:NA)(G:NA->Prop)(A C:Nt):Prop where
 os:C.os=A.os
 tape:C.tape=A.tape
 output:C.output=A.output
 size:A.heap.size<=C.heap.size
 keep:∀k,k<A.heap.size->((k<n1/\k≠B)\/G k)->C.heap[k]?=A.heap[k]?
structure Bod(n1 B:NA)(G G':NA->Prop)(A C:Nt):Prop where
 tape:C.tape=A.tape
 size:A.heap.size<=C.heap.size
 keep:∀k,k<A.heap.size->(n1<=k\/k=B)->¬ G k->C.heap[k]?=A.heap[k]?
 fp:∀k,G' k->G k\/A.heap.size<=k
def Bod.trans{d B:NA}{G i a:NA->Prop}{A C E:Nt}(h:Bod d B G i A C)(k:Bod d B i a C E):Bod d B G a A E :=
 ⟨k.tape.trans h.tape,NM h.size k.size,λj c f g=>(k.keep j (NX c h.size) f (λe=>(h.fp j e).elim g (by omega))).trans (h.keep j c f g),
  λj c=>(k.fp j c).elim (h.fp j) (λe=>.inr (NM h.size e))⟩
def Stp.mono{b a B:NA}{G:NA->Prop}{A C:Nt}(h:Stp a B G A C)(f:b<=a):Stp b B G A C:=⟨h.os,h.tape,h.output,h.size,λk c d=>h.keep k c (d.imp (λe=>⟨by omega,e.2⟩) id)⟩
def Bod.mono{b a B:NA}{G c:NA->Prop}{A C:Nt}(h:Bod b B G c A C)(g:b<=a):Bod a B G c A C:=⟨h.tape,h.size,λk d f=>h.keep k d (f.imp (λe=>by omega) id),h.fp⟩
def MI{Y:Type}(F:Fence)(n:NA)(P:NR)(g:NA)(i:NJ Ny)(b:Y->NJ Ny)(j:Y->Nt->Prop)(S h:Nu Y->Prop)(B:NA)(w0:Nt):Prop :=
 ∀(l:NA) (J Jx:Nu Y->(NA->Prop)->Nt->Prop) (G0:NA->Prop) (W:Nt),Below w0.heap.size w0 W->¬ G0 B->(∀s G A,J s G A->∀k,G k->k<A.heap.size) ->
  (∀s G A C,J s G A->Stp W.heap.size B G A C->J s G C)->(∀s G A C,Jx s G A->Stp W.heap.size B G A C->Jx s G C) ->
  (∀pre G x c,J pre G c->j x c->h (pre++[x])->YieldAt F (n - 1) P l (b x) c λe a=>
   ∃d,(e=.returned (.bool NB)/\J (pre++[x]) d a/\Bod W.heap.size B G d c a)\/(e=.returned (.bool NC)/\Jx (pre++[x]) d a/\Bod W.heap.size B G d c a)) ->
  J [] G0 W ->
  CallsIn F n P g (#[.func (.yield l) #[] #[]]++i) W λe a=>(∃v,e=.returned v)/\((∃f G,S f/\J f G a)\/(∃pre G,h pre/\Jx pre G a))
def Md{Y:Type}(d B:NA)(G:NA->Prop)(I:Nu Y->(NA->Prop)->Nt->Prop)(e:Qs->Nu Y->(NA->Prop)->Nt->Prop)(c:Nu Y)(W:Nt):Ux->QF->Nt->Prop
 | .normal,_,a=>∃b,Bod d B G b W a/\I c b a
 | .ret,_,a=>∃b,Bod d B G b W a/\e .ret c b a
 | .exit id,_,a=>∃b,Bod d B G b W a/\e (.exit id) c b a
 | .goto t,_,a=>∃b,Bod d B G b W a/\e (.goto t) c b a
 | .panic _,_,_=>RI
 | .outgrown,_,_=>RI
def gS{b B:NA}{G:NA->Prop}{A:Nt}{l:NA}(o:Obj)(g:b<=l)(f:¬ G l):Stp b B G A (A.putObj l o) :=
 have a:=RH A l o
 ⟨a.os,a.tape,a.output,a.size,λk c d=>a.block k c (by
  intro e;cases e;rcases d with h | h
  ·omega
  ·exact f h)⟩
def iQ{Y:Type}{g:OQ}{ps:NJ Tmp}{assign body:Qs}{Q:Ux->QF->Nt->Prop}{a:QF}{w:Nt}(k8:F.round=Ns)(h1:1<=n){gf:NA}{lb:NJ Ny}(hg:a.eval g=.func (.func gf) #[] lb)(n2:F.fn gf)(eg:∀args w,(callFunc gf args).run P w=.ok (.enter gf args) w){V:Y->NJ Ny}{Xp:Y->Nt->Prop}{S Sp:Nu Y->Prop}{B:NA}{w0:Nt}(e5:MI F (n - 1) P gf lb V Xp S Sp B w0)(g6:Below w0.heap.size w0 w)(k9:∀x,(V x).size=ps.size){G0:NA->Prop}(hB:¬ G0 B)(p8:B<w.heap.size)(hX:∀x A l o o',A.heap[l]?=Nq o->o.isCells=NC->Xp x A->Xp x (A.putObj l o'))(I:Nu Y->(NA->Prop)->Nt->Prop)(Ix:Qs->Nu Y->(NA->Prop)->Nt->Prop)(a8:∀s G A,I s G A->∀k,G k->k<A.heap.size)(hI:∀s G A C,I s G A->Stp w.heap.size B G A C->I s G C)(b0:∀c s G A C,Ix c s G A->Stp w.heap.size B G A C->Ix c s G C)(h0:I [] G0 w)(a₁:Y->QF)(a9:∀(l:NA) (x:Y) (W:Nt) (K:QF->Nt->Prop),K (a₁ x) W ->assign.wpIn (F.inRound l) (n - 1 - 1) P (Exit.then K (λ_ _ _=>RI)) { tmps:=(ps.zip (V x)).foldl (λt (p,v)=>t.setIfInBounds p v) a.tmps,defers:=[] } W)(hbody:∀(l:NA) (pre:Nu Y) (G:NA->Prop) (x:Y) (W:Nt),I pre G W->Xp x W->Sp (pre++[x])->body.wpIn (F.inRound l) (n - 1 - 1) P (Md w.heap.size B G I Ix (pre++[x]) W) (a₁ x) W)(hdone:∀(D:NA) (xs:Nu Y) (G:NA->Prop) (W:Nt),w.heap.size<=D->S xs->I xs G W->W.heap[D]?=Nq (.deferred (Nq []))->¬ G D->Q .normal { a with defers:={ target:=.collected D,args:=#[] }::a.defers } W)(hstop:∀(D:NA) (c:Qs) (pre:Nu Y) (G:NA->Prop) (W:Nt),w.heap.size<=D->Sp pre->Ix c pre G W->W.heap[D]?=Nq (.deferred (Nq []))->¬ G D->c.wpIn F n P Q { a with defers:={ target:=.collected D,args:=#[] }::a.defers } W) :(Code.rangeFunc g ps assign body).wpIn F n P Q a w:=by
 refine wpIn_rangeFunc ?_;intro fn m4;rw[k8];obtain⟨d,f⟩:∃d:LoopState->NO Qs->Loop,d=λst pe=>{ state:=st,pending:=pe,fn,tmps:=a.tmps,params:=ps,assign,body,defers:=w.heap.size }:=⟨_,rfl⟩;obtain⟨y,a6⟩:∃y,(w.alloc (.deferred (Nq []))).alloc (.loop (d .ready Ns))=y:=⟨_,rfl⟩;have m7:y.heap[w.heap.size+1]?=Nq (.loop (d .ready Ns)):=by
  rw[<- a6];have:=Xg (w.alloc (.deferred (Nq []))) (.loop (d .ready Ns));rwa [NW] at this
 have m8:y.heap[w.heap.size]?=Nq (.deferred (Nq [])):=by
  rw[<- a6];exact(Below.heap_alloc _ _ _ (by simp)).trans (Xg w _)
 have p4:y.heap.size=w.heap.size+2:=by rw[<- a6];simp
 have e4:Stp w.heap.size B G0 w y:=by
  have h:=(Nr w (.deferred (Nq [])) Ns).trans (Nr _ (.loop (d .ready Ns)) Ns);rw[a6] at h;exact⟨h.os,h.tape,h.output,h.size,λk hk _=>h.block k hk (by simp)⟩
 have m9:I [] G0 y:=hI _ _ _ _ h0 e4;have l5:¬ G0 w.heap.size:=λh=>by have:=a8 _ _ _ h0 _ h;omega
 have l4:¬ G0 (w.heap.size+1):=λh=>by have:=a8 _ _ _ h0 _ h;omega
 have m5:Below w0.heap.size w0 y:=by
  rw[<- a6];exact g6.trans ((((UA _ w).alloc (Nv _) _).alloc (by simp) _).mono g6.size)
 refine⟨w.heap.size+1,[{ target:=.collected w.heap.size,args:=#[] }],y,{ target:=.fn (.func gf) lb,args:=#[.func (.yield (w.heap.size+1)) #[] #[]] },y,gf,
  #[.func (.yield (w.heap.size+1)) #[] #[]]++lb,y,?_,?_,?_,?_,λ_=>h1,?_⟩
 ·rw[<- a6,f];exact run_enterLoop_outer _ _ _ _ _
 ·simp only[resolve,hg];simp[go_sem]
 ·intro f' g5;simp[Target.leads] at g5;subst g5;exact n2
 ·simp[invoke,go_sem,eg]
 ·have u:∀(G:NA->Prop) (A C:Nt),Stp y.heap.size B G A C->w.heap.size+2<=A.heap.size->C.heap[w.heap.size+1]?=A.heap[w.heap.size+1]?/\C.heap[w.heap.size]?=A.heap[w.heap.size]?:=λG A C h hA=>
   ⟨h.keep _ (by omega) (.inl ⟨by omega,by omega⟩),h.keep _ (by omega) (.inl ⟨by omega,by omega⟩)⟩
  refine(e5 (w.heap.size+1)
   (λpre G W=>(I pre G W/\w.heap.size+2<=W.heap.size/\¬ G w.heap.size/\¬ G (w.heap.size+1))/\W.heap[w.heap.size+1]?=Nq (.loop (d .ready Ns))/\W.heap[w.heap.size]?=Nq (.deferred (Nq [])))
   (λpre G W=>∃c,(Ix c pre G W/\w.heap.size+2<=W.heap.size/\¬ G w.heap.size/\¬ G (w.heap.size+1))/\W.heap[w.heap.size+1]?=Nq (.loop (d .done (Nq c)))/\W.heap[w.heap.size]?=Nq (.deferred (Nq [])))
   G0 y m5 hB (λs G A hs=>a8 s G A hs.1.1)
   (λs G A C hs h=>⟨⟨hI s G A C hs.1.1 (h.mono (by omega)),NM hs.1.2.1 h.size,hs.1.2.2.1,hs.1.2.2.2⟩,(u G A C h hs.1.2.1).1.trans hs.2.1,(u G A C h hs.1.2.1).2.trans hs.2.2⟩)
   (λs G A C hs h=>by
    obtain⟨c,hc,hl,hk⟩:=hs;exact⟨c,⟨b0 c s G A C hc.1 (h.mono (by omega)),NM hc.2.1 h.size,hc.2.2.1,hc.2.2.2⟩,(u G A C h hc.2.1).1.trans hl,(u G A C h hc.2.1).2.trans hk⟩)
   ?_ ⟨⟨m9,by omega,l5,l4⟩,m7,m8⟩).mono ?_
  ·-- ONE ROUND
   rintro pre G x W ⟨⟨hi,c8,X,H⟩,hl,hk⟩ hx k7;have l7:w.heap.size+1<W.heap.size:=(Nz.1 hl).1;have hy:=run_yield (P:=P) (args:=V x) hl (by rw[f];exact k9 x);rw[f] at hy;refine⟨fn,_,assign,body,hy,roundIn_of_wpIn m4 (a9 _ x W _ ⟨_,run_beginRound hl (by rw[f]),?_⟩)⟩;obtain⟨Wb,Z⟩:∃Wb,W.putObj (w.heap.size+1) (.loop { d .ready Ns with state:=.busy })=Wb:=⟨_,rfl⟩;have l8:Wb.heap[w.heap.size+1]?=Nq (.loop { d .ready Ns with state:=.busy }):=by rw[<- Z];exact Tz l7
   have m3:Wb.heap[w.heap.size]?=Nq (.deferred (Nq [])):=by rw[<- Z];exact(To (by omega)).trans hk
   have b9:Stp w.heap.size B G W Wb:=by rw[<- Z];exact gS _ (by omega) H
   have d5:W.grownBy Wb (Nq (w.heap.size+1)):=by rw[<- Z];exact RH _ _ _
   have k6:Xp x Wb:=by rw[<- Z];exact hX x W _ _ _ hl rfl hx
   rw[Z];have d9:w.heap.size+2<=Wb.heap.size:=NM c8 b9.size;refine wpIn_mono (hbody _ pre G x _ (hI _ _ _ _ hi b9) k6 k7) ?_;have g9:Bod y.heap.size B G G W Wb:=⟨d5.tape,d5.size,λk N hn _=>d5.block k N (by intro e;cases e;rcases hn with h | h<;>omega),λk N=>.inl N⟩;have fin:∀(b:NO Qs) (q:NA->Prop) (r:Nt),Bod w.heap.size B G q Wb r ->
     (QR (w.heap.size+1) b).run P r=.ok (.bool b.isNone) (r.putObj (w.heap.size+1) (.loop (d (if b.isNone then .ready else .done) b))) /\
     (r.putObj (w.heap.size+1) (.loop (d (if b.isNone then .ready else .done) b))).heap[w.heap.size+1]?=Nq (.loop (d (if b.isNone then .ready else .done) b)) /\
     (r.putObj (w.heap.size+1) (.loop (d (if b.isNone then .ready else .done) b))).heap[w.heap.size]?=Nq (.deferred (Nq [])) /\
     Stp w.heap.size B q r (r.putObj (w.heap.size+1) (.loop (d (if b.isNone then .ready else .done) b))) /\
     Bod y.heap.size B G q W (r.putObj (w.heap.size+1) (.loop (d (if b.isNone then .ready else .done) b))) /\
     w.heap.size+2<=(r.putObj (w.heap.size+1) (.loop (d (if b.isNone then .ready else .done) b))).heap.size /\
     ¬ q w.heap.size/\¬ q (w.heap.size+1):=λb q r i=>by
    have e8:=(i.keep (w.heap.size+1) (by omega) (.inl (by omega)) H).trans l8;have l9:=(i.keep w.heap.size (by omega) (.inl (by omega)) X).trans m3;have e7:¬ q (w.heap.size+1):=λe=>(i.fp _ e).elim H (by omega);have e6:¬ q w.heap.size:=λe=>(i.fp _ e).elim X (by omega);have c3:Stp w.heap.size B q r (r.putObj (w.heap.size+1) (.loop (d (if b.isNone then .ready else .done) b))):=gS _ (by omega) e7;have d6:r.grownBy (r.putObj (w.heap.size+1) (.loop (d (if b.isNone then .ready else .done) b))) (Nq (w.heap.size+1)):=RH _ _ _;have g8:Bod y.heap.size B q q r (r.putObj (w.heap.size+1) (.loop (d (if b.isNone then .ready else .done) b))):=⟨d6.tape,d6.size,λk N hn _=>d6.block k N (by intro e;cases e;rcases hn with h | h<;>omega),λk N=>.inl N⟩;have:=run_endRound (P:=P) b e8;rw[f] at this;refine⟨by rw[f];exact this,Tz (Nz.1 e8).1,(To (by omega)).trans l9,c3,(g9.trans (i.mono (by omega))).trans g8,NM d9 (NM i.size c3.size),e6,e7⟩
   rintro e a3 r hp;cases e with
   | normal=>
    obtain⟨q,i,O⟩:=hp;have⟨hr,L,M,z,U,j,T,R⟩:=fin Ns q r i;exact⟨_,_,hr,q,.inl ⟨rfl,⟨⟨hI _ _ _ _ O z,j,T,R⟩,L,M⟩,U⟩⟩
   | ret=>
    obtain⟨q,i,O⟩:=hp;have⟨hr,L,M,z,U,j,T,R⟩:=fin (Nq .ret) q r i;exact⟨_,_,hr,q,.inr ⟨rfl,⟨.ret,⟨b0 _ _ _ _ _ O z,j,T,R⟩,L,M⟩,U⟩⟩
   | exit id=>
    obtain⟨q,i,O⟩:=hp;have⟨hr,L,M,z,U,j,T,R⟩:=fin (Nq (.exit id)) q r i;exact⟨_,_,hr,q,.inr ⟨rfl,⟨.exit id,⟨b0 _ _ _ _ _ O z,j,T,R⟩,L,M⟩,U⟩⟩
   | goto t=>
    obtain⟨q,i,O⟩:=hp;have⟨hr,L,M,z,U,j,T,R⟩:=fin (Nq (.goto t)) q r i;exact⟨_,_,hr,q,.inr ⟨rfl,⟨.goto t,⟨b0 _ _ _ _ _ O z,j,T,R⟩,L,M⟩,U⟩⟩
   | panic ch=>exact hp.elim
   | outgrown=>exact hp.elim
  ·-- BEHIND THE ITERATOR
   rintro e W2 ⟨⟨v,rfl⟩,(⟨xs,G,hS,⟨hi,c8,X,H⟩,hl,hk⟩ | ⟨pre,G,m6,c,⟨hi,c8,X,H⟩,hl,hk⟩)⟩
   ·refine⟨Ns,_,by have:=run_endLoop (P:=P) hl (by rw[f];simp);rw[f] at this;exact this,hdone _ xs G _ (Nv _) hS (hI _ _ _ _ hi (gS _ (by omega) H)) ((To (by omega)).trans hk) X⟩
   ·refine⟨Nq c,_,by have:=run_endLoop (P:=P) hl (by rw[f];simp);rw[f] at this;exact this,hstop _ c pre G _ (Nv _) m6 (b0 c _ _ _ _ hi (gS _ (by omega) H)) ((To (by omega)).trans hk) X⟩
end
end
end Go
namespace Go.Proofs.YtidgnkmjgioapaaGreat
section
open Go.RowKit
def Ia:∀m:Fin 32,∀n:Fin 5,m.1.testBit n.1=NC->Wy .andNot .u8 ((m.1 ||| 2 ^ n.1:NA):NH) ((2 ^ n.1:NA):NH)=(m.1:NH):=by decide
def Ep{m n:NA}(hm:m<32)(a:n<5)(h:m.testBit n=NC):Wy .andNot .u8 ((m ||| 2 ^ n:NA):NH) ((2 ^ n:NA):NH)=(m:NH):=Ia ⟨m,hm⟩ ⟨n,a⟩ h
def Popped(d c:NA)(g:NO OX)(k b m:NA)(w a:Nt):Prop :=
 a.os=w.os/\a.tape=w.tape/\a.output=w.output/\a.heap=((w.setCell d (.slice g k b)).setCell c (.int .u8 m)).heap
def Jd(i f j:NA)(g:NO OX)(k d m n:NA)(w:Nt)(c:n<5)(hm:m<32)(O:m.testBit n=NC)(v:k<1000000)(C:k+1<=d)(p:i≠f)(t:i≠j)(z:w.heap[i]?=Nq (.cells #[.slice g (k+1) d] 29 (0,0)))(y:w.heap[f]?=Nq (.cells #[.int .u8 (m ||| 2 ^ n:NA)] 130 (0,0)))(G:w.heap[j]?=Nq (.cells #[n] 3 (0,0)))(u:FrameMode) :CallsD Ya 152 #[.pointer (Nq i),.pointer (Nq f),.pointer (Nq j)] u w λe I l=>I=u/\e=.returned (.tuple #[]) /\Popped i f g k d m w l:=by
 have T:w.cell? i=Nq (.slice g (k+1) d):=aa (o:=0) z rfl;have H:w.cell? f=Nq (.int .u8 (m ||| 2 ^ n:NA)):=aa (o:=0) y rfl;have P:w.cell? j=Nq (.int .i64 n):=aa (o:=0) G rfl;have S:=aA (o:=0) z;have Q:=aA (o:=0) y;have q:=Ep hm c O;have L:IntKind.i64.wrap ((k:NH)+1 - 1)=(k:NH):=by rw[show(k:NH)+1 - 1=k by omega];exact Ov _ (by omega)
 have A:IntKind.i64.wrap (k:NH)=(k:NH):=Ov _ (by omega);have N:(k:NH)<=(d:NH):=by omega
 have B:f≠i:=λe=>p e.symm;clear z y G;refine callsD_of_wp (R:=λe l=>e=.returned (.tuple #[])/\Popped i f g k d m w l) Tp.x152 rfl ?_;simp only[Tryz.ntmps152,Ox,NQ,NU,Oh,OV,Oj,Ol,Ow,Rt,On,Oa];generalize F:((m ||| 2 ^ n:NA):NH)=M at H q;generalize D:((2 ^ n:NA):NH)=N2 at q;have⟨r,U⟩:=aQ D F;clear D F;have v:∀(W:Nt) (x:Ny),(W.cell? f=Nq (.int .u8 M)/\W.cell? j=Nq (.int .i64 n))->((W.setCell i x).cell? f=Nq (.int .u8 M)/\(W.setCell i x).cell? j=Nq (.int .i64 n)):=λW x h=>
  ⟨by rw[PQ _ _ _ _ (λe=>p (congrArg VN e))];exact h.1,by rw[PQ _ _ _ _ (λe=>t (congrArg VN e))];exact h.2⟩
 have b:=Np v;clear v;go_wp2_with (fail);refine aI 10 (λl=>l.cell? f=Nq (.int .u8 M)/\l.cell? j=Nq (.int .i64 n)) (by kernel_rfl) (by kernel_rfl) ⟨H,P⟩ (λhHeld=>?_);simp only[NQ,NU,Oh,OV,Oc,Oj,Ol,Ow,On,Oa];refine tk 5 (h:=tk 6 (h:=?_));try go_frame
 refine rdy [0,1,7] ?_;refine cns 0 (λK a=>?_) ?_
 ·skip;go_simp;refine a.out _ _ (by first | exact hHeld | exact b.out _ _ hHeld) (λhHeld=>?_);try go_frame
  refine rdy [1,7] ?_;refine cns 1 (λK a=>?_) ?_
  ·skip;go_simp;refine a.out _ _ (by first | exact hHeld | exact b.out _ _ hHeld) (λhHeld=>?_);refine tk 2 (h:=tk 3 (h:=tk 4 (h:=?_)));try go_frame
   refine rdc 7 λK a=>?_;go_simp;go_at_call 153;refine(km n _ c).mono ?_;rintro e s ⟨rfl,rfl⟩;rw[r];refine a.out _ _ (by first | exact hHeld | exact b.out _ _ hHeld) (λhHeld=>?_);refine tk 8 (h:=?_);try go_frame
   refine rdc 9 λK a=>?_;go_simp;refine a.out _ _ (by first | exact hHeld | exact b.out _ _ hHeld) (λhHeld=>?_);try go_frame
   refine⟨by kernel_rfl,?_⟩;simp only[Oi,OH];go_wp2;go_end0;exact⟨rfl,rfl,rfl,rfl,rfl⟩
  refine cns 7 (λK a=>?_) ?_
  ·skip;go_simp;go_at_call 153;refine(km n _ c).mono ?_;rintro e s ⟨rfl,rfl⟩;rw[r];refine a.out _ _ (by first | exact hHeld | exact b.out _ _ hHeld) (λhHeld=>?_);refine tk 8 (h:=?_);try go_frame
   refine rdc 1 λK a=>?_;go_simp;refine a.out _ _ (by first | exact hHeld | exact b.out _ _ hHeld) (λhHeld=>?_);refine tk 2 (h:=tk 3 (h:=tk 4 (h:=?_)));try go_frame
   refine rdc 9 λK a=>?_;go_simp;refine a.out _ _ (by first | exact hHeld | exact b.out _ _ hHeld) (λhHeld=>?_);try go_frame
   refine⟨by kernel_rfl,?_⟩;simp only[Oi,OH];go_wp2;go_end0;exact⟨rfl,rfl,rfl,rfl,rfl⟩
  exact bf.nil
 refine cns 1 (λK a=>?_) ?_
 ·skip;go_simp;refine a.out _ _ (by first | exact hHeld | exact b.out _ _ hHeld) (λhHeld=>?_);refine tk 2 (h:=tk 3 (h:=?_));try go_frame
  refine rdy [0,7] ?_;refine cns 0 (λK a=>?_) ?_
  ·skip;go_simp;refine a.out _ _ (by first | exact hHeld | exact b.out _ _ hHeld) (λhHeld=>?_);refine tk 4 (h:=?_);try go_frame
   refine rdc 7 λK a=>?_;go_simp;go_at_call 153;refine(km n _ c).mono ?_;rintro e s ⟨rfl,rfl⟩;rw[r];refine a.out _ _ (by first | exact hHeld | exact b.out _ _ hHeld) (λhHeld=>?_);refine tk 8 (h:=?_);try go_frame
   refine rdc 9 λK a=>?_;go_simp;refine a.out _ _ (by first | exact hHeld | exact b.out _ _ hHeld) (λhHeld=>?_);try go_frame
   refine⟨by kernel_rfl,?_⟩;simp only[Oi,OH];go_wp2;go_end0;exact⟨rfl,rfl,rfl,rfl,rfl⟩
  refine cns 7 (λK a=>?_) ?_
  ·skip;go_simp;go_at_call 153;refine(km n _ c).mono ?_;rintro e s ⟨rfl,rfl⟩;rw[r];refine a.out _ _ (by first | exact hHeld | exact b.out _ _ hHeld) (λhHeld=>?_);refine tk 8 (h:=?_);try go_frame
   refine rdc 0 λK a=>?_;go_simp;refine a.out _ _ (by first | exact hHeld | exact b.out _ _ hHeld) (λhHeld=>?_);refine tk 4 (h:=?_);try go_frame
   refine rdc 9 λK a=>?_;go_simp;refine a.out _ _ (by first | exact hHeld | exact b.out _ _ hHeld) (λhHeld=>?_);try go_frame
   refine⟨by kernel_rfl,?_⟩;simp only[Oi,OH];go_wp2;go_end0;exact⟨rfl,rfl,rfl,rfl,rfl⟩
  exact bf.nil
 refine cns 7 (λK a=>?_) ?_
 ·skip;go_simp;go_at_call 153;refine(km n _ c).mono ?_;rintro e s ⟨rfl,rfl⟩;rw[r];refine a.out _ _ (by first | exact hHeld | exact b.out _ _ hHeld) (λhHeld=>?_);refine tk 8 (h:=?_);try go_frame
  refine rdy [0,1] ?_;refine cns 0 (λK a=>?_) ?_
  ·skip;go_simp;refine a.out _ _ (by first | exact hHeld | exact b.out _ _ hHeld) (λhHeld=>?_);refine rdc 1 λK a=>?_;go_simp;refine a.out _ _ (by first | exact hHeld | exact b.out _ _ hHeld) (λhHeld=>?_);refine tk 2 (h:=tk 3 (h:=tk 4 (h:=?_)));try go_frame
   refine rdc 9 λK a=>?_;go_simp;refine a.out _ _ (by first | exact hHeld | exact b.out _ _ hHeld) (λhHeld=>?_);try go_frame
   refine⟨by kernel_rfl,?_⟩;simp only[Oi,OH];go_wp2;go_end0;exact⟨rfl,rfl,rfl,rfl,rfl⟩
  refine cns 1 (λK a=>?_) ?_
  ·skip;go_simp;refine a.out _ _ (by first | exact hHeld | exact b.out _ _ hHeld) (λhHeld=>?_);refine tk 2 (h:=tk 3 (h:=?_));try go_frame
   refine rdc 0 λK a=>?_;go_simp;refine a.out _ _ (by first | exact hHeld | exact b.out _ _ hHeld) (λhHeld=>?_);refine tk 4 (h:=?_);try go_frame
   refine rdc 9 λK a=>?_;go_simp;refine a.out _ _ (by first | exact hHeld | exact b.out _ _ hHeld) (λhHeld=>?_);try go_frame
   refine⟨by kernel_rfl,?_⟩;simp only[Oi,OH];go_wp2;go_end0;exact⟨rfl,rfl,rfl,rfl,rfl⟩
  exact bf.nil
 exact bf.nil
def RowsIn(b c:NA)(w:Nt)(v:Ny)(L:Nu (Nu NH)):Prop :=
 ∃base a,v=.slice base L.length a/\(L.length:NH)<=1000000 /\
  (L≠[]->∃B o d e,base=Nq ⟨B,o,Ns⟩/\b<=B/\B<c/\w.heap[B]?=Nq (.cells d 29 e) /\
   ∀i,i<L.length->∃l x,L[i]?=Nq l/\d[o+i]?=Nq x/\aj b c w x l)
def RowsIn.kept{d a:NA}{w w':Nt}{v:Ny}{L:Nu (Nu NH)}{row:NO NA}(h:RowsIn d a w v L)(p:w.gb w' row)(k:∀R,row=Nq R->R<d\/a<=R:=by simp):RowsIn d a w' v L:=by
 obtain⟨base,j,rfl,q,f⟩:=h;refine⟨base,j,rfl,q,λg=>?_⟩;have⟨B,o,F,u,D,C,A,z,y⟩:=f g;refine⟨B,o,F,u,D,C,A,blk p (λe=>by have:=k B e.symm;omega) z,λi a=>?_⟩;have⟨l,x,t,s,r⟩:=y i a;exact⟨l,x,t,s,r.kept p k⟩
def RowsIn.mono{f c a b:NA}{w:Nt}{v:Ny}{L:Nu (Nu NH)}(h:RowsIn f c w v L)(r:a<=f)(q:c<=b):RowsIn a b w v L:=by
 obtain⟨base,e,rfl,j,g⟩:=h;refine⟨base,e,rfl,j,λd=>?_⟩;have⟨B,o,z,s,y,C,A,u,t⟩:=g d;refine⟨B,o,z,s,y,by omega,by omega,u,λi c=>?_⟩;have⟨l,x,p,n,k⟩:=t i c;exact⟨l,x,p,n,k.mono r q⟩
def RowsIn.cell{c b:NA}{w:Nt}{v:Ny}{L:Nu (Nu NH)}(h:RowsIn c b w v L):∃base a,v=.slice base L.length a/\(L.length:NH)<=1000000 /\(L≠[]->∃B o,base=Nq ⟨B,o,Ns⟩/\c<=B/\B<b/\B<w.heap.size/\∀i,i<L.length->∃l x,L[i]?=Nq l/\w.cell? ⟨B,o+i,Ns⟩=Nq x/\aj c b w x l):=by
 obtain⟨base,a,rfl,g,d⟩:=h;refine⟨base,a,rfl,g,λe=>?_⟩;have⟨B,o,y,u,t,s,r,f,q⟩:=d e;refine⟨B,o,t,s,r,(Nz.1 f).1,λi b=>?_⟩;have⟨l,x,n,k,j⟩:=q i b;exact⟨l,x,n,by simp[OA,f,k],j⟩
def we(la ha lb hb:NA)(P O:Ny)(a b:Nu (Nu NH))(w:Nt)(R:RowsIn la ha w P a)(Q:RowsIn lb hb w O b) :Oz Ya 65 #[P,O] w λe B=>e=.returned (.bool (decide (a=b)))/\w.gb B Ns:=by
 obtain⟨ba,ca,rfl,d5,v⟩:=R.cell;obtain⟨bb,cb,rfl,c9,S⟩:=Q.cell;have⟨H1,H2⟩:=aQ v S;clear v S R Q;by_cases c:a.length=b.length
 ·have X:=Np c;have h:((a.length:NH) != (b.length:NH))=NC:=by rw[c];simp
  clear c;go_enter Tp.x65,ZM;go_wp2;go_loopw [5] (λG wr=>∃k:NA,G=.int .i64 k/\k<=a.length/\(∀i,i<k->a[i]?=b[i]?)/\w.gb wr Ns) (λG _=>(a.length - OP G).toNat)
  case atStart=>exact⟨0,rfl,by omega,λi C=>absurd C (by omega),NN _ _⟩
  case round=>
   obtain⟨k,rfl,hk,o,j⟩:=hrel;have⟨A,N⟩:=aQ o j;clear o;by_cases g:k<a.length
   ·have f:k<b.length:=by have:=X.out;omega
    obtain⟨A1,o1,rfl,e9,e8,e7,u⟩:=H1.out (by intro e;rw[e] at g;simp at g);obtain⟨B1,o2,rfl,e6,e5,e4,s⟩:=H2.out (by intro e;rw[e] at f;simp at f);have⟨p,x,U,n,I⟩:=u k g;have⟨q,y,T,l,H⟩:=s k f;have x1:=j.cl n;have y1:=j.cl l;have d6:(k:NH)<(b.length:NH):=by omega
    have d7:(k:NH)<(a.length:NH):=by omega
    have⟨Z,Y⟩:=aQ U T;have W:=Np (I.kept j);have V:=Np (H.kept j);obtain⟨xb,xc,rfl,-,-⟩:=I.cell;obtain⟨yb,yc,rfl,-,-⟩:=H.cell;have D:=Np (NY x1 y1);clear u s j U T n l I H;go_upto_region 6 with(fail);go_region_held3 (λB=>B.cell? ⟨A1,o1+k,Ns⟩=Nq (.slice xb p.length xc)/\B.cell? ⟨B1,o2+k,Ns⟩=Nq (.slice yb q.length yc))
     (first | exact D)
     (first
      | (go_at_call 31;refine(dH _ _ _ _ _ _ p q _ (by first | exact W | exact W.kept (ai _ Ns)) (by first | exact V | exact V.kept (ai _ Ns))).mono ?_;rintro e w5 ⟨rfl,L⟩;have F:=Np (show wr.gb w5 Ns by first | exact L | exact(ai _ _).t L);replace D:=Np (NY (F.cl D.1) (F.cl D.2));clear L))
    all_goals
     rename_i hHeld
     clear hHeld
    all_goals
     by_cases d:p=q
     ·have r:decide (p=q)=NB:=by simpa using d
      have M:=Np d;clear d;rw[r];clear r;go_wp2;go_roundw
      case rel=>
       refine⟨k+1,by simp,by omega,λi C=>?_,N.t F⟩;by_cases e:i=k
       ·rw[e,Z,Y,M]
       ·exact A i (by omega)
      case measure=>simp[OP];omega
     ·have r:decide (p=q)=NC:=by simpa using d
      have z:=Np (show decide (a=b)=NC by
       rw[decide_eq_false_iff_not];intro e;have v:=Z.out;rw[e,Y] at v;exact d (by cases v;rfl))
      clear d;rw[r];clear r;go_wp2;go_ret;exact⟨by rw[z];rfl,N.t F⟩
   ·obtain rfl:k=a.length:=by omega
    have z:=Np (show decide (a=b)=NB by
     rw[decide_eq_true_eq];refine RO λi=>?_;by_cases C:i<a.length
     ·exact A i C
     ·rw[OO (by omega),OO (by have:=X.out;omega)])
    clear j;go_wp2;go_ret;exact⟨by rw[z];rfl,N⟩
 ·have z:=Np (show decide (a=b)=NC by
   rw[decide_eq_false_iff_not];intro e;exact c (by rw[e]))
  have h:((a.length:NH) != (b.length:NH))=NB:=by simp;omega
  clear c;go_enter Tp.x65,ZM;go_wp2;go_ret;exact⟨by rw[z];rfl,NN _ _⟩
end
end Go.Proofs.YtidgnkmjgioapaaGreat
namespace Go
section
section
variable{l m:NA}{P:NR}{md:RQ}{ops:NJ PE}{Q:Ux->QF->Nt->Prop}
def Oper.wpIn_of_wp{o:PE}{a:QF}{w:Nt}{K:QF->Nt->Prop}(j:∀c,o.op≠.defer c)(h:o.wp P a w K Q):o.wpIn (Fence.wide.inRound l) m P a w K Q:=by
 refine⟨λf _=>trivial,?_⟩;rw[show o.semAt (Fence.wide.inRound l).round a.eval=QN a.eval o from Oper.semAt_some l _ _ j];unfold Oper.wp at h;generalize (QN a.eval o).run P w=r at h ⊢;cases r with
 | ok x i=>
  cases x with
  | enter f b=>exact⟨(λe=>(by cases e)),CallsIn.inRound l (QH.2 h)⟩
  | row r b=>
   refine⟨(λe=>(by cases e)),λc p _=>?_⟩;have⟨v,g,n,k⟩:=h c p;exact⟨v,g,n,stepsIn_wide.2 k⟩
  | value v=>exact h
  | skip=>exact h
  | defer d=>exact h
  | _=>exact h.elim
 | halt x i=>cases x<;>first | exact h | exact h.elim
def qF(d:¬ LetsOut Q)(e:∀(i:NA) (o:PE),ops[i]?=Nq o->∀c,o.op≠.defer c){i:NA}{K:QF->Nt->Prop}{a:QF}{w:Nt}(h:wpOp P ops Q i K a w):wpOpIn (Fence.wide.inRound l) m P ops Q i K a w:=by
 unfold wpOp at h;unfold wpOpIn;cases ho:ops[i]? with
 | none=>rw[ho] at h;exact h
 | some o=>
  rw[ho] at h;dsimp only at h ⊢;split
  ·rename_i b
   rw[if_pos b] at h;rcases h with h | h
   ·exact Oper.wpIn_of_wp (e i o ho) h
   ·exact absurd h.2 d
  ·rename_i b
   rw[if_neg b] at h;exact⟨λf _=>trivial,h⟩
def iR(b:¬ LetsOut Q)(d:∀(i:NA) (o:PE),ops[i]?=Nq o->∀c,o.op≠.defer c):∀(f:NA) (listed:NJ OI) (a:QF) (w:Nt),wpAny P md ops Q f listed a w->wpAnyIn (Fence.wide.inRound l) m P md ops Q f listed a w
 | 0,listed,a,w,h=>h
 | f+1,listed,a,w,h=>⟨h.1,λi g=>qF b d (wpOp_mono (λk e j=>iR b d f _ k e j) (h.2 i g))⟩
def BK(ops:Nu PE):OI:=ops.all λo=>match o.op with | .defer _=>NC | _=>NB
def vV{ops:Nu PE}(h:BK ops=NB)(i:NA)(o:PE)(a:ops.toArray[i]?=Nq o):∀c,o.op≠.defer c:=by
 intro c;have:=OF.1 h o (by rw[UY] at a;exact Od a);intro e;rw[e] at this;cases this
def sR{id:NA}{a:QF}{w:Nt}{b:Nu PE}(c:¬ LetsOut Q)(i:BK b=NB)(n:NA)(S:Nt->Prop)(hm:P.follows .mixedOrders=NB)(f:decide (n<=b.length)=NB)(k:S w.drew)(h:S w.drew->cE P .any b.toArray Q S n (λlisted a w=>Tt .any b.toArray (b.length - n) n listed=NB/\Vb P b.toArray Q (b.drop n) a w) n (OY b.length NC) a w.drew) :(Code.region id b.toArray NB).wpIn (Fence.wide.inRound l) m P Q a w:=by
 have e:n<=b.length:=by simpa using f
 refine wpIn_region_any hm ?_;refine iR c (vV i) _ _ _ _ ?_;have:=eF (g:=b.length - n) (λlisted a w d=>by
  have:=Ym (md:=.any) (Q':=Q) (ops:=b.toArray) (b.drop n) n listed a w (λj=>by simp[RZ]) (by rw[SG];exact d.1) d.2
  rwa [SG] at this) _ _ _ _ (h k)
 rw[show n+(b.length - n)=b.toArray.size by simp;omega] at this;simpa using this
end
end
end Go
namespace Go.Proofs.YtidgnkmjgioapaaGreat
section
open Go Go.Conc.Lib
abbrev link:Go.Conc.Lib.WgLink:={ add:=138,done:=140,wait:=144,relMerge:=166,disable:=167,enable:=168,inBubble:=169,associate:=170,fatal:=171,uOr:=172,uAdd:=173,raceRead:=174,uLoad:=175,uStore:=176,disassociate:=177,semrelease:=178,acquire:=183,isAssociated:=184,uCas:=185,raceWrite:=186,semacquire:=187,orU64:=201,addU64:=202,loadU64:=203,storeU64:=204,casU64:=205,tWgP:=184,tUP:=186,tAssoc:=187,tWg:=166,tAU:=164,tU64:=87,tUint:=177,tU32:=159,tPU32:=191,tPAU:=217,tPU64:=219,tNoCopy:=162,tANoCopy:=155,tAlign64:=156 }
def qG:Go.Conc.Lib.WgLib NV link :=
 ⟨Tryz.func138,Tryz.func140,Tryz.func144,Tryz.func166,Tryz.func167,Tryz.func168,Tryz.func169,Tryz.func170,Tryz.func171,Tryz.func172,Tryz.func173,Tryz.func174,Tryz.func175,Tryz.func176,Tryz.func177,Tryz.func178,Tryz.func183,Tryz.func184,Tryz.func185,Tryz.func186,Tryz.func187,Tryz.func201,Tryz.func202,Tryz.func203,Tryz.func204,Tryz.func205,Tryz.underlying184,Tryz.runUnderlying184,Tryz.sizeOf184,Tryz.isAgg184,Tryz.zeroValue184,Tryz.underlying186,Tryz.runUnderlying186,Tryz.sizeOf186,Tryz.isAgg186,Tryz.zeroValue186,Tryz.underlying187,Tryz.runUnderlying187,Tryz.sizeOf187,Tryz.isAgg187,Tryz.zeroValue187,Tryz.underlying166,Tryz.runUnderlying166,Tryz.sizeOf166,Tryz.isAgg166,Tryz.zeroValue166,Tryz.underlying164,Tryz.runUnderlying164,Tryz.sizeOf164,Tryz.isAgg164,Tryz.zeroValue164,Tryz.underlying87,Tryz.runUnderlying87,Tryz.sizeOf87,Tryz.isAgg87,Tryz.zeroValue87,Tryz.underlying177,Tryz.runUnderlying177,Tryz.sizeOf177,Tryz.isAgg177,Tryz.zeroValue177,Tryz.underlying159,Tryz.runUnderlying159,Tryz.sizeOf159,Tryz.isAgg159,Tryz.zeroValue159,Tryz.underlying191,Tryz.runUnderlying191,Tryz.sizeOf191,Tryz.isAgg191,Tryz.zeroValue191,Tryz.underlying217,Tryz.runUnderlying217,Tryz.sizeOf217,Tryz.isAgg217,Tryz.zeroValue217,Tryz.underlying219,Tryz.runUnderlying219,Tryz.sizeOf219,Tryz.isAgg219,Tryz.zeroValue219,Tryz.underlying0,Tryz.runUnderlying0,Tryz.sizeOf0,Tryz.isAgg0,Tryz.zeroValue0,SI,Tryz.runUnderlying3,Tryz.sizeOf3,Tryz.isAgg3,Tryz.zeroValue3,Tryz.underlying4,Tryz.runUnderlying4,Tryz.sizeOf4,Tryz.isAgg4,Tryz.zeroValue4,Tryz.underlying9,Tryz.runUnderlying9,Tryz.sizeOf9,Tryz.isAgg9,Tryz.zeroValue9,Tryz.underlying20,Tryz.runUnderlying20,Tryz.sizeOf20,Tryz.isAgg20,Tryz.zeroValue20,Tryz.underlying21,Tryz.runUnderlying21,Tryz.sizeOf21,Tryz.isAgg21,Tryz.zeroValue21,(by kernel_rfl),(by kernel_rfl)⟩
end
section
open Go.RowKit
def YOk.be{b:Nu Par}{a:NH}(h:YOk b a):∀p∈b,0<=p.bears/\p.bears<=1000:=λp c=>by
 have:=h.each p c;omega
def uM{w:Nt}{R Y o:NA}{u v x:Ny}(a:Y≠R)(h:w.cell? ⟨Y,o,Ns⟩=Nq x):((w.setCell R u).setCell ⟨R,1,Ns⟩ v).cell? ⟨Y,o,Ns⟩=Nq x:=by
 rw[PQ _ _ _ _ (λe=>a (congrArg VN e).symm),PQ _ _ _ _ (λe=>a (congrArg VN e).symm)];exact h
def mI(a:Nu Par)(l:Nu NH):Ny :=
 if cR a (pre Par.mn a a.length) l l.length<0\/l.length=0 then .tuple #[.agg #[.int .i64 0,.int .i64 0],.int .i64 11]
 else .tuple #[.agg #[.int .i64 (max (-1) (cR a (pre Par.mx a a.length) l l.length)),(cR a (pre Par.mn a a.length) l l.length)],.int .i64 0]
def CZ(F x:NA)(pv qv:Ny)(c:Nu Par)(d:NH)(l:Nu NH)(w:Nt)(hP:aD F x w pv c)(hI:aj F x w qv l)(n3:x<=w.heap.size)(a8:YOk c d)(hp:POk c d l) :Oz Ya 36 #[.agg #[pv,d],qv] w λe k=>e=.returned (mI c l)/\w.gb k Ns:=by
 obtain⟨O,N,rfl,m9,-⟩:=hP.cell;obtain⟨base,k5,rfl,n2,-⟩:=hI.cell;have⟨A,w1,hA,a6,H,T,b8,g8⟩:=bY w (.cells #[.slice O c.length N,d] 24) (.cells #[.int .i64 0,.int .i64 0] 26);have d6:=Np (hI.kept H);have c9:=Np (hP.kept H);have⟨k6,HA,l6,k9⟩:=cJ a6 hA H b8;have q0:=aa T (o:=0) rfl;have q1:=aa T (o:=1) rfl;have n4:x<=A:=by omega
 have⟨L,C⟩:=aQ a8 hp;clear hP hI a8 hp a6 hA H T b8;go_enter Tp.x36,Tryz.ntmps36;go_upto_region 1 with(fail);rw[<- HA,<- k6];go_upto_region 2 with(go_at_call 81;refine(jO F x _ _ c d l _ c9 d6 (by omega) L C).mono ?_;rintro e w2 ⟨rfl,b9⟩;have D:=Np b9;clear b9);have g7:=D.out.size;obtain⟨Y,G⟩:∃Y,Y=w2.heap.size:=⟨_,rfl⟩;obtain⟨g,y⟩:∃g,g=w2.alloc (.cells #[.slice O c.length N,d] 91):=⟨_,rfl⟩;have B:w2.gb g Ns:=by rw[y];exact Nr _ _ Ns
 have c3:g.heap[Y]?=Nq (.cells #[.slice O c.length N,d] 91 (0,0)):=by rw[y,G];exact NL _ _
 have g6:g.heap.size=Y+1:=by rw[y,NW,G]
 rw[<- G,<- y];clear q0 q1;have M:=Np c3;have d9:=Np ((l6.t D).t B);have f:=Np (bk B (blk D (by simp) k9));have l5:=Np ((d6.kept D).kept B);have l4:=Np ((c9.kept D).kept B);have n6:A+1<Y:=by omega
 have q:x<=g.heap.size:=by omega
 clear B c3 y G g8 g7 g6;have s0:=aa M (o:=0) rfl;have s1:=aa M (o:=1) rfl;have s2:=aa f (o:=0) rfl;have s3:=aa f (o:=1) rfl;have z0:=aA (o:=0) f;have z1:=aA (o:=1) f;go_upto_region 4 with(fail);have b:=Np (NN g Ns);have Z:∀W,g.gb W Ns->dh F x W (.agg #[.slice O c.length N,d]) c d:=λW h=>⟨_,rfl,l4.kept h⟩;have a9:∀W,g.gb W Ns->aj F x W (.slice base l.length k5) l:=λW h=>l5.kept h;have a7:∀W,g.gb W Ns->W.cell? Y=Nq (.slice O c.length N)/\W.cell? ⟨Y,1,Ns⟩=Nq (.int .i64 d)/\W.cell? (A+1:NA)=Nq (.int .i64 0)/\W.cell? ⟨A+1,1,Ns⟩=Nq (.int .i64 0)/\W.frozen? ⟨A+1,0,Ns⟩=NC/\W.frozen? ⟨A+1,1,Ns⟩=NC:=λW h=>
  ⟨aa (bk h M) rfl,aa (bk h M) rfl,aa (bk h f) rfl,aa (bk h f) rfl,aA (bk h f),aA (bk h f)⟩
 have⟨I,d5,u⟩:=bC Z a9 a7;clear Z a9 a7;have p:=Np (u g (NN g Ns));obtain⟨U,S⟩:∃U,U=pre Par.mn c c.length:=⟨_,rfl⟩;obtain⟨gx,R⟩:∃gx,gx=pre Par.mx c c.length:=⟨_,rfl⟩;have b6:∀i,0<=U i/\U i<=1000:=by rw[S];exact L.mn
 have b0:∀i,0<=gx i/\gx i<=1000:=by rw[R];exact L.mx
 have⟨d8,d7,e5,e4⟩:=cJ S R b6 b0;clear S R b6 b0;go_region_held3 (λk=>k.cell? Y=Nq (.slice O c.length N)/\k.cell? ⟨Y,1,Ns⟩=Nq (.int .i64 d)/\k.cell? (A+1:NA)=Nq (.int .i64 0)/\k.cell? ⟨A+1,1,Ns⟩=Nq (.int .i64 0)/\k.frozen? ⟨A+1,0,Ns⟩=NC/\k.frozen? ⟨A+1,1,Ns⟩=NC)
  (first | exact p)
  (first
   | (go_at_call 93;refine(lO F x _ c d _ (I _ (by first | exact b | exact b.t (ai _ _))) (NM q (by first | exact b.size | exact(b.t (ai _ Ns)).size)) L.len).mono ?_;rintro e r ⟨rfl,n⟩;rw[<- d8];replace b:=Np (show g.gb r Ns by first | exact b.t n | exact(b.t (ai _ _)).t n);replace p:=Np (u r b);clear n)
   | (go_at_call 94;refine(uh F x _ _ c d l _ _ (I _ (by first | exact b | exact b.t (ai _ _))) (d5 _ (by first | exact b | exact b.t (ai _ _))) (NM q (by first | exact b.size | exact(b.t (ai _ Ns)).size)) L.len C.ok (by have:=C.out.len;omega) (by first | exact e5 | exact e4) L.be).mono ?_;rintro e r ⟨rfl,n⟩;replace b:=Np (show g.gb r Ns by first | exact b.t n | exact(b.t (ai _ _)).t n);replace p:=Np (u r b);clear n))
 have k8:=Np (show r.cell? Y=Nq (.slice O c.length N)/\r.cell? ⟨Y,1,Ns⟩=Nq (.int .i64 d)/\r.cell? (A+1:NA)=Nq (.int .i64 0)/\r.cell? ⟨A+1,1,Ns⟩=Nq (.int .i64 0)/\r.frozen? ⟨A+1,0,Ns⟩=NC/\r.frozen? ⟨A+1,1,Ns⟩=NC from p);have V:=Np (show mI c l=if cR c U l l.length<0\/l.length=0 then .tuple #[.agg #[.int .i64 0,.int .i64 0],.int .i64 11] else .tuple #[.agg #[.int .i64 (max (-1) (cR c gx l l.length)),(cR c U l l.length)],.int .i64 0] by rw[d8,d7];rfl);obtain⟨a,ha⟩:∃a,a=cR c U l l.length:=⟨_,rfl⟩;rw[<- ha] at V ⊢;have n7:=Np ha;clear ha
 rename_i hHeld
 clear hHeld;clear s0 s1 s2 s3 z0 z1;have⟨s0,s1,s2,s3,z0,z1⟩:=k8.out;have P:∀(k:Nt),r.gb k (Nq (A+1))->w.gb k Ns:=λk h=>(d9.t b).andThen h (λj e=>by cases e;left;rw[<- HA];omega);have Q:=Np P;clear P;by_cases h1:a<0
 ·have z:mI c l=.tuple #[.agg #[.int .i64 0,.int .i64 0],.int .i64 11]:=by rw[V,if_pos (.inl h1)]
  have s:=Np z;clear z V;go_wp2;refine Qi (v:=.tuple #[.agg #[.int .i64 0,.int .i64 0],.int .i64 11]) ?_ rfl ⟨by rw[s],Q _ ((an _ _ _ _).t (an _ _ _ _))⟩;rw[Wl rfl];go_simp
 ·by_cases h2:l.length=0
  ·have z:mI c l=.tuple #[.agg #[.int .i64 0,.int .i64 0],.int .i64 11]:=by rw[V,if_pos (.inr h2)]
   have s:=Np z;have k0:((l.length:NH) == 0)=NB:=by simp[h2]
   clear z V h2;go_wp2;refine Qi (v:=.tuple #[.agg #[.int .i64 0,.int .i64 0],.int .i64 11]) ?_ rfl ⟨by rw[s],Q _ ((an _ _ _ _).t (an _ _ _ _))⟩;rw[Wl rfl];go_simp
  ·have z:mI c l=.tuple #[.agg #[.int .i64 (max (-1) (cR c gx l l.length)),a],.int .i64 0]:=by rw[V,if_neg (by rintro(h | h);exact h1 h;exact h2 h)]
   have s:=Np z;have k0:((l.length:NH) == 0)=NC:=by rw[beq_eq_false_iff_ne];omega
   have b7:Y≠A+1:=by omega
   clear z V h2;go_upto_region 7 with(fail);have p:=Np (u r b);clear s2 s3 z0 z1;go_region_held3 (λk=>k.cell? Y=Nq (.slice O c.length N)/\k.cell? ⟨Y,1,Ns⟩=Nq (.int .i64 d))
    (first | exact⟨p.1,p.2.1⟩ | exact⟨uM b7 p.1,uM b7 p.2.1⟩)
    (first
     | (go_at_call 92;refine(kZ F x _ c d _ (I _ (by first | exact b | exact b.t (ai _ _))) (NM q (by first | exact b.size | exact(b.t (ai _ Ns)).size)) L.len).mono ?_;rintro e X ⟨rfl,n⟩;rw[<- d7];replace b:=Np (show g.gb X Ns by first | exact b.t n | exact(b.t (ai _ _)).t n);replace p:=Np (u X b);clear n)
     | (go_at_call 94;refine(uh F x _ _ c d l _ _ (I _ (by first | exact b | exact b.t (ai _ _))) (d5 _ (by first | exact b | exact b.t (ai _ _))) (NM q (by first | exact b.size | exact(b.t (ai _ Ns)).size)) L.len C.ok (by have:=C.out.len;omega) (by first | exact e5 | exact e4) L.be).mono ?_;rintro e X ⟨rfl,n⟩;replace b:=Np (show g.gb X Ns by first | exact b.t n | exact(b.t (ai _ _)).t n);replace p:=Np (u X b);clear n;have r0:=p.out.2.2.1;have r1:=p.out.2.2.2.1;have r2:=p.out.2.2.2.2.1;have r3:=p.out.2.2.2.2.2))
   generalize hm:(if -1<cR c gx l l.length then cR c gx l l.length else -1)=m;have z:mI c l=.tuple #[.agg #[m,a],.int .i64 0]:=by
    rw[s,show max (-1) (cR c gx l l.length)=m by rw[<- hm];omega]
   have k7:=Np z;clear z hm s;go_wp2;refine Qi (v:=.tuple #[.agg #[m,a],.int .i64 0]) ?_ rfl ⟨by rw[k7],(d9.t b).andThen ((an _ _ _ _).t (an _ _ _ _)) (λj e=>by cases e;left;rw[<- HA];omega)⟩;rw[Wl rfl];go_simp
def Tp.info26p:(Ya.info? 26).map (λi=>(i.zero,i.size,i.bytes))=Nq (Nq (.agg #[.int .i64 0,.int .i64 0]),2,16):=by kernel_rfl
def Tp.und48:Ya.underlying 48=Nq (.slice 26):=by rw[Tp.und];exact Tryz.underlying48
def aV(c d:NA)(w:Nt)(v:Ny)(l:Nu (NH × NH)):Prop :=
 ∃base b,v=.slice base l.length b/\(l.length:NH)<=1000000 /\
  (l≠[]->∃B o a e,base=Nq ⟨B,o,Ns⟩/\c<=B/\B<d/\w.heap[B]?=Nq (.cells a 26 e) /\
   ∀i,i<l.length->∃p,l[i]?=Nq p/\a[o+i*2]?=Nq (.int .i64 p.1)/\a[o+(i*2+1)]?=Nq (.int .i64 p.2))
def aV.kept{a g:NA}{w w':Nt}{v:Ny}{j:Nu (NH × NH)}{row:NO NA}(h:aV a g w v j)(p:w.gb w' row)(k:∀R,row=Nq R->R<a\/g<=R:=by simp):aV a g w' v j:=by
 obtain⟨base,i,rfl,l,d⟩:=h;refine⟨base,i,rfl,l,λf=>?_⟩;have⟨B,o,y,q,x,u,t,s,r⟩:=d f;exact⟨B,o,y,q,x,u,t,blk p (λe=>by have:=k B e.symm;omega) s,r⟩
def aV.mono{f g a b:NA}{w:Nt}{v:Ny}{e:Nu (NH × NH)}(h:aV f g w v e)(s:a<=f)(r:g<=b):aV a b w v e:=by
 obtain⟨base,d,rfl,j,i⟩:=h;refine⟨base,d,rfl,j,λc=>?_⟩;have⟨B,o,q,k,p,u,t,n,l⟩:=i c;exact⟨B,o,q,k,p,by omega,by omega,n,l⟩
def aV.cell{g c:NA}{w:Nt}{v:Ny}{b:Nu (NH × NH)}(h:aV g c w v b):∃base a,v=.slice base b.length a/\(b.length:NH)<=1000000 /\(b≠[]->∃B o,base=Nq ⟨B,o,Ns⟩/\g<=B/\B<c/\B<w.heap.size/\∀i,i<b.length->∃p,b[i]?=Nq p/\w.cell? ⟨B,o+i*2,Ns⟩=Nq (.int .i64 p.1)/\w.cell? ⟨B,o+i*2+1,Ns⟩=Nq (.int .i64 p.2)):=by
 obtain⟨base,a,rfl,j,d⟩:=h;refine⟨base,a,rfl,j,λe=>?_⟩;have⟨B,o,x,u,t,s,r,f,q⟩:=d e;refine⟨B,o,t,s,r,(Nz.1 f).1,λi c=>?_⟩;have⟨p,n,l,k⟩:=q i c;exact⟨p,n,by simp[OA,f,l],by simp[OA,f,TF,k]⟩
def eR(l:Nu (NH × NH)):Nu Ny:=l.flatMap λp=>[.int .i64 p.1,.int .i64 p.2]
def Es(l:Nu (NH × NH)):(eR l).length=l.length*2:=by
 unfold eR;induction l with
 | nil=>rfl
 | cons p l a=>simp only[Qx,Pi,a,NQ,NU];omega
def sH(l:Nu (NH × NH))(p:NH × NH):eR (l++[p])=eR l++[.int .i64 p.1,.int .i64 p.2]:=by simp[eR]
def vd:∀(l:Nu (NH × NH)) (i:NA),i<l.length->∃p,l[i]?=Nq p/\(eR l)[i*2]?=Nq (.int .i64 p.1)/\(eR l)[i*2+1]?=Nq (.int .i64 p.2)
 | p::l,0,_=>⟨p,rfl,rfl,rfl⟩
 | p::l,i+1,h=>by
  have⟨q,c,b,a⟩:=vd l i (by simpa using h);refine⟨q,by simpa using c,?_,?_⟩
  ·show([Og .i64 p.1,.int .i64 p.2]++eR l)[(i+1)*2]?=_;rw[Pq (by simp;omega)];rw[<- b];congr 1;simp;omega
  ·show([Og .i64 p.1,.int .i64 p.2]++eR l)[(i+1)*2+1]?=_;rw[Pq (by simp;omega)];rw[<- a];congr 1;simp;omega
def aV.own{k n:NA}{w:Nt}{v:Ny}{l:Nu (NH × NH)}(h:w.ownsRow k 26 2 v n (eR l))(o:(l.length:NH)<=1000000):aV k w.heap.size w v l:=by
 obtain⟨e,d⟩:=h;have t:l.length=n:=by rw[Es] at e;omega
 subst t;rcases d with⟨rfl,r⟩ | ⟨g,f,b,rfl,y,q,B,hm,A,s⟩
 ·exact⟨Ns,0,by rw[r],o,λc=>absurd (OZ r) c⟩
 ·refine⟨_,f,rfl,o,λ_=>⟨g,0,b,(0,0),rfl,y,(Nz.1 q).1,q,λi x=>?_⟩⟩;have⟨p,e,d,z⟩:=vd l i x;have a:∀j,j<l.length*2->b[j]?=(eR l)[j]?:=λj u=>by
   rw[<- s,Ty,if_pos u];simp
  exact⟨p,e,by rw[Oc,a _ (by omega),d],by rw[Oc,a _ (by omega),z]⟩
def Cw(a b c d:NH)(w:Nt):(Op.equalIn 10000 26 (.agg #[a,b]) (.agg #[c,d])).run Ya w=.ok (decide ((a,b)=(c,d))) w:=by
 have u26:Ya.underlying 26=Tryz.prog.underlying 26:=Tp.und 26;have u3:Ya.underlying 3=Nq (.int .i64):=by rw[Tp.und];exact SI
 have f:Ya.underlying 26=Nq (.struct (Ya.fieldsOf 26)):=by kernel_rfl
 have e:Ya.stoodInHeld 26=NC:=by kernel_rfl
 rw[show(10000:NA)=9999+1 from rfl,run_equalIn_agg w 9999 26 _ _ f e];simp only[Program.fieldsOf,u26,Tryz.underlying26];go_simp;by_cases h:a=c<;>by_cases g:b=d<;>simp[h,g]
def Ie(a b c d:NH)(w:Nt):(binOp .neq 26 (.agg #[a,b]) (.agg #[c,d])).run Ya w=.ok (.bool (!decide ((a,b)=(c,d)))) w:=by
 rw[run_neq_struct,Cw];rfl
def If(a b c d:NH)(w:Nt):(binOp .eql 26 (.agg #[a,b]) (.agg #[c,d])).run Ya w=.ok (.bool (decide ((a,b)=(c,d)))) w:=by
 rw[run_eql_struct,Cw];rfl
def sK(c:BinOp)(x y:OQ)(a b:NJ Ny)(w:Nt):(eqGuard c 26 x y (.agg a) (.agg b)).run Ya w=.ok () w:=run_eqGuard_agg w c 26 x y a b (by kernel_rfl)
def ft(a:Nu Par)(l:Nu NH):Nu (NH × NH):=(Oo l.length).map λi=>(loadAt (pre Par.mn a a.length) l i,loadAt (pre Par.mx a a.length) l i)
def tn(Z ha Y hb:NA)(O N:Ny)(a b:Nu (NH × NH))(w:Nt)(Q:aV Z ha w O a)(P:aV Y hb w N b) :Oz Ya 51 #[O,N] w λe X=>e=.returned (.bool (decide (a=b)))/\w.gb X Ns:=by
 obtain⟨ba,ca,rfl,a7,D⟩:=Q.cell;obtain⟨bb,cb,rfl,a6,R⟩:=P.cell;have⟨H1,H2⟩:=aQ D R;clear D R Q P;by_cases c:a.length=b.length
 ·have U:=Np c;have h:((a.length:NH) != (b.length:NH))=NC:=by rw[c];simp
  clear c;go_enter Tp.x51,ZN;go_wp2;go_loopw [5] (λI wr=>∃k:NA,I=.int .i64 k/\k<=a.length/\(∀i,i<k->a[i]?=b[i]?)/\w.gb wr Ns) (λI _=>(a.length - OP I).toNat)
  case atStart=>exact⟨0,rfl,by omega,λi H=>absurd H (by omega),NN _ _⟩
  case round=>
   obtain⟨k,rfl,hk,y,j⟩:=hrel;have⟨G,M⟩:=aQ y j;clear y;by_cases g:k<a.length
   ·have f:k<b.length:=by have:=U.out;omega
    obtain⟨A1,o1,rfl,d5,c9,c8,C⟩:=H1.out (by intro e;rw[e] at g;simp at g);obtain⟨B1,o2,rfl,c3,b9,b8,B⟩:=H2.out (by intro e;rw[e] at f;simp at f);have⟨p,T,r,o⟩:=C k g;have⟨q,S,n,l⟩:=B k f;have x1:=j.cl r;have x2:=j.cl o;have y1:=j.cl n;have y2:=j.cl l;obtain⟨x,v⟩:=p;obtain⟨u,s⟩:=q;have a8:(k:NH)<(b.length:NH):=by omega
    have a9:(k:NH)<(a.length:NH):=by omega
    have⟨W,V⟩:=aQ T S;clear C B j T S r o n l;have A:=Ie x v u s;have b0:=sK .neq (.tmp 20) (.tmp 24) #[x,v] #[u,s];by_cases d:(x,v)=(u,s)
    ·have z:decide ((x,v)=(u,s))=NB:=by simpa using d
     rw[z] at A;have L:=Np d;clear z d;go_upto_region 6 with(fail);go_quiet (fail);go_wp2;go_roundw
     case rel=>
      refine⟨k+1,by simp,by omega,λi H=>?_,M.t (ax _ _ _)⟩;by_cases e:i=k
      ·rw[e,W,V,L]
      ·exact G i (by omega)
     case measure=>simp[OP];omega
    ·have z:decide ((x,v)=(u,s))=NC:=by simpa using d
     rw[z] at A;have F:=Np (show decide (a=b)=NC by
      rw[decide_eq_false_iff_not];intro e;have D:=W.out;rw[e,V] at D;exact d (by cases D;rfl))
     clear z d;go_upto_region 6 with(fail);go_quiet (fail);go_wp2;go_ret;exact⟨by rw[F];rfl,M.t (ax _ _ _)⟩
   ·obtain rfl:k=a.length:=by omega
    have F:=Np (show decide (a=b)=NB by
     rw[decide_eq_true_eq];refine RO λi=>?_;by_cases H:i<a.length
     ·exact G i H
     ·rw[OO (by omega),OO (by have:=U.out;omega)])
    clear j;go_wp2;go_ret;exact⟨by rw[F];rfl,M⟩
 ·have F:=Np (show decide (a=b)=NC by
   rw[decide_eq_false_iff_not];intro e;exact c (by rw[e]))
  have h:((a.length:NH) != (b.length:NH))=NB:=by simp;omega
  clear c;go_enter Tp.x51,ZN;go_wp2;go_ret;exact⟨by rw[F];rfl,NN _ _⟩
def AD(a:Nu Par)(l:Nu NH):(ft a l).length=l.length:=by simp[ft]
def yG(a:Nu Par)(l:Nu NH)(k:NA)(h:k<l.length):(ft a l).take (k+1)=(ft a l).take k++[(loadAt (pre Par.mn a a.length) l k,loadAt (pre Par.mx a a.length) l k)]:=by
 rw[OR];simp[ft,h]
def Dz(D p:NA)(pv qv:Ny)(c:Nu Par)(b:NH)(l:Nu NH)(w:Nt)(hP:aD D p w pv c)(hI:aj D p w qv l)(s5:p<=w.heap.size)(T:YOk c b)(hp:POk c b l) :Oz Ya 35 #[.agg #[pv,b],qv] w λe C=>∃v,e=.returned (.tuple #[v,.int .i64 0])/\w.gb C Ns/\aV w.heap.size C.heap.size C v (ft c l):=by
 have⟨i0,l7,k8,k7,k6⟩:=PM Tp.info26p;obtain⟨R,Q,rfl,r8,-⟩:=hP.cell;obtain⟨base,m6,rfl,s4,-⟩:=hI.cell;have⟨A,w1,hA,S,H,Z⟩:=bI w (.cells #[.slice R c.length Q,b] 24);have l5:w1.heap.size=A+1:=by rw[S,NW,hA]
 have e6:=Np (hI.kept H);have d9:=Np (hP.kept H);have⟨m7,HA,n8⟩:=bC S hA H;have q0:=aa Z (o:=0) rfl;have q1:=aa Z (o:=1) rfl;have s6:p<=A:=by omega
 have⟨HY,m9⟩:=aQ T hp;have l6:l.length<=100:=hp.len;have a9:∀x∈l,0<=x/\x<5:=λx hx=>by have h1:=hp.ok x hx;have h2:=T.len;omega
 have d8:=Np a9;clear hP hI T hp S hA H Z a9;go_enter Tp.x35,Tryz.ntmps35;go_upto_region 1 with(fail);rw[<- HA,<- m7];go_upto_region 2 with(go_at_call 81;refine(jO D p _ _ c b l _ d9 e6 (by omega) HY m9).mono ?_;rintro e w2 ⟨rfl,c9⟩;have L:=Np c9;clear c9);have l4:=L.out.size;obtain⟨Y,F⟩:∃Y,Y=w2.heap.size:=⟨_,rfl⟩;obtain⟨f,q⟩:∃f,f=w2.alloc (.cells #[.slice R c.length Q,b] 91):=⟨_,rfl⟩;have G:w2.gb f Ns:=by rw[q];exact Nr _ _ Ns
 have d5:f.heap[Y]?=Nq (.cells #[.slice R c.length Q,b] 91 (0,0)):=by rw[q,F];exact NL _ _
 have k9:f.heap.size=Y+1:=by rw[q,NW,F]
 rw[<- F,<- q];clear q0 q1;have M:=Np d5;have g5:=Np ((n8.t L).t G);have n6:=Np ((e6.kept L).kept G);have n2:=Np ((d9.kept L).kept G);have s7:A<Y:=by omega
 have n:p<=f.heap.size:=by omega
 have s2:w.heap.size<=f.heap.size:=g5.out.size;clear G d5 q F l5 l4 k9;have s0:=aa M (o:=0) rfl;have s1:=aa M (o:=1) rfl;go_upto_region 5 with(fail);have a:=Np (NN f Ns);have a8:∀W,f.gb W Ns->dh D p W (.agg #[.slice R c.length Q,b]) c b:=λW h=>⟨_,rfl,n2.kept h⟩;have b6:∀W,f.gb W Ns->aj D p W (.slice base l.length m6) l:=λW h=>n6.kept h;have b0:∀W,f.gb W Ns->W.cell? Y=Nq (.slice R c.length Q)/\W.cell? ⟨Y,1,Ns⟩=Nq (.int .i64 b):=λW h=>
  ⟨aa (bk h M) rfl,aa (bk h M) rfl⟩
 have⟨d6,e5,z⟩:=bC a8 b6 b0;clear a8 b6 b0;have P:=Np (z f (NN f Ns));obtain⟨I,V⟩:∃I,I=pre Par.mn c c.length:=⟨_,rfl⟩;obtain⟨gx,U⟩:∃gx,gx=pre Par.mx c c.length:=⟨_,rfl⟩;have b9:∀i,0<=I i/\I i<=1000:=by rw[V];exact HY.mn
 have b8:∀i,0<=gx i/\gx i<=1000:=by rw[U];exact HY.mx
 have⟨e8,e7,g7,g6⟩:=cJ V U b9 b8;clear V U b9 b8;go_region_held3 (λC=>C.cell? Y=Nq (.slice R c.length Q)/\C.cell? ⟨Y,1,Ns⟩=Nq (.int .i64 b))
  (first | exact P)
  (first
   | (go_at_call 92;refine(kZ D p _ c b _ (d6 _ (by first | exact a | exact a.t (ai _ _))) (NM n (by first | exact a.size | exact(a.t (ai _ Ns)).size)) HY.len).mono ?_;rintro e w5 ⟨rfl,d⟩;rw[<- e7];replace a:=Np (show f.gb w5 Ns by first | exact a.t d | exact(a.t (ai _ _)).t d);replace P:=Np (z w5 a);clear d)
   | (go_at_call 91;refine(lN D p _ _ l _ _ (e5 _ (by first | exact a | exact a.t (ai _ _))) (NM n (by first | exact a.size | exact(a.t (ai _ Ns)).size)) d8 (by omega) (by first | exact g7 | exact g6) ⟨_,_,rfl⟩).mono ?_;rintro e w5 ⟨lv,rfl,d,X⟩;have hc:=X.cell;rw[gH] at hc;obtain⟨mb,mc,rfl,-,-⟩:=hc;have HM:=Np X;replace a:=Np (show f.gb w5 Ns by first | exact a.t d | exact(a.t (ai _ _)).t d);replace P:=Np (z w5 a);clear d X))
 rename_i wa wm hHeld
 clear hHeld s0 s1;have s8:=Np a;have s0:=P.out.1;have s1:=P.out.2;go_upto_region 6 with(fail);go_region_held3 (λC=>C.cell? Y=Nq (.slice R c.length Q)/\C.cell? ⟨Y,1,Ns⟩=Nq (.int .i64 b))
  (first | exact P)
  (first
   | (go_at_call 93;refine(lO D p _ c b _ (d6 _ (by first | exact a | exact a.t (ai _ _))) (NM n (by first | exact a.size | exact(a.t (ai _ Ns)).size)) HY.len).mono ?_;rintro e B ⟨rfl,d⟩;rw[<- e8];replace HM:=Np (HM.kept (row:=Ns) (show World.gb _ B Ns by first | exact d | exact(ai _ _).t d) (by simp));replace a:=Np (show f.gb B Ns by first | exact a.t d | exact(a.t (ai _ _)).t d);replace P:=Np (z B a);clear d)
   | (go_at_call 91;refine(lN D p _ _ l _ _ (e5 _ (by first | exact a | exact a.t (ai _ _))) (NM n (by first | exact a.size | exact(a.t (ai _ Ns)).size)) d8 (by omega) (by first | exact g7 | exact g6) ⟨_,_,rfl⟩).mono ?_;rintro e B ⟨lv,rfl,d,X⟩;have hc:=X.cell;rw[gH] at hc;obtain⟨lb,lc,rfl,-,-⟩:=hc;have HL:=Np X;replace HM:=Np (HM.kept (row:=Ns) (show World.gb _ B Ns by first | exact d | exact(ai _ _).t d) (by simp));replace a:=Np (show f.gb B Ns by first | exact a.t d | exact(a.t (ai _ _)).t d);replace P:=Np (z B a);clear d X))
 rename_i hHeld
 clear hHeld s0 s1;have y:=HL.out.cell;have u:=HM.out.cell;rw[gH] at y u;obtain⟨_,_,he,-,y⟩:=y;cases he;obtain⟨_,_,he,-,u⟩:=u;cases he;have⟨p3,n9⟩:=aQ y u;have e9:=Np (g5.t a);clear y u;have m3:Wn (∀k,k<l.length->(eR ((ft c l).take (k+1)))=eR ((ft c l).take k)++[.int .i64 (loadAt I l k),.int .i64 (loadAt gx l k)]):=Np λk hk=>by
  rw[yG c l k hk,sH,e8,e7]
 go_wp2;go_loopw [8,32] (λov iv wr=>∃k:NA,iv=.int .i64 k/\k<=l.length/\B.gb wr Ns/\wr.ownsRow B.heap.size 26 2 ov k (eR ((ft c l).take k))) (λ_ iv _=>(l.length - OP iv).toNat)
 case atStart=>exact⟨0,rfl,by omega,NN _ _,by simpa[eR] using PX _ _ _ _⟩
 case round=>
  obtain⟨k,rfl,hk,hG,hO⟩:=hrel;obtain⟨oa,om,oc,rfl⟩:=cd hO;have⟨HG,HO⟩:=aQ hG hO;have s3:=hG.size;by_cases r:k<l.length
  ·have O:ldL I l≠[]:=by intro e;have:=gH I l;rw[e] at this;simp at this;omega
   have N:ldL gx l≠[]:=by intro e;have:=gH gx l;rw[e] at this;simp at this;omega
   obtain⟨LB,r6,rfl,-,-,-,c8⟩:=p3.out O;obtain⟨MB,r4,rfl,-,-,-,c3⟩:=n9.out N;have x1:=hG.cl (c8 k r);have x2:=hG.cl (c3 k r);rw[qx I l k r] at x1;rw[qx gx l k r] at x2;have HS:=Np (m3 k r);generalize loadAt I l k=p1 at x1 HS;generalize loadAt gx l k=p2 at x2 HS;have p7:(k:NH)<(l.length:NH):=by omega
   clear c8 c3 O N hG hO;go_wp2_with (at_builtin;(refine Rv _ rfl _ _ 48 rfl B.heap.size 26 i0 _ 2 16 Tp.und48 l7 k8 k7 k6 rfl (by decide) (.slice oa om oc) k _ rfl (HO.alloc _) ⟨wr.heap.size,0,Ns⟩ 1 1 [.int .i64 p1,.int .i64 p2] rfl rfl (Pt (cs:=#[p1,p2]) (t:=26) (fr:=(0,0)) (NL wr _)) (by simp[PT]) (by unfold Rh;omega) (by omega) (by simp;omega) ?_);intro v' w7 g s _;obtain⟨g',q2,rfl⟩:=ownsRow_succ g;have n3:=Np g;have n7:=Np s;clear g s);go_roundw
   case rel=>
    refine⟨k+1,by simp,by omega,(HG.t (Nr _ _ Ns)).andThen n7 (λj e=>.inl (HO.lt j e).1),?_⟩;rw[HS];exact n3
   case measure=>simp[OP];omega
  ·obtain rfl:k=l.length:=by omega
   clear hG hO;go_wp2;go_ret2;have h0:=HO.out;rw[show(ft c l).take l.length=ft c l from UP (by simp[ft])] at h0;exact⟨_,rfl,e9.t HG,(aV.own h0 (by rw[AD];omega)).mono e9.size (Nv _)⟩
def dT(a:Nu Par)(l:Nu NH)(k:NA):NH:=match l[k]? with
 | some x=>if 0<=x/\x<a.length then(if x∈l.take k then 4 else 0) else 3
 | none=>0
def lY(a:Nu Par)(b:NH)(l:Nu NH):NH:=match (Oo l.length).find? (λk=>decide (dT a l k≠0)) with
 | some k=>dT a l k
 | none=>ss a b l
def oq{a:Nu Par}{b:NH}{l:Nu NH}{k:NA}{e:NH}(n:∀j,j<k->dT a l j=0)(g:k<l.length)(f:dT a l k=e)(o:e≠0):lY a b l=e:=by
 unfold lY;rw[qA (λk=>decide (dT a l k≠0)) (Oo l.length) k k (Ra g) (by simp[f,o]) (λi y h d=>by
  have c:y=i:=by rw[Ra (by omega)] at d;exact(QQ d).symm
  subst c;simp[n y h])]
 exact f
def wP{b:Nu Par}{a:NH}{l:Nu NH}(f:∀j,j<l.length->dT b l j=0):lY b a l=ss b a l:=by
 unfold lY;rw[lS _ _ (λi y d=>by
  have e:i<l.length:=by have:=(NT.1 d).1;simpa using this
  have c:y=i:=by rw[Ra e] at d;exact(QQ d).symm
  subst c;simp[f y e])]
def mY{c:Nu Par}{l:Nu NH}{k:NA}(e:∀j,j<k->dT c l j=0)(f:k<=l.length):∀x∈l.take k,0<=x/\x<c.length:=λx d=>by
 have⟨j,b⟩:=TN.1 d;have a:j<k:=by have:=(NT.1 b).1;simp at this;omega
 rw[PI a] at b;have h:=e j a;unfold dT at h;rw[b] at h;simp only at h;split at h
 ·assumption
 ·cases h
def AZ(lo hi:NA)(yv pv:Ny)(c:Nu Par)(g:NH)(l:Nu NH)(w:Nt)(hY:dh lo hi w yv c g)(hI:aj lo hi w pv l)(q2:hi<=w.heap.size)(h5:c.length<=5)(ht:∀p∈c,0<=p.tall/\p.tall<=1000)(l5:l.length<=1000) :Oz Ya 133 #[yv,pv] w λe r=>e=.returned (.int .i64 (lY c g l))/\w.gb r Ns:=by
 have p6:∀(fn:Fn) (first a7:NJ Ny) (w:Nt),(Zd fn first a7).run Ya w=.ok (.func fn first a7) w:=λ_ _ _ _=>rfl;have l4:∀(x:OI) (w:Nt),(Op.unary .not (.bool x)).run Ya w=.ok (.bool (!x)) w:=λ_ _=>rfl;obtain⟨qv,rfl,hP⟩:=hY;obtain⟨yb,yc,rfl,n4,-⟩:=hP.cell;obtain⟨base,a7,rfl,p7,-⟩:=hI.cell;have⟨A,w1,hA,b6,I,N,b9,e4⟩:=bY w (.cells #[.slice yb c.length yc,g] 91) (.cells #[.int .i64 0] 40);have g9:=Np (hI.kept I);have g6:=Np (hP.kept I);have⟨HT,g5,HA,Q,a9⟩:=nW ht b6 hA I b9;have q0:=aa N (o:=0) rfl;have q1:=aa N (o:=1) rfl;clear hI hP ht b6 hA I N b9;go_enter_defers Tp.x133,Zo;go_upto_region 4 with(fail);rw[<- HA,<- g5];go_wp2;go_loopw [5,6,12] (λmv tv iv wr=>∃k:NA,iv=.int .i64 k/\k<=l.length/\mv=.int .u8 (bL (l.take k))/\tv=.int .i64 (aN c (l.take k))/\0<=aN c (l.take k)/\aN c (l.take k)<=1000*k/\w1.gb wr Ns/\∀j,j<k->dT c l j=0) (λ_ _ iv _=>(l.length - OP iv).toNat)
 case atStart=>exact⟨0,rfl,by omega,by simp[bL],by simp[aN],by simp[aN],by simp[aN],NN _ _,λj hj=>by omega⟩
 case round=>
  obtain⟨k,rfl,hk,rfl,rfl,W,V,hG,Z⟩:=hrel;have HX:=Np (mY Z (Nat.le_of_lt_succ (Nat.lt_succ_of_le hk)));have R:=Np Z;clear Z;have F:=Np hG;have m8:=hG.cl q0;have m6:=hG.cl q1;have n6:=hG.size;clear hG;by_cases s:k<l.length
  ·have P:=g9.out.kept F;have O:=g6.out.kept F;obtain⟨b1,c1,he,-,hc⟩:=P.cell;cases he;obtain⟨B,o,rfl,N,q8,q7,L⟩:=hc (by intro e;rw[e] at s;simp at s);have hx:=L k s;obtain⟨x,i⟩:∃x,l[k]?=Nq x:=⟨_,ND s⟩;rw[i] at hx;simp only[NK] at hx;have hM:bL (l.take k)<32:=jR _ 5 λy hy=>by have:=HX.out y hy;omega
   by_cases H:0<=x/\x<c.length;rotate_left
   ·have HE:=Np (show lY c g l=3 from oq R s (by unfold dT;rw[i];simp only[if_neg H]) (by decide));have g8:=Np (show ¬ (0<=x/\x<=(c.length:NH) - 1) from λh=>H ⟨h.1,by omega⟩);have a:=bk F a9;have b8:=aa (o:=0) a rfl;have b7:=aA (o:=0) a;have n:=Np a;have n8:IntKind.i64.wrap ((c.length:NH) - 1)=(c.length:NH) - 1:=Ov _ (by omega);clear P O hc L a i H;go_wp2_with (first
     | (go_at_call 110;refine(fH _ _ _ _ g8).mono ?_;rintro e r ⟨rfl,rfl⟩)
     | (go_at_call 162;refine(vW _ _).mono ?_;rintro e r ⟨rfl,rfl⟩))
    refine UF (f:=161) (args:=#[.pointer (Nq (A+1:NA))]) (by simp) (by simp[go_sem]) ?_;refine(lU (A+1) 0 3 [] _ n).mono ?_;rintro e u' U ⟨rfl,rfl,rfl⟩;have Y:=Q.out.t F;have q:=ar (o:=0) (v:=.int .i64 3) (aE (p:=.cells #[.int .i64 3] 181) n);simp[Leaves,settle,Qo,TD,go_sem,OA,q,HE.out];exact(Y.t (Nr _ _ Ns)).andThen (an _ _ _ _) (by rintro j e;cases e;exact .inl (by have:=HA.out;omega))
   obtain⟨d9,G⟩:=H;have C:=oP l k x i;have z:=jD c l k x i;have u:dT c l k=if x∈l.take k then 4 else 0:=by unfold dT;rw[i];simp only[if_pos (NY d9 G)]
   have b:(bL (l.take k)).testBit x.toNat=decide (x∈l.take k):=by
    rw[Bool.eq_iff_iff,nM,decide_eq_true_eq];constructor
    ·rintro⟨y,hy,n3⟩;have:=HX.out y hy;obtain rfl:y=x:=by omega
     exact hy
    ·exact λh=>⟨x,h,rfl⟩
   obtain⟨m,rfl⟩:∃m:NA,x=m:=⟨x.toNat,by omega⟩;obtain⟨b2,c2,he,-,hc⟩:=O.cell;cases he;obtain⟨YB,yo,rfl,q5,q4,q3,a6⟩:=hc (by intro e;rw[e] at G;simp at G;omega);have⟨p,hp,p0,p1,p2,p3⟩:=a6 m (by omega);have n9:=HT.out p (Od hp);rw[show dq c m=p.tall by unfold dq;simp[hp]] at z;simp only[Int.toNat_natCast] at b C;have p5:(m:NH)<(c.length:NH):=G;have X:m<5:=by omega
   generalize bL (l.take k)=M at b hM C;generalize aN c (l.take k)=T at W V z;by_cases d:(m:NH)∈l.take k
   ·have HE:=Np (show lY c g l=4 from oq R s (by rw[u,if_pos d]) (by decide));rw[decide_eq_true d] at b;have D:=Np b;have a:=bk F a9;have b8:=aa (o:=0) a rfl;have b7:=aA (o:=0) a;have n:=Np a;clear P O hc L a6 hp b C z i u d a;go_upto_region 8 with(first
     | (go_at_call 110;refine(dQ _ _ _ _ (by omega) (by omega)).mono ?_;rintro e r ⟨rfl,rfl⟩)
     | (go_at_call 162;refine(rD _ _).mono ?_;rintro e r ⟨rfl,rfl⟩))
    go_wp2_with (first
     | (go_at_call 129;refine(qz M m _ hM X).mono ?_;rintro e r ⟨rfl,rfl⟩;rw[D])
     | (go_at_call 162;refine(vW _ _).mono ?_;rintro e r ⟨rfl,rfl⟩))
    refine UF (f:=161) (args:=#[.pointer (Nq (A+1:NA))]) (by simp) (by simp[go_sem]) ?_;refine(lU (A+1) 0 4 [] _ n).mono ?_;rintro e u' U ⟨rfl,rfl,rfl⟩;have Y:=Q.out.t F;have q:=ar (o:=0) (v:=.int .i64 4) (aE (p:=.cells #[.int .i64 4] 181) n);simp[Leaves,settle,Qo,TD,go_sem,OA,q,HE.out];exact(Y.t (Nr _ _ Ns)).andThen (an _ _ _ _) (by rintro j e;cases e;exact .inl (by have:=HA.out;omega))
   rw[decide_eq_false d] at b;rw[if_neg d] at u;have⟨k0,D,g7,a8,q9⟩:=nW u b C z i;clear P O hc L a6 hp b C z i u d;go_wp2_with (first
    | (go_at_call 110;refine(dQ _ _ _ _ (by omega) (by omega)).mono ?_;rintro e r ⟨rfl,rfl⟩)
    | (go_at_call 162;refine(rD _ _).mono ?_;rintro e r ⟨rfl,rfl⟩)
    | (go_at_call 129;refine(qz M m _ hM X).mono ?_;rintro e r ⟨rfl,rfl⟩;rw[D])
    | (go_at_call 151;refine(ng M m _ hM X).mono ?_;rintro e r ⟨rfl,rfl⟩)
    | (go_at_call 145;refine(qN _ _ _ T p.tall _ (by exact aj.laid _ [T,p.tall] 2 rfl (by simp)) (by omega) (by omega)).mono ?_;rintro e r ⟨rfl,rfl⟩))
   go_roundw
   case rel=>
    refine⟨k+1,by simp,by omega,by rw[g7],by rw[a8],by rw[a8];omega,by rw[a8];omega,F.t (Nr _ _ _),λj hj=>by
     by_cases e:j=k
     ·rw[e];exact k0
     ·exact R j (by omega)⟩
   case measure=>simp[OP];omega
  ·obtain rfl:k=l.length:=by omega
   rw[Ps] at W V;rw[Ps];have HZ:=Np (show lY c g l=if aN c l<=g then 0 else 10 from wP R);generalize aN c l=T at W V HZ;generalize bL l=M;have a:=bk F a9;have b8:=aa (o:=0) a rfl;have b7:=aA (o:=0) a;have n:=Np a;have n7:=e4;clear a;by_cases S:T<=g
   ·have HC:=Np (HZ.t (if_pos S));go_wp2_with (go_at_call 162;refine(rD _ _).mono ?_;rintro e r ⟨rfl,rfl⟩);refine UF (f:=161) (args:=#[.pointer (Nq (A+1:NA))]) (by simp) (by simp[go_sem]) ?_;refine(sE ⟨A+1,0,Ns⟩ _).mono ?_;rintro e u' U ⟨rfl,rfl,rfl⟩;have q:(((wr.setCell (A+1:NA) (.int .i64 0)).alloc (.cells #[.int .i64 0] 181)).heap[A+1]?=Nq (.cells #[.int .i64 0] 40 (0,0))):=aE (by rw[ar n];rfl);refine⟨.int .i64 0,?_,by rw[HC],?_⟩
    ·simp[Qo,TD,go_sem,OA,q]
    ·have Y:=Q.out.t F;exact(Y.andThen (an _ _ _ _) (by rintro j e;cases e;exact .inl (by have:=HA.out;omega))).t (Nr _ _ _)
   ·have HC:=Np (HZ.t (if_neg S));have p4:decide (T<=g)=NC:=by simp;omega
    go_wp2_with (go_at_call 162;refine(vW _ _).mono ?_;rintro e r ⟨rfl,rfl⟩);refine UF (f:=161) (args:=#[.pointer (Nq (A+1:NA))]) (by simp) (by simp[go_sem]) ?_;refine(lU (A+1) 0 10 [] _ n).mono ?_;rintro e u' U ⟨rfl,rfl,rfl⟩;have Y:=Q.out.t F;have q:=ar (o:=0) (v:=.int .i64 10) (aE (p:=.cells #[.int .i64 10] 181) n);simp[Leaves,settle,Qo,TD,go_sem,OA,q,HC.out];exact(Y.t (Nr _ _ Ns)).andThen (an _ _ _ _) (by rintro j e;cases e;exact .inl (by have:=HA.out;omega))
def zJ{c:Nu Par}{b:NH}(h:dS c b=0):YOk c b:=by
 unfold dS at h;by_cases e:5<c.length
 ·rw[if_pos e] at h;cases h
 ·rw[if_neg e] at h;cases hf:c.find? (λp=>decide (kE p≠0)) with
  | some p=>
   rw[hf] at h;have:=List.find?_some hf;simp at this;exact absurd h this
  | none=>
   rw[hf] at h;simp only at h;have d:1<=b/\b<=12:=OK λg=>by rw[if_neg g] at h;cases h
   refine⟨by omega,λp f=>?_,d.1,d.2⟩;have a:=Sa.1 hf p f;simp only[decide_eq_true_eq,ne_eq,Decidable.not_not] at a;unfold kE at a;split at a
   ·split at a
    ·split at a
     ·cases a
     ·split at a
      ·split at a
       ·omega
       ·cases a
      ·cases a
    ·cases a
   ·cases a
def Ds(O y:NA)(S qv:Ny)(d:Nu Par)(a:NH)(l:Nu NH)(w:Nt)(T:aD O y w S d)(U:aj O y w qv l)(e7:y<=w.heap.size)(B:YOk d a)(C:l.length<=1000) :Oz Ya 81 #[.agg #[S,a],qv] w λe w'=>e=.returned (.tuple #[.agg #[S,a],(lY d a l)])/\w.gb w' Ns:=by
 obtain⟨u,s,rfl,d7,-⟩:=T.cell;obtain⟨base,g5,rfl,e6,-⟩:=U.cell;have⟨A,w1,hA,z,n,r,G,e4⟩:=bY w (.cells #[.slice u d.length s,a] 24) (.cells #[.slice Ns 0 0,.int .i64 0] 91);have b0:=Np (U.kept n);have M:=Np (T.kept n);have⟨Z,HA,b8,a7,g6⟩:=nW z hA n G r;have R:=aa r (o:=0) rfl;have Q:=aa r (o:=1) rfl;have e8:y<=A:=by omega
 have V:=Np B;clear T U B z hA n G r;go_enter Tp.x81,Yl;go_upto_region 1 with(fail);rw[<- HA,<- Z];go_upto_region 4 with(go_at_call 52;refine(oY O y _ d a _ ⟨_,rfl,M⟩ (by omega)).mono ?_;rintro e P ⟨rfl,L⟩;rw[V.chk];have c:=Np L;clear L);have p0:=c.out.cl R;have p1:=c.out.cl Q;have d9:=c.out.size;clear R Q;go_upto_region 5 with(fail);obtain⟨Y,i⟩:∃Y,Y=P.heap.size:=⟨_,rfl⟩;obtain⟨x,f⟩:∃x,x=P.alloc (.cells #[.slice u d.length s,a] 91):=⟨_,rfl⟩;have g:P.gb x Ns:=by rw[f];exact Nr _ _ Ns
 have q:x.heap[Y]?=Nq (.cells #[.slice u d.length s,a] 91 (0,0)):=by rw[f,i];exact NL _ _
 have d8:x.heap.size=Y+1:=by rw[f,NW,i]
 rw[<- i,<- f];have R:=aa q (o:=0) rfl;have Q:=aa q (o:=1) rfl;have h:=Np (bk g (blk c (by simp) a7));have N:=Np q;have b7:=Np ((b8.t c).t g);have a9:=Np ((b0.kept c).kept g);have a8:=Np ((M.kept c).kept g);have e9:A+1<Y:=by omega
 clear g q f i p0 p1;go_region_law
  (first
   | (go_simp;go_at_call 133;refine(AZ O y _ _ d a l _ ⟨_,rfl,a8.kept (ai _ Ns)⟩ (a9.kept (ai _ Ns)) (by simp;omega) V.len (λp hp=>by have:=V.out.each p hp;omega) C).mono ?_;rintro e w4 ⟨rfl,I⟩;have b:=Np ((ai x Ns).t I);have r0:=aa (o:=0) (bk b N) rfl;have r1:=aa (o:=1) (bk b N) rfl;have s0:=aa (o:=0) (bk b h) rfl;have s1:=aa (o:=1) (bk b h) rfl;have f0:=aA (o:=0) (bk b h);have f1:=aA (o:=1) (bk b h);clear I))
 all_goals
  have D:=bk b h;obtain⟨W,k⟩:∃W,W=(w4.setCell (A+1:NA) (.slice u d.length s)).setCell ⟨A+1,1,Ns⟩ (.int .i64 a):=⟨_,rfl⟩;have F:W.heap[A+1]?=Nq (.cells #[.slice u d.length s,a] 91 (0,0)):=by rw[k,ar (ar D)];rfl
  have H:w.gb W Ns:=(b7.t b).andThen (row':=Nq (A+1)) (by rw[k];exact(an _ _ _ _).t (an _ _ _ _)) (by rintro j e;cases e;exact .inl (by have:=HA.out;omega));have⟨a6,b6,X⟩:=bC F H k;clear D F H k;go_wp2;rw[<- X];exact Qi (v:=.tuple #[.agg #[.slice u d.length s,a],(lY d a l)]) (by simp[Qo,Xf,go_sem,OA,a6.out]) rfl ⟨rfl,b6⟩
def dN(b:Nu Par)(a:NH)(l:Nu NH):NH:=if dS b a=0 then lY b a l else dS b a
def yt(H s:NA)(G qv:Ny)(g:Nu Par)(d:NH)(l:Nu NH)(w:Nt)(C:aD H s w G g)(M:aj H s w qv l)(y:s<=w.heap.size)(x:l.length<=1000) :Oz Ya 81 #[.agg #[G,d],qv] w λe V=>∃a n c b,e=.returned (.tuple #[.agg #[.slice a n c,.int .i64 b],(dN g d l)])/\w.gb V Ns/\(dS g d=0->.slice a n c=G/\b=d):=by
 by_cases p:dS g d=0
 ·have:=Ds H s G qv g d l w C M y (zJ p) x;unfold dN;rw[if_pos p];refine this.mono ?_;rintro e V ⟨rfl,hg⟩;obtain⟨U,T,rfl,-,-⟩:=C.cell;exact⟨_,_,_,_,rfl,hg,λ_=>⟨rfl,rfl⟩⟩
 ·have z:dN g d l=dS g d:=if_neg p;rw[z];obtain⟨U,T,rfl,a7,-⟩:=C.cell;obtain⟨base,b6,rfl,a8,-⟩:=M.cell;obtain⟨A,w1,X,u,i,r,B,-⟩:=bY w (.cells #[.slice U g.length T,d] 24) (.cells #[.slice Ns 0 0,.int .i64 0] 91);have Q:=Np (C.kept i);have⟨O,Y,R,P⟩:=cJ u X i B;have q0:=aa r (o:=0) rfl;have q1:=aa r (o:=1) rfl;have I:s<=w1.heap.size:=NM y i.size;clear C M u X i B r z;obtain⟨c,k⟩:∃c,c=dS g d:=⟨_,rfl⟩;rw[<- k] at p ⊢;have S:=Np k;have b0:(c == 0)=NC:=by rw[beq_eq_false_iff_ne];exact p
  have HC:=Np p;clear k p;go_enter Tp.x81,Yl;go_upto_region 1 with(fail);rw[<- Y,<- O];go_upto_region 2 with(go_at_call 52;refine(oY H s _ g d _ ⟨_,rfl,Q⟩ I).mono ?_;rintro e Z ⟨rfl,D⟩;rw[<- S];have F:=Np D;clear D);have f:=Np (bk F P);have r0:=aa (o:=0) f rfl;have r1:=aa (o:=1) f rfl;have f0:=aA (o:=0) f;have f1:=aA (o:=1) f;go_wp2;obtain⟨W,q⟩:∃W,W=(Z.setCell (A+1:NA) (.slice Ns 0 0)).setCell ⟨A+1,1,Ns⟩ (.int .i64 0):=⟨_,rfl⟩;have L:W.heap[A+1]?=Nq (.cells #[.slice Ns 0 0,.int .i64 0] 91 (0,0)):=by rw[q,ar (ar f)];rfl
  have N:w.gb W Ns:=(R.t F).andThen (row':=Nq (A+1)) (by rw[q];exact(an _ _ _ _).t (an _ _ _ _)) (by rintro j e;cases e;exact .inl (by have:=Y.out;omega));rw[<- q];exact Qi (v:=.tuple #[.agg #[.slice Ns 0 0,.int .i64 0],.int .i64 c]) (by simp[Qo,Xf,go_sem,OA,L]) rfl ⟨_,_,_,_,rfl,N,λh=>absurd h HC⟩
end
end Go.Proofs.YtidgnkmjgioapaaGreat
