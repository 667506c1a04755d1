/-
  Part 3 of the proof. gladstonelaw04.PileChecks answers true for every yard, parcel, pile, number and list of numbers, and leaves its arguments as they were. No conditions.
-/
import Derived.Test.YtidgnkmjgioapaaGreatChecked
import Derived.KernelRfl
import Derived.WalkKit
import Derived.WalkSpells
import Derived.WalkLawsBesides
import GoSem.Step
import Derived.RegionTactic
import Derived.ChangeAlike
import Derived.Deep.QuietTactic
import Derived.BigQuiet
import Derived.OneCell
import Derived.Maps.AppendAt
import Derived.Lib.Hide
import Derived.Maps.Range
import Derived.Deep.AppendLies
import Derived.Deep.RegionHeld3
import Derived.Deep.RegionLawGrows
import Derived.LoopTactic
import Derived.Deep.DeepCutAuto
import Derived.LoopIn
import Derived.LoopNIn
import Derived.BigRegion
import Derived.Deep.RegionLaw
import Derived.Recover
import Derived.Defers
import Derived.Deep.OwnRows
import Derived.StillTail
import Derived.Maps.RangeWalk
import Derived.OrdersHeld
import Derived.RangeFuncNested
import Derived.RangeFuncBound
import Derived.RangeFuncCalls
import Derived.RangeFuncLeaves
import Derived.RangeFuncFrom
import Derived.OrdersIn
import Derived.TacticsIn
import Derived.Conc.WgGenN3
import Derived.Laws.StructEq
import Derived.RangeFuncBox
set_option maxRecDepth 100000
set_option maxHeartbeats 8000000
set_option linter.all false
open And renaming intro->qhb
open Array renaming all_eq_true_iff_forall_mem->qiA,getElem?_eq_some_iff->qgy,getElem?_modify->qll,getElem?_setIfInBounds->qhG,getElem?_setIfInBounds_ne->qif,getElem?_setIfInBounds_self_of_lt->qk7,mem_of_getElem?->qiE,mem_toList_iff->qjm,replicate->qi0,replicate_succ->qhq,replicate_zero->qhr
open Bool renaming and_eq_true->qhh,false_eq_true->qhy,not_eq_true'->qjA,not_true->qmx,or_eq_true->qju
open Classical renaming byContradiction->qhF
open Go renaming Addr->qi5,Calls->qhw,Code->qje,Oper->qiu,Operand->qhE,PanicEntry->qlG,Program->qh2,TypeId->qh8,TypeInfo->ql2,Value->qgB,World->qgx,bodyPost_ret->qj8,bytes->qng,callsIn_wide->qjt,execOp->qk3,grownBy_putObj'->qkn,heap_alloc_new->qgF,info_parts->qjj,leaves_cons->qn7,madeCells->qmt,maxLen->qkq,results->qjb,results_cell_tmp->qoy,typeInfo->qkA,undef->qgD,underlying->qkf,wpAny_of_seq->qqj,wpList_append_own->qks,wpS_region->qp1,yielded->qj4,zeroValue->qlz
open Go.Addr renaming block->qog
open Go.Builtin renaming append_->qku,zeroCells->qjf
open Go.Calls renaming quiet_of_same->qiH
open Go.Instr renaming endRound->qjG,index->qn5,makeFunc->qr5,makeSlice->qo0,typeAssert->qkz
open Go.IntWalk renaming i64_in->qhp
open Go.Lib renaming hid->qgv
open Go.Proofs.Tryz renaming f136->qnt,f137->qpq,f54->qmy,f8->qo8,f82->qpj,f85->qky,ntmps109->qmz,ntmps110->qpH,ntmps161->qor,ntmps31->qp2,ntmps81->qqi,prog->qh5,results133->qm5,results161->qr1,results81->qpk,t3->qqh,underlying29->qlq
open Go.Region renaming Mode->qkv,binds->qi3,chainB->qos,free->qqG,noSelect->qp8,ready->qhd,seqB->qlE,sinkB->qp3,wanted->qhv
open Go.Result renaming andThen->qmk,andThen_ok->qiv
open Go.RowKit renaming intOf->qi9
open Go.RowKit.Below renaming heap_setCell->qie,refl->qn2
open Go.Sem renaming run_bind->qiy,run_pure->qms
open Go.Value renaming cells->qnE,int->qhj,oneCell'->qjk,ownBlock->qhB,slice->qi1
open Go.World renaming alloc_heap_new->qpl,cell?->qhs,cell?_setCell_other->qiD,cell?_setCell_same->qlx,frozen?->qkr,grownBy_alloc->qgw,news_of_block->qiw,ownsRow_nil->qjh,putObj_heap_other->qlC,putObj_heap_same->qm2,setCell->qjc,size_alloc->qh6
open Go.World.grownBy renaming refl->qh1
open List renaming all_eq_true->qid,append_toArray->qkh,cons_append->qhe,drop_eq_getElem_cons->qjB,drop_eq_nil_of_le->qke,drop_succ_cons->qhu,drop_zero->qia,eq_nil_of_length_eq_zero->qim,ext_getElem?->qls,find?_eq_none->qlk,flatMap_cons->qjr,getElem?_append_left->qhz,getElem?_append_right->qj3,getElem?_drop->qli,getElem?_eq_getElem->qgG,getElem?_eq_none->qi8,getElem?_eq_some_iff->qh9,getElem?_map->qj7,getElem?_of_mem->qnF,getElem?_range->ql3,getElem?_set_ne->qka,getElem?_set_self->ql8,getElem?_take->qm0,getElem?_take_of_lt->qiz,getElem?_toArray->qnn,length_append->qio,length_cons->qh3,length_drop->qle,length_map->qkw,length_nil->qhc,length_set->qmE,map_cons->qla,map_nil->qnh,map_toArray->qmu,mem_append->qjv,mem_cons->qix,mem_map->ql7,mem_of_getElem?->qhg,mem_of_mem_take->qlr,mem_range->qjq,mem_singleton->qjC,nil_append->qho,not_mem_nil->qiF,perm_append_comm->qpd,push_toArray->qhC,range->qht,range'->qnD,range_succ->qkH,size_toArray->qhn,take_add_one->qig,take_length->qis,take_of_length_le->qm1
open Nat renaming add_assoc->qmw,add_mul->qnG,le_refl->qgA,le_trans->qh0,lt_of_lt_of_le->qh7,lt_or_ge->qiC,reduceAdd->qhk,reduceSub->qii,zero_add->qhf
open Option renaming getD_some->qgH,map_some->qip
open Option.some renaming inj->qjF,injEq->qhH
namespace Go.Proofs
section
open Go Go.RowKit
theorem qfe{Y:Type}(p q:qh2)(w:qgx)(r:Unsupported):(unsupported r:Sem Y).run p w=(unsupported r:Sem Y).run q w:=by unfold unsupported;rfl
section
variable(p q:qh2)(h:p.toTables=q.toTables)(w:qgx)(t:qh8)
include h
theorem Yn:p.info? t=q.info? t:=congrArg (λT=>Tables.info? T t) h
theorem qca:p.underlying t=q.underlying t:=by
 unfold Program.underlying;simp only[Yn p q h]
theorem qcb:(qkA t).run p w=(qkA t).run q w:=by
 unfold qkA;show(match p.info? t with | some i=>(pure i:Sem ql2) | none=>stuck "no such type").run p w=(match q.info? t with | some i=>(pure i:Sem ql2) | none=>stuck "no such type").run q w;rw[Yn p q h];cases q.info? t<;>rfl
theorem qeb:(qkf t).run p w=(qkf t).run q w:=by
 unfold qkf;show(match p.underlying t with | some i=>(pure i:Sem TypeDesc) | none=>stuck "no such type").run p w=(match q.underlying t with | some i=>(pure i:Sem TypeDesc) | none=>stuck "no such type").run q w;rw[qca p q h];cases q.underlying t<;>rfl
theorem qdG:(sizeOf t).run p w=(sizeOf t).run q w:=by
 unfold sizeOf;simp only[qiy,qcb p q h];cases(qkA t).run q w<;>rfl
theorem qdF:(qlz t).run p w=(qlz t).run q w:=by
 unfold qlz;simp only[qiy,qcb p q h];cases hh:(qkA t).run q w with
 | ok i w'=>
  simp only[qiv];split
  ·rfl
  ·exact qfe p q w' _
 | _=>simp only[qmk]
theorem qff:(isAgg t).run p w=(isAgg t).run q w:=by
 unfold isAgg;simp only[qiy,qeb p q h];cases hh:(qkf t).run q w with
 | ok i w'=>
  simp only[qiv];split<;>simp only[qms]
 | _=>simp only[qmk]
end
noncomputable def Ya:qh2:={ qh5 with funcs:=Tryz.prog.funcs.setIfInBounds 85 { qky with body:=some (.exit 0) } }
section
variable(w:qgx)(t:qh8)
@[simp] theorem Tp.tables:Ya.toTables=Tryz.prog.toTables:=rfl
@[simp] theorem Tp.und:Ya.underlying t=Tryz.prog.underlying t:=qca _ _ Tp.tables t
@[simp] theorem Tp.rTypeInfo:(qkA t).run Ya w=(qkA t).run qh5 w:=qcb _ _ Tp.tables w t
@[simp] theorem Tp.rUnder:(qkf t).run Ya w=(qkf t).run qh5 w:=qeb _ _ Tp.tables w t
@[simp] theorem Tp.rSizeOf:(sizeOf t).run Ya w=(sizeOf t).run qh5 w:=qdG _ _ Tp.tables w t
@[simp] theorem Tp.rIsAgg:(isAgg t).run Ya w=(isAgg t).run qh5 w:=qff _ _ Tp.tables w t
@[simp] theorem Tp.rZero:(qlz t).run Ya w=(qlz t).run qh5 w:=qdF _ _ Tp.tables w t
end
end
section
open Go Go.RowKit
abbrev Yc (f:Nat)(g:Func):Prop:=Ya.funcs[f]?=some g
abbrev Ye (f:Nat):Prop:=∀(a:Array qgB) (w:qgx),(callFunc f a).run Ya w=.ok (.enter f a) w
theorem Yf(f:Nat)(h:(match Ya.funcs[f]? with | some g=>!(g.name == "runtime.NumGoroutine") && g.body.isSome | none=>false)=true:=by kernel_rfl):Ye f:=by
 intro a w;cases e:Ya.funcs[f]? with
 | none=>rw[e] at h;cases h
 | some g=>
  rw[e] at h;simp only[qhh,qjA] at h;have h1:g.name ≠ "runtime.NumGoroutine" := λhe=>by rw[he] at h;exact absurd h.1 (by decide)
  have h2:g.body≠none:=λhe=>by rw[he] at h;cases h.2
  simp[callFunc,go_sem,e,h1,h2]
theorem Yd{f:Nat}{g:Func}(h:Ya.funcs[f]?=some g:=by kernel_rfl):Yc f g:=h
theorem Tp.x8:Yc 8 qo8:=Yd
theorem Tp.x23:Yc 23 Tryz.f23:=Yd
theorem Tp.x24:Yc 24 Tryz.f24:=Yd
theorem Tp.x25:Yc 25 Tryz.f25:=Yd
theorem Tp.x26:Yc 26 Tryz.f26:=Yd
theorem Tp.x27:Yc 27 Tryz.f27:=Yd
theorem Tp.x28:Yc 28 Tryz.f28:=Yd
theorem Tp.x29:Yc 29 Tryz.f29:=Yd
theorem Tp.x31:Yc 31 Tryz.f31:=Yd
theorem Tp.x32:Yc 32 Tryz.f32:=Yd
theorem Tp.x33:Yc 33 Tryz.f33:=Yd
theorem Tp.x34:Yc 34 Tryz.f34:=Yd
theorem Tp.x35:Yc 35 Tryz.f35:=Yd
theorem Tp.x36:Yc 36 Tryz.f36:=Yd
theorem Tp.x37:Yc 37 Tryz.f37:=Yd
theorem Tp.x38:Yc 38 Tryz.f38:=Yd
theorem Tp.x39:Yc 39 Tryz.f39:=Yd
theorem Tp.x44:Yc 44 Tryz.f44:=Yd
theorem Tp.x48:Yc 48 Tryz.f48:=Yd
theorem Tp.x49:Yc 49 Tryz.f49:=Yd
theorem Tp.x50:Yc 50 Tryz.f50:=Yd
theorem Tp.x51:Yc 51 Tryz.f51:=Yd
theorem Tp.x52:Yc 52 Tryz.f52:=Yd
theorem Tp.x53:Yc 53 Tryz.f53:=Yd
theorem Tp.x54:Yc 54 qmy:=Yd
theorem Tp.x62:Yc 62 Tryz.f62:=Yd
theorem Tp.x63:Yc 63 Tryz.f63:=Yd
theorem Tp.x65:Yc 65 Tryz.f65:=Yd
theorem Tp.x68:Yc 68 Tryz.f68:=Yd
theorem Tp.x69:Yc 69 Tryz.f69:=Yd
theorem Tp.x70:Yc 70 Tryz.f70:=Yd
theorem Tp.x72:Yc 72 Tryz.f72:=Yd
theorem Tp.x80:Yc 80 Tryz.f80:=Yd
theorem Tp.x81:Yc 81 Tryz.f81:=Yd
theorem Tp.x82:Yc 82 qpj:=Yd
theorem Tp.x83:Yc 83 Tryz.f83:=Yd
theorem Tp.x84:Yc 84 Tryz.f84:=Yd
theorem Tp.x89:Yc 89 Tryz.f89:=Yd
theorem Tp.x90:Yc 90 Tryz.f90:=Yd
theorem Tp.x91:Yc 91 Tryz.f91:=Yd
theorem Tp.x92:Yc 92 Tryz.f92:=Yd
theorem Tp.x93:Yc 93 Tryz.f93:=Yd
theorem Tp.x94:Yc 94 Tryz.f94:=Yd
theorem Tp.x95:Yc 95 Tryz.f95:=Yd
theorem Tp.x96:Yc 96 Tryz.f96:=Yd
theorem Tp.x98:Yc 98 Tryz.f98:=Yd
theorem Tp.x99:Yc 99 Tryz.f99:=Yd
theorem Tp.x100:Yc 100 Tryz.f100:=Yd
theorem Tp.x101:Yc 101 Tryz.f101:=Yd
theorem Tp.x102:Yc 102 Tryz.f102:=Yd
theorem Tp.x103:Yc 103 Tryz.f103:=Yd
theorem Tp.x105:Yc 105 Tryz.f105:=Yd
theorem Tp.x106:Yc 106 Tryz.f106:=Yd
theorem Tp.x107:Yc 107 Tryz.f107:=Yd
theorem Tp.x108:Yc 108 Tryz.f108:=Yd
theorem Tp.x109:Yc 109 Tryz.f109:=Yd
theorem Tp.x110:Yc 110 Tryz.f110:=Yd
theorem Tp.x111:Yc 111 Tryz.f111:=Yd
theorem Tp.x112:Yc 112 Tryz.f112:=Yd
theorem Tp.x113:Yc 113 Tryz.f113:=Yd
theorem Tp.x114:Yc 114 Tryz.f114:=Yd
theorem Tp.x117:Yc 117 Tryz.f117:=Yd
theorem Tp.x120:Yc 120 Tryz.f120:=Yd
theorem Tp.x121:Yc 121 Tryz.f121:=Yd
theorem Tp.x122:Yc 122 Tryz.f122:=Yd
theorem Tp.x123:Yc 123 Tryz.f123:=Yd
theorem Tp.x125:Yc 125 Tryz.f125:=Yd
theorem Tp.x126:Yc 126 Tryz.f126:=Yd
theorem Tp.x129:Yc 129 Tryz.f129:=Yd
theorem Tp.x133:Yc 133 Tryz.f133:=Yd
theorem Tp.x134:Yc 134 Tryz.f134:=Yd
theorem Tp.x135:Yc 135 Tryz.f135:=Yd
theorem Tp.x136:Yc 136 qnt:=Yd
theorem Tp.x137:Yc 137 qpq:=Yd
theorem Tp.x145:Yc 145 Tryz.f145:=Yd
theorem Tp.x147:Yc 147 Tryz.f147:=Yd
theorem Tp.x149:Yc 149 Tryz.f149:=Yd
theorem Tp.x150:Yc 150 Tryz.f150:=Yd
theorem Tp.x151:Yc 151 Tryz.f151:=Yd
theorem Tp.x152:Yc 152 Tryz.f152:=Yd
theorem Tp.x153:Yc 153 Tryz.f153:=Yd
theorem Tp.x154:Yc 154 Tryz.f154:=Yd
theorem Tp.x155:Yc 155 Tryz.f155:=Yd
theorem Tp.x156:Yc 156 Tryz.f156:=Yd
theorem Tp.x157:Yc 157 Tryz.f157:=Yd
theorem Tp.x160:Yc 160 Tryz.f160:=Yd
theorem Tp.x161:Yc 161 Tryz.f161:=Yd
theorem Tp.x162:Yc 162 Tryz.f162:=Yd
theorem Tp.x163:Yc 163 Tryz.f163:=Yd
theorem Tp.x164:Yc 164 Tryz.f164:=Yd
theorem Tp.x165:Yc 165 Tryz.f165:=Yd
theorem Tp.x188:Yc 188 Tryz.f188:=Yd
theorem Tp.x197:Yc 197 Tryz.f197:=Yd
theorem Tp.x198:Yc 198 Tryz.f198:=Yd
theorem Tp.x199:Yc 199 Tryz.f199:=Yd
@[simp] theorem Tp.callPf:Ye 24/\Ye 25/\Ye 26/\Ye 27/\Ye 28/\Ye 31/\Ye 32/\Ye 33/\Ye 34/\Ye 35/\Ye 36/\Ye 37/\Ye 38/\Ye 39/\Ye 44/\Ye 48/\Ye 49/\Ye 50/\Ye 51/\Ye 52/\Ye 53/\Ye 54/\Ye 62/\Ye 63/\Ye 65/\Ye 68/\Ye 69/\Ye 70/\Ye 72/\Ye 80/\Ye 81/\Ye 82/\Ye 84/\Ye 89/\Ye 90/\Ye 91/\Ye 92/\Ye 93/\Ye 94/\Ye 95/\Ye 96/\Ye 98/\Ye 99/\Ye 100/\Ye 102/\Ye 103/\Ye 105/\Ye 106/\Ye 107/\Ye 108/\Ye 109/\Ye 110/\Ye 111/\Ye 112/\Ye 113/\Ye 114/\Ye 117/\Ye 121/\Ye 122/\Ye 123/\Ye 125/\Ye 126/\Ye 129/\Ye 133/\Ye 134/\Ye 135/\Ye 136/\Ye 145/\Ye 147/\Ye 150/\Ye 151/\Ye 152/\Ye 153/\Ye 154/\Ye 155/\Ye 156/\Ye 157/\Ye 160/\Ye 161/\Ye 162/\Ye 163/\Ye 164/\Ye 188/\Ye 197/\Ye 198/\Ye 199:=⟨Yf 24,Yf 25,Yf 26,Yf 27,Yf 28,Yf 31,Yf 32,Yf 33,Yf 34,Yf 35,Yf 36,Yf 37,Yf 38,Yf 39,Yf 44,Yf 48,Yf 49,Yf 50,Yf 51,Yf 52,Yf 53,Yf 54,Yf 62,Yf 63,Yf 65,Yf 68,Yf 69,Yf 70,Yf 72,Yf 80,Yf 81,Yf 82,Yf 84,Yf 89,Yf 90,Yf 91,Yf 92,Yf 93,Yf 94,Yf 95,Yf 96,Yf 98,Yf 99,Yf 100,Yf 102,Yf 103,Yf 105,Yf 106,Yf 107,Yf 108,Yf 109,Yf 110,Yf 111,Yf 112,Yf 113,Yf 114,Yf 117,Yf 121,Yf 122,Yf 123,Yf 125,Yf 126,Yf 129,Yf 133,Yf 134,Yf 135,Yf 136,Yf 145,Yf 147,Yf 150,Yf 151,Yf 152,Yf 153,Yf 154,Yf 155,Yf 156,Yf 157,Yf 160,Yf 161,Yf 162,Yf 163,Yf 164,Yf 188,Yf 197,Yf 198,Yf 199⟩
end
end Go.Proofs
namespace Go
section
instance:Coe Nat qi5:=⟨λx=>⟨x,0,none⟩⟩
instance:Coe Int qgB:=⟨λx=>.int .i64 x⟩
instance:Coe Nat qgB:=⟨λx=>.int .i64 x⟩
end
end Go
namespace Go.Proofs.YtidgnkmjgioapaaGreat
section
open Go.RowKit
theorem qg{w:qgx}{b:Nat}{cs:Array qgB}{e:qh8}{o:Nat}{v:qgB}(h:w.heap[b]?=some (.cells cs e (0,0))) :(w.setCell ⟨b,o,none⟩ v).heap[b]?=some (.cells (cs.setIfInBounds o v) e (0,0)):=by
 simp[qjc,qll,h]
theorem qe(w:qgx)(b o:Nat)(v:qgB):w.grownBy (w.setCell ⟨b,o,none⟩ v) (some b) :=
 ⟨rfl,rfl,rfl,by simp[qjc],λk _ hk=>qie _ _ _ _ (λe=>hk (by rw[e]))⟩
theorem qi(w:qgx)(n:Nat)(row:Option Nat):w.grownBy (w.drewN n) row:=⟨rfl,rfl,rfl,qgA _,λ_ _ _=>rfl⟩
theorem qc(w:qgx)(row:Option Nat):w.grownBy w.drew row:=⟨rfl,rfl,rfl,qgA _,λ_ _ _=>rfl⟩
theorem blk{w w':qgx}{row:Option Nat}{X:Nat}{o:Obj}(hg:w.grownBy w' row)(hne:some X≠row)(h:w.heap[X]?=some o):w'.heap[X]?=some o :=
 (hg.block X (qgy.1 h).1 hne).trans h
theorem bk{w w':qgx}{row:Option Nat}{X:Nat}{o:Obj}(hg:w.grownBy w' row)(h:w.heap[X]?=some o)(hne:some X≠row:=by simp):w'.heap[X]?=some o:=blk hg hne h
theorem _root_.Go.World.grownBy.cl{w w':qgx}{row:Option Nat}(hg:w.grownBy w' row){a:qi5}{v:qgB}(h:w.cell? a=some v)(hne:some a.block≠row:=by simp):w'.cell? a=some v:=hg.cell h hne
theorem qH{a0 a1:Prop}(h0:a0)(h1:a1):Hid a0/\Hid a1:=⟨qgv h0,qgv h1⟩
theorem z8{a0 a1 a2:Prop}(h0:a0)(h1:a1)(h2:a2):Hid a0/\Hid a1/\Hid a2:=⟨qgv h0,qgv h1,qgv h2⟩
theorem zY{a0 a1 a2 a3:Prop}(h0:a0)(h1:a1)(h2:a2)(h3:a3):Hid a0/\Hid a1/\Hid a2/\Hid a3:=⟨qgv h0,qgv h1,qgv h2,qgv h3⟩
theorem ZS{a0 a1 a2 a3 a4:Prop}(h0:a0)(h1:a1)(h2:a2)(h3:a3)(h4:a4):Hid a0/\Hid a1/\Hid a2/\Hid a3/\Hid a4:=⟨qgv h0,qgv h1,qgv h2,qgv h3,qgv h4⟩
theorem Kh{a0 a1 a2 a3 a4 a5:Prop}(h0:a0)(h1:a1)(h2:a2)(h3:a3)(h4:a4)(h5:a5):Hid a0/\Hid a1/\Hid a2/\Hid a3/\Hid a4/\Hid a5:=⟨qgv h0,qgv h1,qgv h2,qgv h3,qgv h4,qgv h5⟩
theorem q62{a0 a1 a2 a3 a4 a5 a6:Prop}(h0:a0)(h1:a1)(h2:a2)(h3:a3)(h4:a4)(h5:a5)(h6:a6):Hid a0/\Hid a1/\Hid a2/\Hid a3/\Hid a4/\Hid a5/\Hid a6:=⟨qgv h0,qgv h1,qgv h2,qgv h3,qgv h4,qgv h5,qgv h6⟩
theorem qbe{a0 a1 a2 a3 a4 a5 a6 a7:Prop}(h0:a0)(h1:a1)(h2:a2)(h3:a3)(h4:a4)(h5:a5)(h6:a6)(h7:a7):Hid a0/\Hid a1/\Hid a2/\Hid a3/\Hid a4/\Hid a5/\Hid a6/\Hid a7:=⟨qgv h0,qgv h1,qgv h2,qgv h3,qgv h4,qgv h5,qgv h6,qgv h7⟩
theorem qp{w:qgx}{X:Nat}{o p:Obj}(h:w.heap[X]?=some o):(w.alloc p).heap[X]?=some o:=blk (qgw w p none) (by simp) h
theorem zr(w:qgx)(a:Obj):∃A w1,A=w.heap.size/\w1=w.alloc a/\w.grownBy w1 none/\w1.heap[A]?=some a:=⟨_,_,rfl,rfl,qgw _ _ none,qgF w _⟩
theorem zp(w:qgx)(a b:Obj):∃A w1,A=w.heap.size/\w1=(w.alloc a).alloc b/\w.grownBy w1 none/\w1.heap[A]?=some a/\w1.heap[A+1]?=some b/\w1.heap.size=A+2:=⟨_,_,rfl,rfl,(qgw _ _ none).trans (qgw _ _ none),qp (qgF w _),by
 have:=qgF (w.alloc a) b
 rwa [qh6] at this,by rw[qh6,qh6]⟩
theorem q8{w:qgx}{Q o ty:Nat}{cs:Array qgB}{fr:Nat × Nat}{v:qgB}(h:w.heap[Q]?=some (.cells cs ty fr))(hv:cs[o]?=some v):w.cell? ⟨Q,o,none⟩=some v:=by simp[qhs,h,hv]
theorem qm{w:qgx}{Q o ty:Nat}{cs:Array qgB}(h:w.heap[Q]?=some (.cells cs ty (0,0))):w.frozen? ⟨Q,o,none⟩=false:=by simp[qkr,h]
theorem kL(w:qgx)(cs:Array qgB)(ty:qh8)(k:Nat):(w.alloc (.cells cs ty)).cell? ⟨w.heap.size,k,none⟩=cs[k]?:=by
 unfold qhs;rw[show(w.alloc (.cells cs ty)).heap[(⟨w.heap.size,k,none⟩:qi5).block]?=some (.cells cs ty) from qgF w _];simp
def qf(lo hi:Nat)(w:qgx)(v:qgB)(l:List Int):Prop :=
 ∃base cap,v=.slice base l.length cap/\(l.length:Int)<=1000000 /\
  (l≠[]->∃B o cs fr,base=some ⟨B,o,none⟩/\lo<=B/\B<hi/\w.heap[B]?=some (.cells cs 3 fr)/\∀i,i<l.length->cs[o+i]?=some (.int .i64 (l[i]?.getD 0)))
theorem qf.nil(lo hi:Nat)(w:qgx):qf lo hi w (.slice none 0 0) []:=⟨none,0,rfl,by decide,λh=>absurd rfl h⟩
theorem qf.mono{lo hi lo' a6:Nat}{w:qgx}{v:qgB}{l:List Int}(h:qf lo hi w v l)(h1:lo'<=lo)(h2:hi<=a6):qf lo' a6 w v l:=by
 obtain⟨base,cap,rfl,hl,hr⟩:=h;refine⟨base,cap,rfl,hl,λhne=>?_⟩;obtain⟨B,o,cs,fr,e1,e2,e3,e4,e5⟩:=hr hne;exact⟨B,o,cs,fr,e1,by omega,by omega,e4,e5⟩
theorem qf.kept{lo hi:Nat}{w w':qgx}{v:qgB}{l:List Int}{row:Option Nat}(h:qf lo hi w v l)(hg:w.grownBy w' row)(hr:∀R,row=some R->R<lo\/hi<=R:=by simp):qf lo hi w' v l:=by
 obtain⟨base,cap,rfl,hl,hr'⟩:=h;refine⟨base,cap,rfl,hl,λhne=>?_⟩;obtain⟨B,o,cs,fr,e1,e2,e3,e4,e5⟩:=hr' hne;exact⟨B,o,cs,fr,e1,e2,e3,blk hg (λe=>by have:=hr B e.symm;omega) e4,e5⟩
theorem qf.alloc{lo hi:Nat}{w:qgx}{v:qgB}{l:List Int}(h:qf lo hi w v l)(o:Obj):qf lo hi (w.alloc o) v l:=h.kept (qgw w o none) (by simp)
theorem qf.own{lo n:Nat}{w:qgx}{v:qgB}{l:List Int}(h:w.ownsRow lo 3 1 v n (l.map (qhj .i64)))(hl:(l.length:Int)<=1000000):qf lo w.heap.size w v l:=by
 obtain⟨h1,h2⟩:=h;have hn:l.length=n:=by simpa using h1
 subst hn;rcases h2 with⟨rfl,h0⟩ | ⟨g,cap,cur,rfl,hb,hg,hc,hm,hs,ht⟩
 ·exact⟨none,0,by rw[h0],hl,λhne=>absurd (qim h0) hne⟩
 ·refine⟨_,cap,rfl,hl,λ_=>⟨g,0,cur,(0,0),rfl,hb,(qgy.1 hg).1,hg,λi hi=>?_⟩⟩;have h3:(cur.toList.take (l.length*1))[i]?=some (.int .i64 (l[i]?.getD 0)):=by
   rw[ht];simp[qgG hi]
  rw[qm0] at h3;simpa[hi] using h3
theorem qf.cell{lo hi:Nat}{w:qgx}{v:qgB}{l:List Int}(h:qf lo hi w v l):∃base cap,v=.slice base l.length cap/\(l.length:Int)<=1000000 /\(l≠[]->∃B o,base=some ⟨B,o,none⟩/\lo<=B/\B<hi/\B<w.heap.size/\∀i,i<l.length->w.cell? ⟨B,o+i,none⟩=some (.int .i64 (l[i]?.getD 0))):=by
 obtain⟨base,cap,rfl,hl,hr'⟩:=h;refine⟨base,cap,rfl,hl,λhne=>?_⟩;obtain⟨B,o,cs,fr,e1,e2,e3,e4,e5⟩:=hr' hne;exact⟨B,o,e1,e2,e3,(qgy.1 e4).1,λi hi=>by simp[qhs,e4,e5 i hi]⟩
def qG(g:Nat->Int):Obj:=.cells #[(g 0),(g 1),(g 2),(g 3),(g 4)] 101 (0,0)
theorem xZ{w:qgx}{A:Nat}{g:Nat->Int}{e:Nat}{v:Int}(h:w.heap[A]?=some (qG g))(he:e<5):(w.setCell ⟨A,e,none⟩ (.int .i64 v)).heap[A]?=some (qG λd=>if d=e then v else g d):=by
 unfold qG at h ⊢;rw[qg h];obtain rfl | rfl | rfl | rfl | rfl:e=0\/e=1\/e=2\/e=3\/e=4:=by omega
 all_goals simp
theorem ql{w:qgx}{A:Nat}{g:Nat->Int}{e:Nat}(h:w.heap[A]?=some (qG g))(he:e<5):w.cell? ⟨A,e,none⟩=some (.int .i64 (g e)):=by
 unfold qG at h;obtain rfl | rfl | rfl | rfl | rfl:e=0\/e=1\/e=2\/e=3\/e=4:=by omega
 all_goals simp[qhs,h]
theorem jn{w:qgx}{A:Nat}{g:Nat->Int}(h:w.heap[A]?=some (qG g))(e:Nat):w.frozen? ⟨A,e,none⟩=false:=by
 unfold qG at h;simp[qkr,h]
theorem yy{g g':Nat->Int}(h:∀d,d<5->g d=g' d):qG g=qG g':=by
 unfold qG;rw[h 0 (by omega),h 1 (by omega),h 2 (by omega),h 3 (by omega),h 4 (by omega)]
structure Par where
 mn:Int
 mx:Int
 bears:Int
 tall:Int
deriving DecidableEq
def qn(lo hi:Nat)(w:qgx)(v:qgB)(ps:List Par):Prop :=
 ∃base cap,v=.slice base ps.length cap/\(ps.length:Int)<=1000000 /\
  (ps≠[]->∃B o cs fr,base=some ⟨B,o,none⟩/\lo<=B/\B<hi/\w.heap[B]?=some (.cells cs 28 fr) /\
   ∀i,i<ps.length->∃p,ps[i]?=some p/\cs[o+i*4]?=some (.int .i64 p.mn)/\cs[o+(i*4+1)]?=some (.int .i64 p.mx)/\cs[o+(i*4+2)]?=some (.int .i64 p.bears)/\cs[o+(i*4+3)]?=some (.int .i64 p.tall))
theorem qn.kept{lo hi:Nat}{w w':qgx}{v:qgB}{ps:List Par}{row:Option Nat}(h:qn lo hi w v ps)(hg:w.grownBy w' row)(hr:∀R,row=some R->R<lo\/hi<=R:=by simp):qn lo hi w' v ps:=by
 obtain⟨base,cap,rfl,hl,hr'⟩:=h;refine⟨base,cap,rfl,hl,λhne=>?_⟩;obtain⟨B,o,cs,fr,e1,e2,e3,e4,e5⟩:=hr' hne;exact⟨B,o,cs,fr,e1,e2,e3,blk hg (λe=>by have:=hr B e.symm;omega) e4,e5⟩
theorem qn.alloc{lo hi:Nat}{w:qgx}{v:qgB}{ps:List Par}(h:qn lo hi w v ps)(o:Obj):qn lo hi (w.alloc o) v ps:=h.kept (qgw w o none) (by simp)
theorem qn.mono{lo hi lo' a6:Nat}{w:qgx}{v:qgB}{ps:List Par}(h:qn lo hi w v ps)(h1:lo'<=lo)(h2:hi<=a6):qn lo' a6 w v ps:=by
 obtain⟨base,cap,rfl,hl,hr⟩:=h;refine⟨base,cap,rfl,hl,λhne=>?_⟩;obtain⟨B,o,cs,fr,e1,e2,e3,e4,e5⟩:=hr hne;exact⟨B,o,cs,fr,e1,by omega,by omega,e4,e5⟩
theorem qn.cell{lo hi:Nat}{w:qgx}{v:qgB}{ps:List Par}(h:qn lo hi w v ps):∃base cap,v=.slice base ps.length cap/\(ps.length:Int)<=1000000 /\(ps≠[]->∃B o,base=some ⟨B,o,none⟩/\lo<=B/\B<hi/\B<w.heap.size/\∀i,i<ps.length->∃p,ps[i]?=some p/\w.cell? ⟨B,o+i*4,none⟩=some (.int .i64 p.mn)/\w.cell? ⟨B,o+i*4+1,none⟩=some (.int .i64 p.mx)/\w.cell? ⟨B,o+i*4+2,none⟩=some (.int .i64 p.bears)/\w.cell? ⟨B,o+i*4+3,none⟩=some (.int .i64 p.tall)):=by
 obtain⟨base,cap,rfl,hl,hr'⟩:=h;refine⟨base,cap,rfl,hl,λhne=>?_⟩;obtain⟨B,o,cs,fr,e1,e2,e3,e4,e5⟩:=hr' hne;refine⟨B,o,e1,e2,e3,(qgy.1 e4).1,λi hi=>?_⟩;obtain⟨p,h0,h1,h2,h3,h4⟩:=e5 i hi;exact⟨p,h0,by simp[qhs,e4,h1],by simp[qhs,e4,qmw,h2],by simp[qhs,e4,qmw,h3],by simp[qhs,e4,qmw,h4]⟩
def j5(lo hi:Nat)(w:qgx)(v:qgB)(ps:List Par)(lim:Int):Prop:=∃pv,v=.agg #[pv,lim]/\qn lo hi w pv ps
def wts(g:Nat->Int):qgB:=.agg #[(g 0),(g 1),(g 2),(g 3),(g 4)]
def J6(l:List Int):Int:=l.foldl (·+·) 0
theorem q0r(l:List Int)(k:Nat)(x:Int)(h:l[k]?=some x):J6 (l.take (k+1))=J6 (l.take k)+x:=by
 rw[qig,h];simp[J6]
theorem qcs(lo hi:Nat)(v:qgB)(l:List Int)(w:qgx)(hI:qf lo hi w v l)(hs:∀k,k<=l.length->-1000000000<=J6 (l.take k)/\J6 (l.take k)<=1000000000) :qhw Ya 145 #[v] w λe w'=>e=.returned (.int .i64 (J6 l))/\w=w':=by
 obtain⟨base,cap,rfl,hl,hc⟩:=hI.cell;have ⟨HC,HS⟩:=qH hc hs;clear hc hs hI;go_enter Tp.x145,Tryz.ntmps145;go_wp2;go_loopw [3,8] (λa i wr=>∃k:Nat,i=.int .i64 k/\k<=l.length/\a=.int .i64 (J6 (l.take k))/\w=wr) (λ_ i _=>(l.length - qi9 i).toNat)
 case atStart=>exact⟨0,rfl,by omega,by simp[J6],rfl⟩
 case round=>
  obtain⟨k,rfl,hk,rfl,rfl⟩:=hrel;by_cases hlt:k<l.length
  ·obtain⟨B,o,rfl,a9,a8,a7,a6⟩:=HC.out (by intro e;rw[e] at hlt;simp at hlt);have hk':=a6 k hlt;have h1:=HS.out k (by omega);have h2:=HS.out (k+1) (by omega);have hx:l[k]?=some (l[k]?.getD 0):=by simp[qgG hlt]
   rw[q0r l k _ hx] at h2;have hst:=q0r l k _ hx;generalize l[k]?.getD 0=x at hk' h2 hst;generalize J6 (l.take k)=s at h1 h2 hst;have HST:=qgv hst;clear a6 hx hst;go_wp2;go_roundw
   case rel=>exact⟨k+1,by simp,by omega,by rw[HST.out],by first | rfl | trivial⟩
   case measure=>simp[qi9];omega
  ·obtain rfl:k=l.length:=by omega
   go_wp2;go_ret;exact⟨by simp,rfl⟩
def pre(f:Par->Int)(ps:List Par)(k:Nat):Nat->Int:=λi=>if i<k then(match ps[i]? with | some p=>f p | none=>0) else 0
theorem q3x(f:Par->Int)(ps:List Par)(k:Nat)(p:Par)(h:ps[k]?=some p)(d:Nat):pre f ps (k+1) d=if d=k then f p else pre f ps k d:=by
 unfold pre;by_cases e:d=k
 ·subst e;simp[h]
 ·by_cases e2:d<k
  ·rw[if_pos (by omega),if_neg e,if_pos e2]
  ·rw[if_neg (by omega),if_neg e,if_neg e2]
theorem Qy(lo hi:Nat)(v:qgB)(ps:List Par)(lim:Int)(w:qgx)(hY:j5 lo hi w v ps lim)(hhi:hi<=w.heap.size)(h5:ps.length<=5) :qhw Ya 93 #[v] w λe w'=>e=.returned (wts (pre Par.mn ps ps.length))/\w.grownBy w' none:=by
 obtain⟨pv,rfl,hP⟩:=hY;obtain⟨base,cap,rfl,hl,-⟩:=hP.cell;obtain⟨A,hA⟩:∃A,A=w.heap.size:=⟨_,rfl⟩;have HP:=qgv hP;clear hP;go_enter Tp.x93,Tryz.ntmps93;go_upto_region 2 with(fail);have hG:w.grownBy (((w.alloc (.cells #[.slice base ps.length cap,lim] 91)).alloc (qG λ_=>0)).alloc (qG λ_=>0)) none:=((qgw _ _ none).trans (qgw _ _ none)).trans (qgw _ _ none);have hY:(((w.alloc (.cells #[.slice base ps.length cap,lim] 91)).alloc (qG λ_=>0)).alloc (qG λ_=>0)).cell? A=some (.slice base ps.length cap):=q8 (qp (qp (by rw[hA];exact qgF w _))) rfl;have hR:(((w.alloc (.cells #[.slice base ps.length cap,lim] 91)).alloc (qG λ_=>0)).alloc (qG λ_=>0)).heap[A+1]?=some (qG λ_=>0):=qp (by
  have:=qgF (w.alloc (.cells #[.slice base ps.length cap,lim] 91)) (qG λ_=>0);rw[qh6,<- hA] at this;exact this)
 have hW:(((w.alloc (.cells #[.slice base ps.length cap,lim] 91)).alloc (qG λ_=>0)).alloc (qG λ_=>0)).heap[A+2]?=some (qG λ_=>0):=by
  have:=qgF ((w.alloc (.cells #[.slice base ps.length cap,lim] 91)).alloc (qG λ_=>0)) (qG λ_=>0);rw[qh6,qh6,<- hA] at this;exact this
 rw[<- hA];show Code.wp _ _ _ _ (((w.alloc (.cells #[.slice base ps.length cap,lim] 91)).alloc (qG λ_=>0)).alloc (qG λ_=>0));have c3:A+2<(((w.alloc (.cells #[.slice base ps.length cap,lim] 91)).alloc (qG λ_=>0)).alloc (qG λ_=>0)).heap.size:=(qgy.1 hW).1;generalize (((w.alloc (.cells #[.slice base ps.length cap,lim] 91)).alloc (qG λ_=>0)).alloc (qG λ_=>0))=w1 at hG hY hR hW c3 ⊢;have d8:hi<=A:=by omega
 obtain⟨D,hD⟩:∃D,D=A+2:=⟨_,rfl⟩;obtain⟨R,a8⟩:∃R,R=A+1:=⟨_,rfl⟩;rw[show A+1+1=A+2 from rfl,<- hD,<- a8];rw[<- hD] at hW c3;rw[<- a8] at hR;have d7:=qgv (HP.out.kept hG);have ⟨HG,HR,HW⟩:=z8 hG hR hW;have hne:¬ R=D:=by omega
 have e9:¬ A=D:=by omega
 have e8:A<=R/\A<=D:=by omega
 have HA:=qgv hA;have b8:hi<=D:=by omega
 clear hG hR hW hA HP hD a8;go_wp2;go_loopw [10] (λi wr=>∃k:Nat,i=.int .i64 k/\k<=ps.length/\w1.grownBy wr (some D)/\wr.heap[D]?=some (qG (pre Par.mn ps k))) (λi _=>(ps.length - qi9 i).toNat)
 case atStart=>exact⟨0,rfl,by omega,qh1 _ _,by rw[HW.out];congr 1⟩
 case round=>
  obtain⟨k,rfl,hk,hG,hB⟩:=hrel;have e4:D<wr.heap.size:=(qgy.1 hB).1;have a9:=d7.out.kept hG (by rintro R e;cases e;exact .inr b8);have d9:=hG.cell hY (by simp;omega);have ⟨HG',HB⟩:=qH hG hB;by_cases hlt:k<ps.length
  ·obtain⟨d5,cap',he,-,hcell⟩:=a9.cell;cases he;obtain⟨B,o,rfl,e7,e6,e5,b9⟩:=hcell (by intro e;rw[e] at hlt;simp at hlt);obtain⟨p,hp,q0,q1,q2,q3⟩:=b9 k hlt;have c9:=ql hB (show k<5 by omega);have g5:=jn hB k;have HPP:=qgv hp;have c8:k<5:=by omega
   generalize pre Par.mn ps k k=y at c9;clear b9 hcell a9 hG hB hp;go_wp2;go_roundw
   case rel=>
    refine⟨k+1,by simp,by omega,(HG'.out.trans (qe _ _ _ _)).trans (qgw _ _ _),?_⟩;rw[qp (xZ HB.out c8)]
    congr 1
    exact yy λd _=>(q3x _ _ _ _ HPP.out d).symm
   case measure=>simp[qi9];omega
  ·obtain rfl:k=ps.length:=by omega
   have a6:=blk hG (by simp;omega) HR.out;have a0:=ql hB (show 0<5 by omega);have a1:=ql hB (show 1<5 by omega);have a2:=ql hB (show 2<5 by omega);have a3:=ql hB (show 3<5 by omega);have a4:=ql hB (show 4<5 by omega);have b0:=ql a6 (show 0<5 by omega);have b1:=ql a6 (show 1<5 by omega);have b2:=ql a6 (show 2<5 by omega);have b3:=ql a6 (show 3<5 by omega);have b4:=ql a6 (show 4<5 by omega);have fz:=jn a6;have g6:=qgv a6;have d6:=qgv (show wts (pre Par.mn ps ps.length)=.agg #[(pre Par.mn ps ps.length 0),(pre Par.mn ps ps.length 1),(pre Par.mn ps ps.length 2),(pre Par.mn ps ps.length 3),(pre Par.mn ps ps.length 4)] from rfl);generalize pre Par.mn ps ps.length 0=g0 at *
   generalize pre Par.mn ps ps.length 1=g1 at *
   generalize pre Par.mn ps ps.length 2=g2 at *
   generalize pre Par.mn ps ps.length 3=g3 at *
   generalize pre Par.mn ps ps.length 4=g4 at *
   obtain⟨W,a7⟩:∃W,W=((((wr.setCell R (.int .i64 g0)).setCell ⟨R,1,none⟩ (.int .i64 g1)).setCell ⟨R,2,none⟩ (.int .i64 g2)).setCell ⟨R,3,none⟩ (.int .i64 g3)).setCell ⟨R,4,none⟩ (.int .i64 g4):=⟨_,rfl⟩;have b6:W.heap[R]?=some (.cells #[g0,g1,g2,g3,g4] 101 (0,0)):=by
    rw[a7,qg (qg (qg (qg (qg a6))))];rfl
   have b7:w.grownBy W none:=(HG.out.andThen HG'.out (by rintro j e;cases e;exact .inl (by have:=HA.out;omega))).andThen (row':=some R)
    (by rw[a7];exact((((qe _ _ _ _).trans (qe _ _ _ _)).trans (qe _ _ _ _)).trans (qe _ _ _ _)).trans (qe _ _ _ _)) (by rintro j e;cases e;exact .inl (by have:=HA.out;omega))
   have ⟨HRW,HGW,HWe⟩:=z8 b6 b7 a7;clear a6 hG hB a9 hlt b6 b7 a7;go_wp2;rw[<- HWe.out,d6.out];exact qj8 (v:=.agg #[g0,g1,g2,g3,g4]) (by simp[qjb,Tryz.results93,go_sem,qhs,HRW.out]) rfl ⟨rfl,HGW.out⟩
theorem Qa(lo hi:Nat)(v:qgB)(ps:List Par)(lim:Int)(w:qgx)(hY:j5 lo hi w v ps lim)(hhi:hi<=w.heap.size)(h5:ps.length<=5) :qhw Ya 92 #[v] w λe w'=>e=.returned (wts (pre Par.mx ps ps.length))/\w.grownBy w' none:=by
 obtain⟨pv,rfl,hP⟩:=hY;obtain⟨base,cap,rfl,hl,-⟩:=hP.cell;obtain⟨A,hA⟩:∃A,A=w.heap.size:=⟨_,rfl⟩;have HP:=qgv hP;clear hP;go_enter Tp.x92,Tryz.ntmps92;go_upto_region 2 with(fail);have hG:w.grownBy (((w.alloc (.cells #[.slice base ps.length cap,lim] 91)).alloc (qG λ_=>0)).alloc (qG λ_=>0)) none:=((qgw _ _ none).trans (qgw _ _ none)).trans (qgw _ _ none);have hY:(((w.alloc (.cells #[.slice base ps.length cap,lim] 91)).alloc (qG λ_=>0)).alloc (qG λ_=>0)).cell? A=some (.slice base ps.length cap):=q8 (qp (qp (by rw[hA];exact qgF w _))) rfl;have hR:(((w.alloc (.cells #[.slice base ps.length cap,lim] 91)).alloc (qG λ_=>0)).alloc (qG λ_=>0)).heap[A+1]?=some (qG λ_=>0):=qp (by
  have:=qgF (w.alloc (.cells #[.slice base ps.length cap,lim] 91)) (qG λ_=>0);rw[qh6,<- hA] at this;exact this)
 have hW:(((w.alloc (.cells #[.slice base ps.length cap,lim] 91)).alloc (qG λ_=>0)).alloc (qG λ_=>0)).heap[A+2]?=some (qG λ_=>0):=by
  have:=qgF ((w.alloc (.cells #[.slice base ps.length cap,lim] 91)).alloc (qG λ_=>0)) (qG λ_=>0);rw[qh6,qh6,<- hA] at this;exact this
 rw[<- hA];show Code.wp _ _ _ _ (((w.alloc (.cells #[.slice base ps.length cap,lim] 91)).alloc (qG λ_=>0)).alloc (qG λ_=>0));have c3:A+2<(((w.alloc (.cells #[.slice base ps.length cap,lim] 91)).alloc (qG λ_=>0)).alloc (qG λ_=>0)).heap.size:=(qgy.1 hW).1;generalize (((w.alloc (.cells #[.slice base ps.length cap,lim] 91)).alloc (qG λ_=>0)).alloc (qG λ_=>0))=w1 at hG hY hR hW c3 ⊢;have d8:hi<=A:=by omega
 obtain⟨D,hD⟩:∃D,D=A+2:=⟨_,rfl⟩;obtain⟨R,a8⟩:∃R,R=A+1:=⟨_,rfl⟩;rw[show A+1+1=A+2 from rfl,<- hD,<- a8];rw[<- hD] at hW c3;rw[<- a8] at hR;have d7:=qgv (HP.out.kept hG);have ⟨HG,HR,HW⟩:=z8 hG hR hW;have hne:¬ R=D:=by omega
 have e9:¬ A=D:=by omega
 have e8:A<=R/\A<=D:=by omega
 have HA:=qgv hA;have b8:hi<=D:=by omega
 clear hG hR hW hA HP hD a8;go_wp2;go_loopw [10] (λi wr=>∃k:Nat,i=.int .i64 k/\k<=ps.length/\w1.grownBy wr (some D)/\wr.heap[D]?=some (qG (pre Par.mx ps k))) (λi _=>(ps.length - qi9 i).toNat)
 case atStart=>exact⟨0,rfl,by omega,qh1 _ _,by rw[HW.out];congr 1⟩
 case round=>
  obtain⟨k,rfl,hk,hG,hB⟩:=hrel;have e4:D<wr.heap.size:=(qgy.1 hB).1;have a9:=d7.out.kept hG (by rintro R e;cases e;exact .inr b8);have d9:=hG.cell hY (by simp;omega);have ⟨HG',HB⟩:=qH hG hB;by_cases hlt:k<ps.length
  ·obtain⟨d5,cap',he,-,hcell⟩:=a9.cell;cases he;obtain⟨B,o,rfl,e7,e6,e5,b9⟩:=hcell (by intro e;rw[e] at hlt;simp at hlt);obtain⟨p,hp,q0,q1,q2,q3⟩:=b9 k hlt;have c9:=ql hB (show k<5 by omega);have g5:=jn hB k;have HPP:=qgv hp;have c8:k<5:=by omega
   generalize pre Par.mx ps k k=y at c9;clear b9 hcell a9 hG hB hp;go_wp2;go_roundw
   case rel=>
    refine⟨k+1,by simp,by omega,(HG'.out.trans (qe _ _ _ _)).trans (qgw _ _ _),?_⟩;rw[qp (xZ HB.out c8)]
    congr 1
    exact yy λd _=>(q3x _ _ _ _ HPP.out d).symm
   case measure=>simp[qi9];omega
  ·obtain rfl:k=ps.length:=by omega
   have a6:=blk hG (by simp;omega) HR.out;have a0:=ql hB (show 0<5 by omega);have a1:=ql hB (show 1<5 by omega);have a2:=ql hB (show 2<5 by omega);have a3:=ql hB (show 3<5 by omega);have a4:=ql hB (show 4<5 by omega);have b0:=ql a6 (show 0<5 by omega);have b1:=ql a6 (show 1<5 by omega);have b2:=ql a6 (show 2<5 by omega);have b3:=ql a6 (show 3<5 by omega);have b4:=ql a6 (show 4<5 by omega);have fz:=jn a6;have g6:=qgv a6;have d6:=qgv (show wts (pre Par.mx ps ps.length)=.agg #[(pre Par.mx ps ps.length 0),(pre Par.mx ps ps.length 1),(pre Par.mx ps ps.length 2),(pre Par.mx ps ps.length 3),(pre Par.mx ps ps.length 4)] from rfl);generalize pre Par.mx ps ps.length 0=g0 at *
   generalize pre Par.mx ps ps.length 1=g1 at *
   generalize pre Par.mx ps ps.length 2=g2 at *
   generalize pre Par.mx ps ps.length 3=g3 at *
   generalize pre Par.mx ps ps.length 4=g4 at *
   obtain⟨W,a7⟩:∃W,W=((((wr.setCell R (.int .i64 g0)).setCell ⟨R,1,none⟩ (.int .i64 g1)).setCell ⟨R,2,none⟩ (.int .i64 g2)).setCell ⟨R,3,none⟩ (.int .i64 g3)).setCell ⟨R,4,none⟩ (.int .i64 g4):=⟨_,rfl⟩;have b6:W.heap[R]?=some (.cells #[g0,g1,g2,g3,g4] 101 (0,0)):=by
    rw[a7,qg (qg (qg (qg (qg a6))))];rfl
   have b7:w.grownBy W none:=(HG.out.andThen HG'.out (by rintro j e;cases e;exact .inl (by have:=HA.out;omega))).andThen (row':=some R)
    (by rw[a7];exact((((qe _ _ _ _).trans (qe _ _ _ _)).trans (qe _ _ _ _)).trans (qe _ _ _ _)).trans (qe _ _ _ _)) (by rintro j e;cases e;exact .inl (by have:=HA.out;omega))
   have ⟨HRW,HGW,HWe⟩:=z8 b6 b7 a7;clear a6 hG hB a9 hlt b6 b7 a7;go_wp2;rw[<- HWe.out,d6.out];exact qj8 (v:=.agg #[g0,g1,g2,g3,g4]) (by simp[qjb,Tryz.results92,go_sem,qhs,HRW.out]) rfl ⟨rfl,HGW.out⟩
theorem q6b(p:Par)(load:Int)(w:qgx) :qhw Ya 160 #[.agg #[p.mn,p.mx,p.bears,p.tall],load] w λe w'=>e=.returned (if p.bears<load then .iface 170 (.agg #[]) else .iface 171 (.agg #[]))/\w.grownBy w' none:=by
 go_enter Tp.x160,Tryz.ntmps160;by_cases h:p.bears<load
 ·go_wp2;go_ret;exact⟨rfl,qgw _ _ _⟩
 ·go_wp2;go_ret;exact⟨rfl,qgw _ _ _⟩
def tot:List Int->Int
 | []=>0
 | a::t=>tot t+a
def loadAt(g:Nat->Int)(l:List Int)(i:Nat):Int:=tot ((l.drop (i+1)).map λx=>g x.toNat)
theorem q45(g:Nat->Int)(l:List Int)(i:Nat)(h:l.length<=i+1):loadAt g l i=0:=by
 unfold loadAt;rw[qke h];rfl
theorem q44(g:Nat->Int)(l:List Int)(i:Nat)(x:Int)(h:l[i+1]?=some x):loadAt g l i=loadAt g l (i+1)+g x.toNat:=by
 unfold loadAt;have hlt:=(qh9.1 h).1;rw[qjB hlt];have:l[i+1]=x:=(qh9.1 h).2;simp[tot,this]
theorem qem(l:List Int)(h:∀x∈l,0<=x/\x<=1000):0<=tot l/\tot l<=1000*l.length:=by
 induction l with
 | nil=>simp[tot]
 | cons a t ih=>
  have h1:=ih λx hx=>h x (by simp[hx]);have h2:=h a (by simp);simp only[tot,qh3];omega
theorem q1f(g:Nat->Int)(l:List Int)(i:Nat)(hg:∀i,0<=g i/\g i<=1000)(hl:l.length<=1000):0<=loadAt g l i/\loadAt g l i<=1000000:=by
 have:=qem ((l.drop (i+1)).map λx=>g x.toNat) (by simp only[ql7];rintro x ⟨y,-,rfl⟩;exact hg _);simp only[qkw,qle] at this;unfold loadAt;omega
def ldL(g:Nat->Int)(l:List Int):List Int:=(qht l.length).map (loadAt g l)
def yX(w:qgx)(O n:Nat)(f:Nat->Int):Prop:=∃cs,w.heap[O]?=some (.cells cs 3 (0,0))/\cs.size=n/\∀i,i<n->cs[i]?=some (.int .i64 (f i))
theorem yX.lt{w:qgx}{O n:Nat}{f:Nat->Int}(h:yX w O n f):O<w.heap.size:=by
 obtain⟨cs,h,-⟩:=h;exact(qgy.1 h).1
theorem yX.cell{w:qgx}{O n i:Nat}{f:Nat->Int}(h:yX w O n f)(hi:i<n):w.cell? ⟨O,i,none⟩=some (.int .i64 (f i)):=by
 obtain⟨cs,h,-,hc⟩:=h;simp[qhs,h,hc i hi]
theorem yX.thaw{w:qgx}{O n:Nat}{f:Nat->Int}(h:yX w O n f)(i:Nat):w.frozen? ⟨O,i,none⟩=false:=by
 obtain⟨cs,h,-⟩:=h;simp[qkr,h]
theorem yX.congr{w:qgx}{O n:Nat}{f g:Nat->Int}(h:yX w O n f)(e:∀i,i<n->f i=g i):yX w O n g:=by
 obtain⟨cs,h,hs,hc⟩:=h;exact⟨cs,h,hs,λi hi=>by rw[hc i hi,e i hi]⟩
theorem yX.set{w:qgx}{O n i:Nat}{f:Nat->Int}{x:Int}(h:yX w O n f)(hi:i<n):yX (w.setCell ⟨O,i,none⟩ (.int .i64 x)) O n λj=>if j=i then x else f j:=by
 obtain⟨cs,h,hs,hc⟩:=h;refine⟨_,qg h,by simp[hs],λj hj=>?_⟩;by_cases e:j=i
 ·subst e;simp[hs,hj]
 ·rw[qhG,if_neg (by omega),hc j hj];show _=some (qhj .i64 (if j=i then x else f j));rw[if_neg e]
theorem yX.kept{w w':qgx}{O n:Nat}{f:Nat->Int}{row:Option Nat}(h:yX w O n f)(hg:w.grownBy w' row)(hne:some O≠row:=by simp):yX w' O n f:=by
 obtain⟨cs,h,hs,hc⟩:=h;exact⟨cs,blk hg hne h,hs,hc⟩
theorem yX.made(w:qgx)(n:Nat):yX (w.alloc (.cells (qmt #[.int .i64 0] n) 3)) w.heap.size n λ_=>0:=by
 refine⟨_,qgF w _,size_madeCells _ _,λi hi=>?_⟩;unfold qmt;simp[hi,Nat.mod_one]
theorem yX.ints{w:qgx}{O n lo hi:Nat}{f:Nat->Int}{l:List Int}(h:yX w O n f)(h1:lo<=O)(h2:O<hi)(hl:l.length=n)(hn:n<=1000000)(hf:∀i,i<n->l[i]?=some (f i)):qf lo hi w (.slice (some O) n n) l:=by
 obtain⟨cs,h,hs,hc⟩:=h;subst hl;exact⟨_,_,rfl,by omega,λ_=>⟨O,0,cs,_,rfl,h1,h2,h,λi hi=>by rw[qhf,hc i hi,hf i hi];rfl⟩⟩
theorem qf.laid(w:qgx)(l:List Int)(n:Nat)(hn:n=l.length)(hl:l.length<=1000)(fr:Nat × Nat:=(0,0))(hi:Nat:=w.heap.size+1)(hhi:w.heap.size<hi:=by omega) :qf w.heap.size hi (w.alloc (.cells (l.map (qhj .i64)).toArray 3 fr)) (.slice (some w.heap.size) n n) l:=by
 subst hn;refine⟨_,_,rfl,by omega,λ_=>⟨w.heap.size,0,_,fr,rfl,qgA _,hhi,qgF w _,λi hi=>?_⟩⟩;simp[qgG hi]
theorem Kd{w:qgx}{D n:Nat}{x v:qgB}{o:Obj}{a:qi5}(h:w.cell? a=some v)(hne:a≠⟨D,n,none⟩):((w.setCell ⟨D,n,none⟩ x).alloc o).drew.cell? a=some v:=by
 have h1:(w.setCell ⟨D,n,none⟩ x).cell? a=some v:=by rw[qiD _ _ _ _ (Ne.symm hne)];exact h
 exact(qc _ none).cl ((qgw _ o none).cell h1 (by simp))
theorem qct{q r:Int}(h:0<=q/\q<=1000000)(h':0<=r/\r<=1000000):∀k,k<=[q,r].length->-1000000000<=J6 ([q,r].take k)/\J6 ([q,r].take k)<=1000000000:=by
 intro k hk;obtain rfl | rfl | rfl:k=0\/k=1\/k=2:=by simp at hk;omega
 all_goals simp[J6]
 all_goals omega
theorem Yx(lo hi:Nat)(v:qgB)(q r:Int)(w:qgx)(hI:qf lo hi w v [q,r])(h:0<=q/\q<=1000000)(h':0<=r/\r<=1000000) :qhw Ya 145 #[v] w λe w'=>e=.returned (.int .i64 (q+r))/\w=w':=by
 refine(qcs lo hi v [q,r] w hI (qct h h')).mono ?_;rintro e w' ⟨rfl,rfl⟩;exact⟨by simp[J6],rfl⟩
theorem Qx(lo hi:Nat)(yv pv:qgB)(l:List Int)(g:Nat->Int)(w:qgx)(hI:qf lo hi w pv l)(hhi:hi<=w.heap.size)(hx:∀x∈l,0<=x/\x<5)(hl:l.length<=1000)(hg:∀i,0<=g i/\g i<=1000)(b7:∃a b,yv=.agg #[a,b]) :qhw Ya 91 #[yv,pv,wts g] w λe w'=>∃v',e=.returned v'/\w.grownBy w' none/\qf w.heap.size w'.heap.size w' v' (ldL g l):=by
 obtain⟨y1,y2,rfl⟩:=b7;obtain⟨base,cap,rfl,e6,hc⟩:=hI.cell;have a9:∀w,(qo0 29 (.int .i64 l.length) (.int .i64 l.length)).run Ya w=.ok (.slice (some ⟨w.heap.size,0,none⟩) l.length l.length) (w.alloc (.cells (qmt #[.int .i64 0] l.length) 3)):=λw=>by
  have:=run_make (P:=Ya) w 29 3 qqh (.int .i64 0) (by rw[Tp.und];exact qlq) (by rw[Yn _ _ Tp.tables];exact Tryz.type3) rfl .i64 .i64 l.length l.length (by omega) (by omega) (by simp[qqh];omega) (by omega);simpa[qnE,qqh] using this
 have HMK:=qgv a9;unfold wts;go_enter Tp.x91,Tryz.ntmps91;go_upto_region 3 with(first | rw[HMK.out]);obtain⟨A,hA⟩:∃A,A=w.heap.size:=⟨_,rfl⟩;have hG:w.grownBy (((w.alloc (.cells #[y1,y2] 91)).alloc (qG g)).alloc (.cells (qmt #[.int .i64 0] l.length) 3)) none:=((qgw _ _ none).trans (qgw _ _ none)).trans (qgw _ _ none);have hW:(((w.alloc (.cells #[y1,y2] 91)).alloc (qG g)).alloc (.cells (qmt #[.int .i64 0] l.length) 3)).heap[A+1]?=some (qG g):=qp (by
  have:=qgF (w.alloc (.cells #[y1,y2] 91)) (qG g);rw[qh6,<- hA] at this;exact this)
 have hR:yX (((w.alloc (.cells #[y1,y2] 91)).alloc (qG g)).alloc (.cells (qmt #[.int .i64 0] l.length) 3)) (A+2) l.length λ_=>0:=by
  have:=yX.made ((w.alloc (.cells #[y1,y2] 91)).alloc (qG g)) l.length;rw[qh6,qh6,<- hA] at this;exact this
 rw[<- hA];show Code.wp _ _ _ _ (((w.alloc (.cells #[y1,y2] 91)).alloc (qG g)).alloc (.cells (qmt #[.int .i64 0] l.length) 3));generalize ((w.alloc (.cells #[y1,y2] 91)).alloc (qG g)).alloc (.cells (qmt #[.int .i64 0] l.length) 3)=w1 at hG hW hR ⊢;obtain⟨D,hD⟩:∃D,D=A+2:=⟨_,rfl⟩;obtain⟨V,hV⟩:∃V,V=A+1:=⟨_,rfl⟩;rw[show A+1+1=A+2 from rfl,<- hD,<- hV];rw[<- hD] at hR;rw[<- hV] at hW;have d7:=qgv (hI.kept hG);have ⟨HG,HW,HR,HA,HX,HGB⟩:=Kh hG hW hR hA hx hg;have c9:¬ V=D:=by omega
 have b9:hi<=D/\A<=D:=by omega
 clear hG hW hR hA hD hV hc hI hx hg HMK a9;go_wp2;go_loopw [8] (λi wr=>∃k:Int,i=.int .i64 k/\-2<=k/\k<l.length/\(0<=k->k+1<l.length)/\w1.grownBy wr (some D)/\yX wr D l.length λj=>if k<(j:Int) then loadAt g l j else 0) (λi _=>(qi9 i+1).toNat)
 case atStart=>
  refine⟨(l.length:Int) - 2,rfl,by omega,by omega,by omega,qh1 _ _,HR.out.congr λi hi=>?_⟩;by_cases e:(l.length:Int) - 2<i
  ·rw[if_pos e,q45 g l i (by omega)]
  ·rw[if_neg e]
 case round=>
  obtain⟨k,rfl,e9,e8,e7,hG,hB⟩:=hrel;by_cases hlt:0<=k
  ·obtain⟨n,rfl⟩:∃n:Nat,k=n:=⟨k.toNat,by omega⟩;have hn:n+1<l.length:=by omega
   have HI2:=d7.out.kept hG (by rintro R e;cases e;exact .inr b9.1);obtain⟨d6,cap',he,-,hcell⟩:=HI2.cell;cases he;obtain⟨B,o,rfl,g9,g8,g7,b6⟩:=hcell (by intro e;rw[e] at hn;simp at hn);have hp:=b6 (n+1) hn;obtain⟨x,hx⟩:∃x,l[n+1]?=some x:=⟨_,qgG hn⟩;obtain⟨e4,d9⟩:=HX.out x (qhg hx);rw[hx] at hp;simp only[qgH] at hp;obtain⟨m,rfl⟩:∃m:Nat,x=m:=⟨x.toNat,by omega⟩;have b8:m<5:=by omega
   have a8:=blk hG (by simp;omega) HW.out;have b0:=ql a8 b8;have a7:=hB.cell (i:=n+1) hn;have hst:=q44 g l n m hx;rw[if_pos (by omega)] at a7;have hb1:=q1f g l (n+1) HGB.out hl;have c8:=HGB.out m;simp only[Int.toNat_natCast] at hst;have c3:=hB.cell (i:=n) (by omega);have fz:=hB.thaw n;have g6:=hB.lt;have d5:¬ B=D:=by omega
   have g5:V<wr.heap.size:=(qgy.1 a8).1;generalize loadAt g l (n+1)=q at a7 hst hb1;generalize g m=r at b0 hst c8;have ⟨HST,HG',HB⟩:=z8 hst hG hB;generalize (if(n:Int)<(n:Int) then loadAt g l n else 0)=z at c3;clear hG hB a8 b6 hcell HI2 hx hst;have hni:(n:Int)+1<(l.length:Int):=by omega
   have d8:0<=(n:Int)+1:=by omega
   have e5:IntKind.i64.wrap ((n:Int)+1)=(n:Int)+1:=qhp _ (by omega);have hnt:((n:Int)+1).toNat=n+1:=by omega
   have a6:=qgv (qhb a7 (qhb hp b0));go_upto_region 5 with(fail);go_region_held3 (λw'=>w'.cell? ⟨D,n+1,none⟩=some (.int .i64 q)/\w'.cell? ⟨B,o+(n+1),none⟩=some (.int .i64 m)/\w'.cell? ⟨V,m,none⟩=some (.int .i64 r))
    (first | exact a6.out | exact⟨Kd a6.out.1 (by simp),Kd a6.out.2.1 (λe=>d5 (congrArg qog e)),Kd a6.out.2.2 (λe=>c9 (congrArg qog e))⟩ | go_keep)
    (first
     | (go_at_call 145;refine(Yx _ _ _ q r _ (by exact qf.laid _ [q,r] 2 rfl (by simp)) (by omega) (by omega)).mono ?_;rintro e w2 ⟨rfl,rfl⟩))
   go_wp2;go_roundw
   case rel=>
    refine⟨(n:Int) - 1,rfl,by omega,by omega,by omega,((HG'.out.trans (qe _ _ _ _)).trans (qgw _ _ _)).trans (qc _ _),?_⟩;refine((HB.out.set (i:=n) (x:=q+r) (by omega)).kept ((qgw _ _ none).trans (qc _ _))).congr λj hj=>?_;have hst:=HST.out;show(if j=n then q+r else if(n:Int)<(j:Int) then loadAt g l j else 0)=if(n:Int) - 1<(j:Int) then loadAt g l j else 0;by_cases e:j=n
    ·subst e;rw[if_pos rfl,if_pos (by omega),hst]
    ·by_cases e2:(n:Int)<j
     ·rw[if_neg e,if_pos e2,if_pos (by omega)]
     ·rw[if_neg e,if_neg e2,if_neg (by omega)]
   case measure=>simp[qi9]
  ·have HG':=qgv hG;have HB:=qgv hB;clear hG hB;go_wp2;go_ret;have hD:=HA.out;refine⟨_,rfl,HG.out.andThen HG'.out (by rintro j e;cases e;exact .inl (by omega)),HB.out.ints (by omega) HB.out.lt (by simp[ldL]) (by omega) λi hi=>?_⟩;rw[if_pos (by omega)];simp[ldL,hi]
theorem zt{w:qgx}{base size n:Nat}{e:qh8}{v:qgB}{xs:List qgB}(h:w.ownsRow base e size v n xs):∃a m c,v=.slice a m c:=by
 rcases h.2 with⟨rfl,_⟩ | ⟨g,cap,cur,rfl,_⟩<;>exact⟨_,_,_,rfl⟩
theorem Tp.info141p:(Ya.info? 141).map (λi=>(i.zero,i.size,i.bytes))=some (some .nilIface,1,16):=by kernel_rfl
theorem Tp.und138:Ya.underlying 138=some (.slice 141):=by rw[Tp.und];exact Tryz.underlying138
theorem ko(g:Nat->Int)(l:List Int):(ldL g l).length=l.length:=by simp[ldL]
theorem Yj(g:Nat->Int)(l:List Int)(i:Nat)(h:i<l.length):(ldL g l)[i]?.getD 0=loadAt g l i:=by simp[ldL,h]
def Kk(p:Par)(load:Int):qh8:=if p.bears<load then 170 else 171
theorem qbm(p:Par)(load:Int):(if p.bears<load then Value.iface 170 (.agg #[]) else .iface 171 (.agg #[]))=.iface (Kk p load) (.agg #[]):=by unfold Kk;split<;>rfl
def Kj(p:Par)(load:Int):qgB:=.iface (Kk p load) (.agg #[])
theorem q3z{w:qgx}{b b' size n:Nat}{e:qh8}{v:qgB}{xs:List qgB}(h:w.ownsRow b e size v n xs)(hb:b'<=b):w.ownsRow b' e size v n xs:=by
 obtain⟨h1,h2⟩:=h;refine⟨h1,?_⟩;rcases h2 with h2 | ⟨g,cap,cur,e1,e2,e3⟩
 ·exact .inl h2
 ·exact .inr ⟨g,cap,cur,e1,qh0 hb e2,e3⟩
def Kl(ps:List Par)(g:Nat->Int)(l:List Int)(i:Nat):qgB:=match ps[(l[i]?.getD 0).toNat]? with | some p=>Kj p (loadAt g l i) | none=>.nilIface
def kK(ps:List Par)(g:Nat->Int)(l:List Int):List qgB:=(qht l.length).map (Kl ps g l)
theorem q4m(ps:List Par)(g:Nat->Int)(l:List Int)(k:Nat)(h:k<l.length):(kK ps g l).take (k+1)=(kK ps g l).take k++[Kl ps g l k]:=by
 rw[qig];simp[kK,h]
theorem q8E(lo hi:Nat)(yv pv:qgB)(ps:List Par)(lim:Int)(l:List Int)(g:Nat->Int)(w:qgx)(hY:j5 lo hi w yv ps lim)(hI:qf lo hi w pv l)(hhi:hi<=w.heap.size)(h5:ps.length<=5)(hx:∀x∈l,0<=x/\x<ps.length)(hl:l.length<=1000)(hg:∀i,0<=g i/\g i<=1000) :qhw Ya 126 #[yv,pv,wts g] w λe w'=>∃v',e=.returned v'/\w.grownBy w' none/\w'.ownsRow w.heap.size 141 1 v' l.length (kK ps g l):=by
 obtain⟨i0,g6,g5,e9,e8⟩:=qjj Tp.info141p;obtain⟨qv,rfl,hP⟩:=hY;obtain⟨yb,yc,rfl,h9,-⟩:=hP.cell;obtain⟨base,cap,rfl,k9,-⟩:=hI.cell;obtain⟨A,w1,hA,c8,b7,b0,a6,k7⟩:=zp w (.cells #[.slice yb ps.length yc,lim] 91) (qG g);have e5:=qgv (hI.kept b7);have g8:=qgv (hP.kept b7);have ⟨HX,HGB,HW1,HA,HG1,HB1⟩:=Kh hx hg c8 hA b7 b0;have q0:=q8 b0 (o:=0) rfl;have q1:=q8 b0 (o:=1) rfl;have r0:=ql a6 (show 0<5 by omega);have r1:=ql a6 (show 1<5 by omega);have r2:=ql a6 (show 2<5 by omega);have r3:=ql a6 (show 3<5 by omega);have r4:=ql a6 (show 4<5 by omega);have l4:hi<=A:=by omega
 clear hI hP hx hg c8 hA b7 b0 a6;unfold wts;go_enter Tp.x126,Tryz.ntmps126;go_upto_region 2 with(fail);rw[<- HA.out,show(w.alloc (.cells #[.slice yb ps.length yc,lim] 91)).alloc (.cells #[(g 0),(g 1),(g 2),(g 3),(g 4)] 101)=w1 from HW1.out.symm];go_wp2_with (go_at_call 91;(refine(Qx lo hi _ _ l g _ e5.out (by omega) (by intro x hx;have:=HX.out x hx;omega) hl HGB.out ⟨_,_,rfl⟩).mono ?_);rintro e w2 ⟨lv,rfl,d7,hL2⟩;have a9:=hL2.cell;rw[ko] at a9;obtain⟨lb,lc,rfl,-,a9⟩:=a9;have g9:=qgv a9;clear a9;have HG2:=qgv d7;have m3:=qgv hL2;clear d7 hL2);have e6:=HG2.out.cl q0;have k6:=HG2.out.size;clear r0 r1 r2 r3 r4 q0 q1;go_loopw [7,15] (λov iv wr=>∃k:Nat,iv=.int .i64 k/\k<=l.length/\w2.grownBy wr none/\wr.ownsRow w2.heap.size 141 1 ov k ((kK ps g l).take k)) (λ_ iv _=>(l.length - qi9 iv).toNat)
 case atStart=>exact⟨0,rfl,by omega,qh1 _ _,qjh _ _ _ _⟩
 case round=>
  obtain⟨k,rfl,hk,hG,hO⟩:=hrel;obtain⟨oa,om,oc,rfl⟩:=zt hO;have ⟨HG,HO⟩:=qH hG hO;have h8:=hG.cl e6;have k5:=hG.size;by_cases hlt:k<l.length
  ·have e4:=(e5.out.kept HG2.out).kept hG;have d9:=(g8.out.kept HG2.out).kept hG;obtain⟨b1,c1,he,-,hc⟩:=e4.cell;cases he;obtain⟨B,o,rfl,b0,l9,l8,d8⟩:=hc (by intro e;rw[e] at hlt;simp at hlt);have hx:=d8 k hlt;obtain⟨x,b6⟩:∃x,l[k]?=some x:=⟨_,qgG hlt⟩;obtain⟨k0,b9⟩:=HX.out x (qhg b6);rw[b6] at hx;simp only[qgH] at hx;obtain⟨m,rfl⟩:∃m:Nat,x=m:=⟨x.toNat,by omega⟩;obtain⟨b2,c2,he,-,hc⟩:=d9.cell;cases he;obtain⟨YB,yo,rfl,l7,l6,l5,d6⟩:=hc (by intro e;rw[e] at b9;simp at b9;omega);obtain⟨p,hp,p0,p1,p2,p3⟩:=d6 m (by omega);obtain⟨LB,lo',rfl,hL1,hL2,hL3,hL4⟩:=g9.out (by intro e;have:=ko g l;rw[e] at this;simp at this;omega);have c9:=HG.out.cl (hL4 k hlt);rw[Yj g l k hlt] at c9;have d5:Hid (Kl ps g l k=Kj p (loadAt g l k)):=qgv (by unfold Kl;rw[b6];simp[hp]);have k8:(m:Int)<(ps.length:Int):=b9;generalize loadAt g l k=ld at c9 d5;clear hG hO e4 d9 hc d8 d6 hL4 b6 hp;go_wp2;go_region_law
    (first
     | (go_simp;go_at_call 160;refine(q6b p ld _).mono ?_;rintro e w3 ⟨rfl,c3⟩;rw[qbm];have e7:=c3.size;have HG3:=qgv ((qc wr none).trans c3);clear c3)
     | (refine step_append_lies _ (by rfl) _ _ _ (by rfl) w2.heap.size 141 i0 _ 1 16 Tp.und138 g6 g5 e9 e8 rfl (by omega) (.slice oa om oc) k ((kK ps g l).take k) (by rfl) (by exact(HO.out.kept HG3.out (by cases(qi1 oa om oc).ownBlock<;>simp)).alloc _) ⟨w3.heap.size,0,none⟩ 1 1 [.iface (Kk p ld) (.agg #[])] (by rfl) (by rfl) (qiw (cs:=#[.iface (Kk p ld) (.agg #[])]) (t:=141) (fr:=(0,0)) (qgF w3 _)) (by simp[qjk]) (by omega) (by unfold qkq;omega) (by omega) (by simp at e7 ⊢;omega) (w3.heap.size+1) (by simp) ?_;intro gg cap w5 a7 a8 g7 hgl;have HO5:=qgv a7;have HG5:=qgv a8;clear a7 a8 g7 hgl))
   all_goals
    have b8:w2.grownBy w5 none:=((HG.out.trans HG3.out).trans (qgw _ _ none)).andThen HG5.out (λj e=>.inl (HO.out.lt j e).1);have HF:=qgv b8;clear b8;go_wp2;go_roundw
    case rel=>
     refine⟨k+1,by simp,by omega,HF.out,?_⟩;rw[q4m ps g l k hlt,d5.out];exact HO5.out
    case measure=>simp[qi9];omega
  ·obtain rfl:k=l.length:=by omega
   clear hG hO;go_wp2;go_ret;have h0:=HO.out;rw[show(kK ps g l).take l.length=kK ps g l from qm1 (by simp[kK])] at h0;refine⟨_,rfl,(HG1.out.trans HG2.out).trans HG.out,?_⟩;exact q3z h0 (by have:=HG1.out.size;omega)
theorem q12{w:qgx}{base n:Nat}{e:qh8}{v:qgB}{xs:List qgB}(h:w.ownsRow base e 1 v n xs) :∃a c,v=.slice a n c/\(0<n->∃g,a=some ⟨g,0,none⟩/\base<=g/\g<w.heap.size/\∀i,i<n->w.cell? ⟨g,i,none⟩=xs[i]?):=by
 rcases h.2 with⟨rfl,h0⟩ | ⟨g,cap,cur,rfl,hb,hg,hr⟩
 ·exact⟨_,_,by rw[h0],λhn=>by omega⟩
 ·exact⟨_,_,rfl,λ_=>⟨g,rfl,hb,(qgy.1 hg).1,λi hi=>h.cellAt i (by omega)⟩⟩
@[simp] theorem ta170(w:qgx):(qkz (.iface 170 (.agg #[])) 141 170 true).run Ya w=.ok (.tuple #[.agg #[],.bool true]) w:=by kernel_rfl
@[simp] theorem qgu(w:qgx):(qkz (.iface 171 (.agg #[])) 141 170 true).run Ya w=.ok (.tuple #[.agg #[],.bool false]) w:=by kernel_rfl
@[simp] theorem ta171(w:qgx):(qkz (.iface 171 (.agg #[])) 141 171 true).run Ya w=.ok (.tuple #[.agg #[],.bool true]) w:=by kernel_rfl
def q8e(ps:List Par)(g:Nat->Int)(l:List Int)(i:Nat):Bool:=match ps[(l[i]?.getD 0).toNat]? with | some p=>decide (loadAt g l i<=p.bears) | none=>false
def qz(ps:List Par)(g:Nat->Int)(l:List Int):Bool:=(qht l.length).all (q8e ps g l)
theorem kB(lo hi:Nat)(yv pv:qgB)(ps:List Par)(lim:Int)(l:List Int)(g:Nat->Int)(w:qgx)(hY:j5 lo hi w yv ps lim)(hI:qf lo hi w pv l)(hhi:hi<=w.heap.size)(h5:ps.length<=5)(hx:∀x∈l,0<=x/\x<ps.length)(hl:l.length<=1000)(hg:∀i,0<=g i/\g i<=1000) :qhw Ya 96 #[yv,pv,wts g] w λe w'=>e=.returned (.bool (qz ps g l))/\w.grownBy w' none:=by
 obtain⟨qv,rfl,hP⟩:=hY;obtain⟨yb,yc,rfl,c8,-⟩:=hP.cell;obtain⟨base,cap,rfl,d7,-⟩:=hI.cell;obtain⟨A,w1,hA,b6,a8,b0,a6,d6⟩:=zp w (.cells #[.slice yb ps.length yc,lim] 91) (qG g);have b9:=qgv (hI.kept a8);have HY1:=qgv (show j5 lo hi w1 (.agg #[.slice yb ps.length yc,lim]) ps lim from⟨_,rfl,hP.kept a8⟩);have ⟨HX,HGB,HW1,HA,HG1⟩:=ZS hx hg b6 hA a8;have q0:=q8 b0 (o:=0) rfl;have q1:=q8 b0 (o:=1) rfl;have r0:=ql a6 (show 0<5 by omega);have r1:=ql a6 (show 1<5 by omega);have r2:=ql a6 (show 2<5 by omega);have r3:=ql a6 (show 3<5 by omega);have r4:=ql a6 (show 4<5 by omega);have d8:hi<=A:=by omega
 clear hI hP hx hg b6 hA a8 b0 a6;unfold wts;go_enter Tp.x96,Tryz.ntmps96;go_upto_region 1 with(fail);rw[<- HA.out,show(w.alloc (.cells #[.slice yb ps.length yc,lim] 91)).alloc (.cells #[(g 0),(g 1),(g 2),(g 3),(g 4)] 101)=w1 from HW1.out.symm];go_wp2_with (go_at_call 126;refine(q8E lo hi _ _ ps lim l g _ HY1.out b9.out (by omega) h5 HX.out hl HGB.out).mono ?_;rintro e w2 ⟨lv,rfl,b8,hL2⟩;obtain⟨lb,lc,rfl,b7⟩:=q12 hL2;have HG2:=qgv b8;have c3:=qgv b7;clear b8 hL2 b7);clear r0 r1 r2 r3 r4 q0 q1;go_loopw [14] (λiv wr=>∃k:Nat,iv=.int .i64 k/\k<=l.length/\(∀i,i<k->q8e ps g l i=true)/\w2=wr) (λiv _=>(l.length - qi9 iv).toNat)
 case atStart=>exact⟨0,rfl,by omega,λi hi=>absurd hi (by omega),rfl⟩
 case round=>
  obtain⟨k,rfl,hk,hok,rfl⟩:=hrel;have HOK:=qgv hok;clear hok;by_cases hlt:k<l.length
  ·obtain⟨LB,rfl,hL1,hL2,hL3⟩:=c3.out (by omega);have a9:=hL3 k hlt;obtain⟨x,a7⟩:∃x,l[k]?=some x:=⟨_,qgG hlt⟩;obtain⟨d5,c9⟩:=HX.out x (qhg a7);obtain⟨p,hp⟩:∃p,ps[x.toNat]?=some p:=⟨_,qgG (by omega)⟩;have hok:q8e ps g l k=decide (loadAt g l k<=p.bears):=by unfold q8e;rw[a7];simp[hp]
   rw[show(kK ps g l)[k]?=some (Kj p (loadAt g l k)) by simp only[kK,qj7,ql3 hlt,qip,Kl,a7,qgH,hp]] at a9;by_cases hb:p.bears<loadAt g l k
   ·rw[show Kj p (loadAt g l k)=.iface 170 (.agg #[]) by simp[Kj,Kk,hb]] at a9;have hf:Hid (qz ps g l=false):=qgv (by
     have:q8e ps g l k=false:=by rw[hok];simp;omega
     unfold qz;rw[Bool.eq_false_iff];intro h;rw[qid] at h;have:=h k (by simp[hlt])
     simp_all)
    clear hL3 hok hp a7 hb;go_wp2;go_ret;exact⟨by rw[hf.out];rfl,HG1.out.trans HG2.out⟩
   ·rw[show Kj p (loadAt g l k)=.iface 171 (.agg #[]) by simp[Kj,Kk,hb]] at a9;have hf:Hid (q8e ps g l k=true):=qgv (by rw[hok];simp;omega);clear hL3 hok hp a7 hb;go_wp2;go_roundw
    case rel=>
     refine⟨k+1,by simp,by omega,λi hi=>?_,by first | rfl | trivial⟩;by_cases e:i=k
     ·rw[e];exact hf.out
     ·exact HOK.out i (by omega)
    case measure=>simp[qi9];omega
  ·obtain rfl:k=l.length:=by omega
   have hf:Hid (qz ps g l=true):=qgv (by
    unfold qz;rw[qid];intro i hi;exact HOK.out i (by simpa using hi))
   go_wp2;go_ret;exact⟨by rw[hf.out];rfl,HG1.out.trans HG2.out⟩
theorem jw(x lo hi:Int)(w:qgx)(h1:lo<=x)(h2:x<=hi) :qhw Ya 110 #[x,lo,hi] w λe w'=>e=.returned (.bool true)/\w=w':=by
 go_enter Tp.x110,qpH;go_wp2;go_ret;exact⟨rfl,rfl⟩
theorem yK(x lo hi:Int)(w:qgx)(h1:¬ (lo<=x/\x<=hi)) :qhw Ya 110 #[x,lo,hi] w λe w'=>e=.returned (.bool false)/\w=w':=by
 by_cases h2:lo<=x
 ·have h3:¬ x<=hi:=λh=>h1 ⟨h2,h⟩;clear h1;go_enter Tp.x110,qpH;go_wp2;go_ret;exact⟨rfl,rfl⟩
 ·clear h1;go_enter Tp.x110,qpH;go_wp2;go_ret;exact⟨rfl,rfl⟩
def xK(p:Par):Int:=if 1<=p.mn/\p.mn<=12 then if 1<=p.mx/\p.mx<=12 then if p.mx<p.mn then 5 else if 0<=p.bears/\p.bears<=30 then if 1<=p.tall/\p.tall<=3 then 0 else 1 else 1 else 1 else 1
theorem q2y(a b c d:Int)(w:qgx)(h1:¬ (1<=a/\a<=12)) :qhw Ya 109 #[.agg #[a,b,c,d]] w λe w'=>e=.returned (.int .i64 1)/\w.grownBy w' none:=by
 have HH:=qgv h1;clear h1;go_enter Tp.x109,qmz;go_wp2_with (first
  | (go_at_call 110;refine(jw _ _ _ _ (by have:=HH.out;omega) (by have:=HH.out;omega)).mono ?_;rintro e w' ⟨rfl,rfl⟩)
  | (go_at_call 110;(refine(yK _ _ _ _ (by have:=HH.out;omega)).mono ?_);rintro e w' ⟨rfl,rfl⟩))
 go_ret;exact⟨rfl,qgw _ _ _⟩
theorem q2x(a b c d:Int)(w:qgx)(h1:1<=a/\a<=12)(h2:¬ (1<=b/\b<=12)) :qhw Ya 109 #[.agg #[a,b,c,d]] w λe w'=>e=.returned (.int .i64 1)/\w.grownBy w' none:=by
 have HH:=qgv (qhb h1 h2);clear h1 h2;go_enter Tp.x109,qmz;go_wp2_with (first
  | (go_at_call 110;refine(jw _ _ _ _ (by have:=HH.out;omega) (by have:=HH.out;omega)).mono ?_;rintro e w' ⟨rfl,rfl⟩)
  | (go_at_call 110;(refine(yK _ _ _ _ (by have:=HH.out;omega)).mono ?_);rintro e w' ⟨rfl,rfl⟩))
 go_ret;exact⟨rfl,qgw _ _ _⟩
theorem q2w(a b c d:Int)(w:qgx)(h1:1<=a/\a<=12)(h2:1<=b/\b<=12)(h3:b<a) :qhw Ya 109 #[.agg #[a,b,c,d]] w λe w'=>e=.returned (.int .i64 5)/\w.grownBy w' none:=by
 have HH:=qgv (qhb h1 (qhb h2 h3));clear h1 h2;go_enter Tp.x109,qmz;go_wp2_with (first
  | (go_at_call 110;refine(jw _ _ _ _ (by have:=HH.out;omega) (by have:=HH.out;omega)).mono ?_;rintro e w' ⟨rfl,rfl⟩)
  | (go_at_call 110;(refine(yK _ _ _ _ (by have:=HH.out;omega)).mono ?_);rintro e w' ⟨rfl,rfl⟩))
 go_ret;exact⟨rfl,qgw _ _ _⟩
theorem q2v(a b c d:Int)(w:qgx)(h1:1<=a/\a<=12)(h2:1<=b/\b<=12)(h3:¬ b<a)(h4:¬ (0<=c/\c<=30)) :qhw Ya 109 #[.agg #[a,b,c,d]] w λe w'=>e=.returned (.int .i64 1)/\w.grownBy w' none:=by
 have HH:=qgv (qhb h1 (qhb h2 (qhb h3 h4)));clear h1 h2 h4;go_enter Tp.x109,qmz;go_wp2_with (first
  | (go_at_call 110;refine(jw _ _ _ _ (by have:=HH.out;omega) (by have:=HH.out;omega)).mono ?_;rintro e w' ⟨rfl,rfl⟩)
  | (go_at_call 110;(refine(yK _ _ _ _ (by have:=HH.out;omega)).mono ?_);rintro e w' ⟨rfl,rfl⟩))
 go_ret;exact⟨rfl,qgw _ _ _⟩
theorem q2u(a b c d:Int)(w:qgx)(h1:1<=a/\a<=12)(h2:1<=b/\b<=12)(h3:¬ b<a)(h4:0<=c/\c<=30)(h5:¬ (1<=d/\d<=3)) :qhw Ya 109 #[.agg #[a,b,c,d]] w λe w'=>e=.returned (.int .i64 1)/\w.grownBy w' none:=by
 have HH:=qgv (qhb h1 (qhb h2 (qhb h3 (qhb h4 h5))));clear h1 h2 h4 h5;go_enter Tp.x109,qmz;go_wp2_with (first
  | (go_at_call 110;refine(jw _ _ _ _ (by have:=HH.out;omega) (by have:=HH.out;omega)).mono ?_;rintro e w' ⟨rfl,rfl⟩)
  | (go_at_call 110;(refine(yK _ _ _ _ (by have:=HH.out;omega)).mono ?_);rintro e w' ⟨rfl,rfl⟩))
 go_ret;exact⟨rfl,qgw _ _ _⟩
theorem q2t(a b c d:Int)(w:qgx)(h1:1<=a/\a<=12)(h2:1<=b/\b<=12)(h3:¬ b<a)(h4:0<=c/\c<=30)(h5:1<=d/\d<=3) :qhw Ya 109 #[.agg #[a,b,c,d]] w λe w'=>e=.returned (.int .i64 0)/\w.grownBy w' none:=by
 have HH:=qgv (qhb h1 (qhb h2 (qhb h3 (qhb h4 h5))));clear h1 h2 h4 h5;go_enter Tp.x109,qmz;go_wp2_with (first
  | (go_at_call 110;refine(jw _ _ _ _ (by have:=HH.out;omega) (by have:=HH.out;omega)).mono ?_;rintro e w' ⟨rfl,rfl⟩)
  | (go_at_call 110;(refine(yK _ _ _ _ (by have:=HH.out;omega)).mono ?_);rintro e w' ⟨rfl,rfl⟩))
 go_ret;exact⟨rfl,qgw _ _ _⟩
theorem xI(p:Par)(w:qgx):qhw Ya 109 #[.agg #[p.mn,p.mx,p.bears,p.tall]] w λe w'=>e=.returned (.int .i64 (xK p))/\w.grownBy w' none:=by
 unfold xK;by_cases h1:1<=p.mn/\p.mn<=12
 ·by_cases h2:1<=p.mx/\p.mx<=12
  ·by_cases h3:p.mx<p.mn
   ·rw[if_pos h1,if_pos h2,if_pos h3];exact q2w _ _ _ _ w h1 h2 h3
   ·by_cases h4:0<=p.bears/\p.bears<=30
    ·by_cases h5:1<=p.tall/\p.tall<=3
     ·rw[if_pos h1,if_pos h2,if_neg h3,if_pos h4,if_pos h5];exact q2t _ _ _ _ w h1 h2 h3 h4 h5
     ·rw[if_pos h1,if_pos h2,if_neg h3,if_pos h4,if_neg h5];exact q2u _ _ _ _ w h1 h2 h3 h4 h5
    ·rw[if_pos h1,if_pos h2,if_neg h3,if_neg h4];exact q2v _ _ _ _ w h1 h2 h3 h4
  ·rw[if_pos h1,if_neg h2];exact q2x _ _ _ _ w h1 h2
 ·rw[if_neg h1];exact q2y _ _ _ _ w h1
def jz(ps:List Par)(lim:Int):Int:=if 5<ps.length then 6 else match ps.find? (λp=>decide (xK p≠0)) with
 | some p=>xK p
 | none=>if 1<=lim/\lim<=12 then 0 else 1
theorem Ym{Y:Type}(q:Y->Bool)(l:List Y)(k:Nat)(x:Y)(h:l[k]?=some x)(hq:q x=true)(hb:∀(i:Nat) (y:Y),i<k->l[i]?=some y->q y=false):l.find? q=some x:=by
 induction l generalizing k with
 | nil=>simp at h
 | cons a t ih=>
  cases k with
  | zero=>simp at h;subst h;simp[hq]
  | succ k=>
   rw[List.find?_cons_of_neg (by rw[hb 0 a (by omega) (by simp)];simp)];exact ih k (by simpa using h) (λi y hi hy=>hb (i+1) y (by omega) (by simpa using hy))
theorem QD{Y:Type}(q:Y->Bool)(l:List Y)(hb:∀(i:Nat) (y:Y),l[i]?=some y->q y=false):l.find? q=none:=by
 rw[qlk];intro x hx;obtain⟨i,hi⟩:=qnF hx;rw[hb i x hi];simp
theorem QF(lo hi:Nat)(yv:qgB)(ps:List Par)(lim:Int)(w:qgx)(hY:j5 lo hi w yv ps lim)(hhi:hi<=w.heap.size) :qhw Ya 52 #[yv] w λe w'=>e=.returned (.int .i64 (jz ps lim))/\w.grownBy w' none:=by
 obtain⟨qv,rfl,hP⟩:=hY;obtain⟨yb,yc,rfl,c9,-⟩:=hP.cell;by_cases h5:5<ps.length
 ·have HR:=qgv (show jz ps lim=6 by unfold jz;rw[if_pos h5]);have b8:(5:Int)<ps.length:=by omega
  clear hP;go_enter Tp.x52,Tryz.ntmps52;go_wp2;go_ret;exact⟨by rw[HR.out];rfl,qgw _ _ _⟩
 ·obtain⟨A,w1,hA,b0,a8,a9⟩:=zr w (.cells #[.slice yb ps.length yc,lim] 24);have b9:=qgv (hP.kept a8);have ⟨HW1,HA,HG1⟩:=z8 b0 hA a8;have q0:=q8 a9 (o:=0) rfl;have q1:=q8 a9 (o:=1) rfl;have b8:¬ (5:Int)<ps.length:=by omega
  clear hP b0 hA a8 a9;go_enter Tp.x52,Tryz.ntmps52;go_upto_region 1 with(fail);rw[<- HA.out,<- HW1.out];go_wp2;go_loopw [13] (λiv wr=>∃k:Nat,iv=.int .i64 k/\k<=ps.length/\(∀i p,i<k->ps[i]?=some p->xK p=0)/\w1.grownBy wr none) (λiv _=>(ps.length - qi9 iv).toNat)
  case atStart=>exact⟨0,rfl,by omega,λi p hi=>absurd hi (by omega),qh1 _ _⟩
  case round=>
   obtain⟨k,rfl,hk,hok,hG⟩:=hrel;have ⟨HOK,HG⟩:=qH hok hG;have b7:=b9.out.kept hG;have c8:=hG.cl q0;have c3:=hG.cl q1;clear hok hG;by_cases hlt:k<ps.length
   ·obtain⟨b2,c2,he,-,hc⟩:=b7.cell;cases he;obtain⟨YB,yo,rfl,d7,d6,d5,b6⟩:=hc (by intro e;rw[e] at hlt;simp at hlt);obtain⟨p,hp,p0,p1,p2,p3⟩:=b6 k (by omega);have HPP:=qgv hp;clear hc b6 hp b7;by_cases hz:xK p=0
    ·go_wp2_with (go_at_call 109;refine(xI p _).mono ?_;rintro e w3 ⟨rfl,a6⟩;rw[hz];have HG3:=qgv a6;clear a6);go_roundw
     case rel=>
      refine⟨k+1,by simp,by omega,λi q hi hq=>?_,(HG.out.trans (qgw _ _ _)).trans HG3.out⟩;by_cases e:i=k
      ·subst e;rw[HPP.out] at hq;cases hq;exact hz
      ·exact HOK.out i q (by omega) hq
     case measure=>simp[qi9];omega
    ·have HR:=qgv (show jz ps lim=xK p by
      unfold jz;rw[if_neg h5,Ym _ ps k p HPP.out (by simp[hz]) (λi y hi hy=>by simp[HOK.out i y hi hy])])
     obtain⟨z,a7⟩:∃z,xK p=z:=⟨_,rfl⟩;rw[a7] at hz HR;have HZ:=qgv a7;clear a7;go_wp2_with (go_at_call 109;refine(xI p _).mono ?_;rintro e w3 ⟨rfl,a6⟩;rw[HZ.out];have HG3:=qgv a6;clear a6);go_ret;exact⟨by rw[HR.out];rfl,((HG1.out.trans HG.out).trans (qgw _ _ _)).trans HG3.out⟩
   ·obtain rfl:k=ps.length:=by omega
    by_cases hl:1<=lim/\lim<=12
    ·have HR:=qgv (show jz ps lim=0 by
      unfold jz;rw[if_neg h5,QD _ ps (λi y hy=>by simp[HOK.out i y (qh9.1 hy).1 hy])];exact if_pos hl)
     go_wp2_with (go_at_call 110;refine(jw _ _ _ _ hl.1 hl.2).mono ?_;rintro e w' ⟨rfl,rfl⟩);go_ret;exact⟨by rw[HR.out];rfl,HG1.out.trans HG.out⟩
    ·have HR:=qgv (show jz ps lim=1 by
      unfold jz;rw[if_neg h5,QD _ ps (λi y hy=>by simp[HOK.out i y (qh9.1 hy).1 hy])];exact if_neg hl)
     have HL:=qgv hl;clear hl;go_wp2_with (go_at_call 110;refine(yK _ _ _ _ HL.out).mono ?_;rintro e w' ⟨rfl,rfl⟩);go_ret;exact⟨by rw[HR.out];rfl,HG1.out.trans HG.out⟩
theorem qc2:∀m:Fin 32,∀n:Fin 5,(bits .and .u8 (m.1:Int) ((2 ^ n.1:Nat):Int) != 0)=m.1.testBit n.1:=by decide
theorem qdB:∀m:Fin 32,∀n:Fin 5,bits .or .u8 (m.1:Int) ((2 ^ n.1:Nat):Int)=((m.1 ||| 2 ^ n.1:Nat):Int):=by decide
@[simp] theorem qgt(w:qgx):(qn5 205 (.agg #[.int .u8 1,.int .u8 2,.int .u8 4,.int .u8 8,.int .u8 16]) (.int .i64 0)).run Ya w=.ok (.int .u8 1) w:=by kernel_rfl
@[simp] theorem qgs(w:qgx):(qn5 205 (.agg #[.int .u8 1,.int .u8 2,.int .u8 4,.int .u8 8,.int .u8 16]) (.int .i64 1)).run Ya w=.ok (.int .u8 2) w:=by kernel_rfl
@[simp] theorem qgr(w:qgx):(qn5 205 (.agg #[.int .u8 1,.int .u8 2,.int .u8 4,.int .u8 8,.int .u8 16]) (.int .i64 2)).run Ya w=.ok (.int .u8 4) w:=by kernel_rfl
@[simp] theorem qgq(w:qgx):(qn5 205 (.agg #[.int .u8 1,.int .u8 2,.int .u8 4,.int .u8 8,.int .u8 16]) (.int .i64 3)).run Ya w=.ok (.int .u8 8) w:=by kernel_rfl
@[simp] theorem qgp(w:qgx):(qn5 205 (.agg #[.int .u8 1,.int .u8 2,.int .u8 4,.int .u8 8,.int .u8 16]) (.int .i64 4)).run Ya w=.ok (.int .u8 16) w:=by kernel_rfl
theorem xB(n:Nat)(w:qgx)(h:n<5):qhw Ya 153 #[n] w λe w'=>e=.returned (.int .u8 ((2 ^ n:Nat):Int))/\w=w':=by
 obtain rfl | rfl | rfl | rfl | rfl:n=0\/n=1\/n=2\/n=3\/n=4:=by omega
 all_goals
  go_enter Tp.x153,Tryz.ntmps153;go_wp2;go_ret;exact⟨rfl,rfl⟩
theorem Yl(m n:Nat)(w:qgx)(hm:m<32)(h:n<5):qhw Ya 129 #[.int .u8 m,n] w λe w'=>e=.returned (.bool (m.testBit n))/\w=w':=by
 have hb:=qc2 ⟨m,hm⟩ ⟨n,h⟩;simp only at hb;have HB:=qgv hb;clear hb;obtain⟨z,hz⟩:∃z:Int,((2 ^ n:Nat):Int)=z:=⟨_,rfl⟩;have HZ:=qgv hz;clear hz;go_enter Tp.x129,Tryz.ntmps129;go_wp2_with (go_at_call 153;refine(xB n _ h).mono ?_;rintro e w' ⟨rfl,rfl⟩;rw[HZ.out]);go_ret;exact⟨by rw[<- HB.out,HZ.out];rfl,rfl⟩
theorem Zu(m n:Nat)(w:qgx)(hm:m<32)(h:n<5):qhw Ya 151 #[.int .u8 m,n] w λe w'=>e=.returned (.int .u8 ((m ||| 2 ^ n:Nat):Int))/\w=w':=by
 have hb:=qdB ⟨m,hm⟩ ⟨n,h⟩;simp only at hb;have HB:=qgv hb;clear hb;obtain⟨z,hz⟩:∃z:Int,((2 ^ n:Nat):Int)=z:=⟨_,rfl⟩;have HZ:=qgv hz;clear hz;go_enter Tp.x151,Tryz.ntmps151;go_wp2_with (go_at_call 153;refine(xB n _ h).mono ?_;rintro e w' ⟨rfl,rfl⟩;rw[HZ.out]);go_ret;exact⟨by rw[<- HB.out,HZ.out];rfl,rfl⟩
theorem YZ(k:Int)(w:qgx):qhw Ya 162 #[.bool true,k] w λe w'=>e=.returned (.tuple #[])/\w=w':=by
 go_enter Tp.x162,Tryz.ntmps162;go_wp2;go_end0;exact⟨rfl,rfl⟩
theorem Kw(p:qi5)(w:qgx) :CallsD Ya 161 #[.pointer (some p)] .returning w λe u' w'=>e=.returned (.tuple #[])/\u'=.returning/\w'=w.alloc (.cells #[.int .i64 0] 181):=by
 have a6:∀w,(qkz .nilIface 20 181 true).run Ya w=.ok (.tuple #[.agg #[.int .i64 0],.bool false]) w:=λw=>by kernel_rfl
 refine callsD_of_wpS Tp.x161 rfl λc₀ cs hu=>?_;apply wpS_seq;apply qp1;simp[wpOpsS,go_sem,recoverD,hu,qor,Exit.thenS,a6];apply wpS_seq;apply qp1;simp[wpOpsS,go_sem,recoverD,hu,qor,Exit.thenS];refine wpS_cond (t:=false) (by simp[Act.eval,qi0]) ?_;simp only[qhy,if_false];refine wpS_of_wp (wp_skip ?_);cases c₀
 simp_all [bodyPostS,qjb,qr1]
theorem QG(B:Nat)(x k:Int)(a6:List qlG)(w:qgx)(hB:w.heap[B]?=some (.cells #[x] 40 (0,0))) :CallsD Ya 161 #[.pointer (some B)] (.panicking ({ v:=.iface 181 (.agg #[k]),recovered:=false }::a6)) w λe u' w' =>e=.returned (.tuple #[])/\u'=.panicking ({ v:=.iface 181 (.agg #[k]),recovered:=true }::a6)/\w'=(w.alloc (.cells #[k] 181)).setCell B (.int .i64 k):=by
 have a7:∀w,(qkz (.iface 181 (.agg #[k])) 20 181 true).run Ya w=.ok (.tuple #[.agg #[k],.bool true]) w:=λw=>by kernel_rfl
 have hc:=q8 (qp (p:=.cells #[k] 181) hB) (o:=0) rfl;have hz:=qm (qp (p:=.cells #[k] 181) hB) (o:=0);refine callsD_of_wpS Tp.x161 rfl λc₀ cs hu=>?_;apply wpS_seq;apply qp1;simp[wpOpsS,go_sem,recoverD,hu,qor,Exit.thenS,a7];apply wpS_seq;apply qp1;simp[wpOpsS,go_sem,recoverD,hu,qor,Exit.thenS];refine wpS_cond (t:=true) (by simp[Act.eval,qi0]) ?_;simp only[if_true];apply qp1;simp[wpOpsS,go_sem,hc,hz,bodyPostS,qjb,qr1]
theorem q2e(k:Int)(w:qgx):qhw Ya 162 #[.bool false,k] w λe w'=>e=.panicked [{ v:=.iface 181 (.agg #[k]),recovered:=false }]/\w=w':=by
 have a6:∀(x:Bool) (w:qgx),(Op.unary .not (.bool x)).run Ya w=.ok (.bool (!x)) w:=λ_ _=>rfl;go_enter Tp.x162,Tryz.ntmps162;go_wp2;exact⟨rfl,rfl,rfl⟩
def zc(l:List Int):Nat:=l.foldl (λm x=>m ||| 2 ^ x.toNat) 0
theorem Jj(l:List Int)(k:Nat)(x:Int)(h:l[k]?=some x):zc (l.take (k+1))=zc (l.take k) ||| 2 ^ x.toNat:=by
 rw[qig,h];simp[zc]
theorem xm(l:List Int)(n:Nat)(h:∀x∈l,x.toNat<n):zc l<2 ^ n:=by
 unfold zc;have key:∀(l:List Int) (m:Nat),m<2 ^ n->(∀x∈l,x.toNat<n)->l.foldl (λm x=>m ||| 2 ^ x.toNat) m<2 ^ n:=by
  intro l;induction l with
  | nil=>exact λm hm _=>hm
  | cons a t ih=>exact λm hm hx=>ih _ (Nat.or_lt_two_pow hm (Nat.pow_lt_pow_right (by omega) (hx a (by simp)))) λx hx'=>hx x (by simp[hx'])
 exact key l 0 (Nat.two_pow_pos n) h
theorem ZM(l:List Int)(b:Nat):(zc l).testBit b=true↔∃x∈l,x.toNat=b:=by
 unfold zc;have key:∀(l:List Int) (m:Nat),(l.foldl (λm x=>m ||| 2 ^ x.toNat) m).testBit b=true↔m.testBit b=true\/∃x∈l,x.toNat=b:=by
  intro l;induction l with
  | nil=>simp
  | cons a t ih=>
   intro m;simp only[List.foldl_cons,ih,Nat.testBit_or,qju,Nat.testBit_two_pow,decide_eq_true_eq,qix,exists_eq_or_imp];constructor
   ·rintro((h | h) | h)
    ·exact .inl h
    ·exact .inr (.inl h)
    ·exact .inr (.inr h)
   ·rintro(h | h | h)
    ·exact .inl (.inl h)
    ·exact .inl (.inr h)
    ·exact .inr h
 rw[key l 0];simp
def jr(ps:List Par)(x:Int):Int:=match ps[x.toNat]? with | some p=>p.tall | none=>0
def qK(ps:List Par)(l:List Int):Int:=(l.map (jr ps)).foldl (·+·) 0
theorem vY(ps:List Par)(l:List Int)(k:Nat)(x:Int)(h:l[k]?=some x):qK ps (l.take (k+1))=qK ps (l.take k)+jr ps x:=by
 rw[qig,h];simp[qK]
def q2r(ps:List Par)(lim:Int)(l:List Int):Int:=if qK ps l<=lim then 0 else 10
theorem vh(lo hi:Nat)(yv pv:qgB)(ps:List Par)(lim:Int)(l:List Int)(w:qgx)(hY:j5 lo hi w yv ps lim)(hI:qf lo hi w pv l)(hhi:hi<=w.heap.size)(h5:ps.length<=5)(hx:∀x∈l,0<=x/\x<ps.length)(c3:l.Nodup)(ht:∀p∈ps,0<=p.tall/\p.tall<=1000)(hlen:l.length<=100) :qhw Ya 133 #[yv,pv] w λe w'=>e=.returned (.int .i64 (q2r ps lim l))/\w.grownBy w' none:=by
 have k9:∀(fn:Fn) (first cap:Array qgB) (w:qgx),(qr5 fn first cap).run Ya w=.ok (.func fn first cap) w:=λ_ _ _ _=>rfl;have g6:∀(x:Bool) (w:qgx),(Op.unary .not (.bool x)).run Ya w=.ok (.bool (!x)) w:=λ_ _=>rfl;obtain⟨qv,rfl,hP⟩:=hY;obtain⟨yb,yc,rfl,h8,-⟩:=hP.cell;obtain⟨base,cap,rfl,l4,-⟩:=hI.cell;obtain⟨A,w1,hA,d5,b6,b7,d9,e8⟩:=zp w (.cells #[.slice yb ps.length yc,lim] 91) (.cells #[.int .i64 0] 40);have g5:=qgv (hI.kept b6);have e9:=qgv (hP.kept b6);have ⟨HX,HND,HT,HW1,HA,HG1,HR1⟩:=q62 hx c3 ht d5 hA b6 d9;have q0:=q8 b7 (o:=0) rfl;have q1:=q8 b7 (o:=1) rfl;clear hI hP hx c3 ht d5 hA b6 b7 d9;go_enter_defers Tp.x133,Tryz.ntmps133;go_upto_region 4 with(fail);rw[<- HA.out,<- HW1.out];go_wp2;go_loopw [5,6,12] (λmv tv iv wr=>∃k:Nat,iv=.int .i64 k/\k<=l.length/\mv=.int .u8 (zc (l.take k))/\tv=.int .i64 (qK ps (l.take k))/\0<=qK ps (l.take k)/\qK ps (l.take k)<=1000*k/\w1.grownBy wr none) (λ_ _ iv _=>(l.length - qi9 iv).toNat)
 case atStart=>exact⟨0,rfl,by omega,by simp[zc],by simp[qK],by simp[qK],by simp[qK],qh1 _ _⟩
 case round=>
  obtain⟨k,rfl,hk,rfl,rfl,ht0,ht1,hG⟩:=hrel;have HG:=qgv hG;have g8:=hG.cl q0;have g7:=hG.cl q1;have k5:=hG.size;clear hG;by_cases hlt:k<l.length
  ·have e6:=g5.out.kept HG.out;have e5:=e9.out.kept HG.out;obtain⟨b1,c1,he,-,hc⟩:=e6.cell;cases he;obtain⟨B,o,rfl,b7,m4,m3,e4⟩:=hc (by intro e;rw[e] at hlt;simp at hlt);have hx:=e4 k hlt;obtain⟨x,a6⟩:∃x,l[k]?=some x:=⟨_,qgG hlt⟩;obtain⟨k0,b9⟩:=HX.out x (qhg a6);rw[a6] at hx;simp only[qgH] at hx;have a7:(zc (l.take k)).testBit x.toNat=false:=by
    rw[Bool.eq_false_iff];intro h;obtain⟨y,hy,g9⟩:=(ZM _ _).1 h;obtain⟨j,hj⟩:=qnF hy;have d7:j<k:=by have:=(qh9.1 hj).1;simp at this;omega
    rw[qiz d7] at hj;have h9:=HX.out y (qhg hj);obtain rfl:y=x:=by omega
    obtain⟨h1,h2⟩:=qh9.1 hj;obtain⟨h3,h4⟩:=qh9.1 a6;exact List.pairwise_iff_getElem.1 HND.out j k h1 h3 d7 (h2.trans h4.symm)
   have hM:zc (l.take k)<32:=xm _ 5 λy hy=>by have:=HX.out y (qlr hy);omega
   have b0:=Jj l k x a6;have a8:=vY ps l k x a6;obtain⟨m,rfl⟩:∃m:Nat,x=m:=⟨x.toNat,by omega⟩;obtain⟨b2,c2,he,-,hc⟩:=e5.cell;cases he;obtain⟨YB,yo,rfl,l7,l6,l5,d8⟩:=hc (by intro e;rw[e] at b9;simp at b9;omega);obtain⟨p,hp,p0,p1,p2,p3⟩:=d8 m (by omega);have k7:=HT.out p (qhg hp);rw[show jr ps m=p.tall by unfold jr;simp[hp]] at a8;simp only[Int.toNat_natCast] at a7 b0;have k8:(m:Int)<(ps.length:Int):=b9;have d6:m<5:=by omega
   generalize zc (l.take k)=M at a7 hM b0;generalize qK ps (l.take k)=T at ht0 ht1 a8;have ⟨HBIT,HMS,HTS,HXE⟩:=zY a7 b0 a8 a6;clear e6 e5 hc e4 d8 hp a7 b0 a8 a6;go_wp2_with (first
    | (go_at_call 110;refine(jw _ _ _ _ (by omega) (by omega)).mono ?_;rintro e w' ⟨rfl,rfl⟩)
    | (go_at_call 162;refine(YZ _ _).mono ?_;rintro e w' ⟨rfl,rfl⟩)
    | (go_at_call 129;refine(Yl M m _ hM d6).mono ?_;rintro e w' ⟨rfl,rfl⟩;rw[HBIT.out])
    | (go_at_call 151;refine(Zu M m _ hM d6).mono ?_;rintro e w' ⟨rfl,rfl⟩)
    | (go_at_call 145;refine(Yx _ _ _ T p.tall _ (by exact qf.laid _ [T,p.tall] 2 rfl (by simp)) (by omega) (by omega)).mono ?_;rintro e w' ⟨rfl,rfl⟩))
   go_roundw
   case rel=>
    refine⟨k+1,by simp,by omega,by rw[HMS.out],by rw[HTS.out],by rw[HTS.out];omega,by rw[HTS.out];omega,HG.out.trans (qgw _ _ _)⟩
   case measure=>simp[qi9];omega
  ·obtain rfl:k=l.length:=by omega
   rw[qis] at ht0 ht1;rw[qis];have HZ:=qgv (show q2r ps lim l=if qK ps l<=lim then 0 else 10 from rfl);generalize qK ps l=T at ht0 ht1 HZ;generalize zc l=M;have a9:=bk HG.out HR1.out;have l9:=q8 (o:=0) a9 rfl;have l8:=qm (o:=0) a9;have c9:=qgv a9;have k6:=e8;clear a9;by_cases b8:T<=lim
   ·have HC:=qgv (HZ.out.trans (if_pos b8));go_wp2_with (go_at_call 162;refine(YZ _ _).mono ?_;rintro e w' ⟨rfl,rfl⟩);refine qn7 (f:=161) (args:=#[.pointer (some (A+1:Nat))]) (by simp) (by simp[go_sem]) ?_;refine(Kw ⟨A+1,0,none⟩ _).mono ?_;rintro e u' e7 ⟨rfl,rfl,rfl⟩;have c8:(((wr.setCell (A+1:Nat) (.int .i64 0)).alloc (.cells #[.int .i64 0] 181)).heap[A+1]?=some (.cells #[.int .i64 0] 40 (0,0))):=qp (by rw[qg c9.out];rfl);refine⟨.int .i64 0,?_,by rw[HC.out],?_⟩
    ·simp[qjb,qm5,go_sem,qhs,c8]
    ·have hh:=HG1.out.trans HG.out;exact(hh.andThen (qe _ _ _ _) (by rintro j e;cases e;exact .inl (by have:=HA.out;omega))).trans (qgw _ _ _)
   ·have HC:=qgv (HZ.out.trans (if_neg b8));have c3:decide (T<=lim)=false:=by simp;omega
    go_wp2_with (go_at_call 162;refine(q2e _ _).mono ?_;rintro e w' ⟨rfl,rfl⟩);refine qn7 (f:=161) (args:=#[.pointer (some (A+1:Nat))]) (by simp) (by simp[go_sem]) ?_;refine(QG (A+1) 0 10 [] _ c9.out).mono ?_;rintro e u' e7 ⟨rfl,rfl,rfl⟩;have hh:=HG1.out.trans HG.out;have c8:=qg (o:=0) (v:=.int .i64 10) (qp (p:=.cells #[.int .i64 10] 181) c9.out);simp[Leaves,settle,qjb,qm5,go_sem,qhs,c8,HC.out];exact(hh.trans (qgw _ _ none)).andThen (qe _ _ _ _) (by rintro j e;cases e;exact .inl (by have:=HA.out;omega))
structure YOk(ps:List Par)(lim:Int):Prop where
 len:ps.length<=5
 each:∀p∈ps,1<=p.mn/\p.mn<=p.mx/\p.mx<=12/\0<=p.bears/\p.bears<=30/\1<=p.tall/\p.tall<=3
 l1:1<=lim
 l2:lim<=12
theorem YOk.chk{ps:List Par}{lim:Int}(h:YOk ps lim):jz ps lim=0:=by
 have h1:=h.len;unfold jz;rw[if_neg (by omega),QD _ ps (λi y hy=>by
  have:=h.each y (qhg hy);have hz:xK y=0:=by unfold xK;rw[if_pos (by omega),if_pos (by omega),if_neg (by omega),if_pos (by omega),if_pos (by omega)]
  simp[hz])]
 exact if_pos ⟨h.l1,h.l2⟩
structure POk(ps:List Par)(lim:Int)(l:List Int):Prop where
 ok:∀x∈l,0<=x/\x<ps.length
 nd:l.Nodup
 tall:qK ps l<=lim
 len:l.length<=100
structure PIn(ps:List Par)(l:List Int):Prop where
 ok:∀x∈l,0<=x/\x<ps.length
 nd:l.Nodup
 len:l.length<=100
theorem POk.pin{ps:List Par}{lim:Int}{l:List Int}(h:POk ps lim l):PIn ps l:=⟨h.ok,h.nd,h.len⟩
theorem POk.chk{ps:List Par}{lim:Int}{l:List Int}(h:POk ps lim l):q2r ps lim l=0:=if_pos h.tall
theorem qaB(lo hi:Nat)(pv qv:qgB)(ps:List Par)(lim:Int)(l:List Int)(w:qgx)(hP:qn lo hi w pv ps)(hI:qf lo hi w qv l)(hhi:hi<=w.heap.size)(hok:YOk ps lim)(hp:PIn ps l) :qhw Ya 81 #[.agg #[pv,lim],qv] w λe w'=>e=.returned (.tuple #[.agg #[pv,lim],(q2r ps lim l)])/\w.grownBy w' none:=by
 obtain⟨yb,yc,rfl,e5,-⟩:=hP.cell;obtain⟨base,cap,rfl,e9,-⟩:=hI.cell;obtain⟨A,w1,hA,b8,b0,b7,c8,e8⟩:=zp w (.cells #[.slice yb ps.length yc,lim] 24) (.cells #[.slice none 0 0,.int .i64 0] 91);have e4:=qgv (hI.kept b0);have d7:=qgv (hP.kept b0);have ⟨HW1,HA,HG1,HR1,HB1⟩:=ZS b8 hA b0 c8 b7;have q0:=q8 b7 (o:=0) rfl;have q1:=q8 b7 (o:=1) rfl;have g5:hi<=A:=by omega
 have ⟨HY,HPO⟩:=qH hok hp;clear hP hI hok hp b8 hA b0 c8 b7;go_enter Tp.x81,qqi;go_upto_region 1 with(fail);rw[<- HA.out,<- HW1.out];go_upto_region 4 with(go_at_call 52;refine(QF lo hi _ ps lim _ ⟨_,rfl,d7.out⟩ (by omega)).mono ?_;rintro e w2 ⟨rfl,d6⟩;rw[HY.out.chk];have HG2:=qgv d6;clear d6);have p0:=HG2.out.cl q0;have p1:=HG2.out.cl q1;have e7:=HG2.out.size;clear q0 q1;go_upto_region 5 with(fail);obtain⟨Y,a8⟩:∃Y,Y=w2.heap.size:=⟨_,rfl⟩;obtain⟨w3,a6⟩:∃w3,w3=w2.alloc (.cells #[.slice yb ps.length yc,lim] 91):=⟨_,rfl⟩;have a7:w2.grownBy w3 none:=by rw[a6];exact qgw _ _ none
 have b6:w3.heap[Y]?=some (.cells #[.slice yb ps.length yc,lim] 91 (0,0)):=by rw[a6,a8];exact qgF _ _
 have e6:w3.heap.size=Y+1:=by rw[a6,qh6,a8]
 rw[<- a8,<- a6];have q0:=q8 b6 (o:=0) rfl;have q1:=q8 b6 (o:=1) rfl;have HR3:=qgv (bk a7 (blk HG2.out (by simp) HR1.out));have HB3:=qgv b6;have HG3:=qgv ((HG1.out.trans HG2.out).trans a7);have d9:=qgv ((e4.out.kept HG2.out).kept a7);have d8:=qgv ((d7.out.kept HG2.out).kept a7);have g6:A+1<Y:=by omega
 clear a7 b6 a6 a8 p0 p1;go_region_law
  (first
   | (go_simp;go_at_call 133;refine(vh lo hi _ _ ps lim l _ ⟨_,rfl,d8.out.kept (qc _ none)⟩ (d9.out.kept (qc _ none)) (by simp;omega) HY.out.len HPO.out.ok HPO.out.nd (λp hp=>by have:=HY.out.each p hp;omega) HPO.out.len).mono ?_;rintro e w4 ⟨rfl,d5⟩;have HG4:=qgv ((qc w3 none).trans d5);have r0:=q8 (o:=0) (bk HG4.out HB3.out) rfl;have r1:=q8 (o:=1) (bk HG4.out HB3.out) rfl;have s0:=q8 (o:=0) (bk HG4.out HR3.out) rfl;have s1:=q8 (o:=1) (bk HG4.out HR3.out) rfl;have f0:=qm (o:=0) (bk HG4.out HR3.out);have f1:=qm (o:=1) (bk HG4.out HR3.out);clear d5))
 all_goals
  have b9:=bk HG4.out HR3.out;obtain⟨W,a9⟩:∃W,W=(w4.setCell (A+1:Nat) (.slice yb ps.length yc)).setCell ⟨A+1,1,none⟩ (.int .i64 lim):=⟨_,rfl⟩;have c3:W.heap[A+1]?=some (.cells #[.slice yb ps.length yc,lim] 91 (0,0)):=by rw[a9,qg (qg b9)];rfl
  have c9:w.grownBy W none:=(HG3.out.trans HG4.out).andThen (row':=some (A+1)) (by rw[a9];exact(qe _ _ _ _).trans (qe _ _ _ _)) (by rintro j e;cases e;exact .inl (by have:=HA.out;omega));have ⟨HRW,HGW,HWe⟩:=z8 c3 c9 a9;clear b9 c3 c9 a9;go_wp2;rw[<- HWe.out];exact qj8 (v:=.tuple #[.agg #[.slice yb ps.length yc,lim],(q2r ps lim l)]) (by simp[qjb,qpk,go_sem,qhs,HRW.out]) rfl ⟨rfl,HGW.out⟩
theorem xh(lo hi:Nat)(pv qv:qgB)(ps:List Par)(lim:Int)(l:List Int)(w:qgx)(hP:qn lo hi w pv ps)(hI:qf lo hi w qv l)(hhi:hi<=w.heap.size)(hok:YOk ps lim)(hp:POk ps lim l) :qhw Ya 81 #[.agg #[pv,lim],qv] w λe w'=>e=.returned (.tuple #[.agg #[pv,lim],.int .i64 0])/\w.grownBy w' none:=by
 have h:=qaB lo hi pv qv ps lim l w hP hI hhi hok hp.pin
 rwa [hp.chk] at h
def qck(a b:Bool):Int:=if a != b then 3 else if a then 1 else 2
theorem q30(a b:Bool)(w:qgx):qhw Ya 95 #[.bool a,.bool b] w λe w'=>e=.returned (.int .i64 (qck a b))/\w=w':=by
 cases a<;>cases b;all_goals
  go_enter Tp.x95,Tryz.ntmps95;go_wp2;go_ret;exact⟨rfl,rfl⟩
theorem q5A(a b c d:Int)(w:qgx):qhw Ya 39 #[a,b,c,d] w λe w'=>e=.returned (.agg #[a,b,c,d])/\w.grownBy w' none:=by
 obtain⟨A,hA⟩:∃A,A=w.heap.size:=⟨_,rfl⟩;obtain⟨w1,a6⟩:∃w1,w1=w.alloc (.cells #[.int .i64 0,.int .i64 0,.int .i64 0,.int .i64 0] 28):=⟨_,rfl⟩;have hR:w1.heap[A]?=some (.cells #[.int .i64 0,.int .i64 0,.int .i64 0,.int .i64 0] 28 (0,0)):=by rw[a6,hA];exact qgF w _
 have hG:w.grownBy w1 none:=by rw[a6];exact qgw _ _ none
 have ⟨HA,HW1,HR,HG⟩:=zY hA a6 hR hG;have r0:=q8 (o:=0) hR rfl;have r1:=q8 (o:=1) hR rfl;have r2:=q8 (o:=2) hR rfl;have r3:=q8 (o:=3) hR rfl;have fz:∀o,w1.frozen? ⟨A,o,none⟩=false:=λo=>qm hR;clear hA a6 hR hG;go_enter Tp.x39,Tryz.ntmps39;go_upto_region 1 with(fail);rw[<- HA.out,<- HW1.out];obtain⟨W,a7⟩:∃W,W=(((w1.setCell A (.int .i64 a)).setCell ⟨A,1,none⟩ (.int .i64 b)).setCell ⟨A,2,none⟩ (.int .i64 c)).setCell ⟨A,3,none⟩ (.int .i64 d):=⟨_,rfl⟩;have a8:W.heap[A]?=some (.cells #[a,b,c,d] 28 (0,0)):=by rw[a7,qg (qg (qg (qg HR.out)))];rfl
 have a9:w.grownBy W none:=HG.out.andThen (row':=some A) (by rw[a7];exact(((qe _ _ _ _).trans (qe _ _ _ _)).trans (qe _ _ _ _)).trans (qe _ _ _ _)) (by rintro j e;cases e;exact .inl (by have:=HA.out;omega));have ⟨HRW,HGW,HWe⟩:=z8 a8 a9 a7;clear a8 a9 a7;go_wp2;rw[<- HWe.out];exact qj8 (v:=.agg #[a,b,c,d]) (by simp[qjb,Tryz.results39,go_sem,qhs,HRW.out]) rfl ⟨rfl,HGW.out⟩
def z9(n:Int):List Par:=[⟨8,10,n,2⟩,⟨4,6,6,2⟩,⟨2,3,3,1⟩,⟨5,5,0,1⟩]
theorem YOk.mn{ps:List Par}{lim:Int}(h:YOk ps lim)(i:Nat):0<=pre Par.mn ps ps.length i/\pre Par.mn ps ps.length i<=1000:=by
 unfold pre;split
 ·rename_i hi
  rw[qgG hi];have:=h.each _ (List.getElem_mem hi);simp only;omega
 ·omega
theorem YOk.mx{ps:List Par}{lim:Int}(h:YOk ps lim)(i:Nat):0<=pre Par.mx ps ps.length i/\pre Par.mx ps ps.length i<=1000:=by
 unfold pre;split
 ·rename_i hi
  rw[qgG hi];have:=h.each _ (List.getElem_mem hi);simp only;omega
 ·omega
def q1H(ps:List Par)(l:List Int):Int:=qck (qz ps (pre Par.mn ps ps.length) l) (qz ps (pre Par.mx ps ps.length) l)
theorem q7B(lo hi:Nat)(pv qv:qgB)(ps:List Par)(lim:Int)(l:List Int)(w:qgx)(hP:qn lo hi w pv ps)(hI:qf lo hi w qv l)(hhi:hi<=w.heap.size)(hok:YOk ps lim)(hp:POk ps lim l) :qhw Ya 37 #[.agg #[pv,lim],qv] w λe w'=>e=.returned (.tuple #[(q1H ps l),.int .i64 0])/\w.grownBy w' none:=by
 obtain⟨yb,yc,rfl,e9,-⟩:=hP.cell;obtain⟨base,cap,rfl,g5,-⟩:=hI.cell;obtain⟨A,w1,hA,b7,b0,c3⟩:=zr w (.cells #[.slice yb ps.length yc,lim] 24);have e6:w1.heap.size=A+1:=by rw[b7,qh6,hA]
 have d9:=qgv (hI.kept b0);have d8:=qgv (hP.kept b0);have ⟨HW1,HA,HG1⟩:=z8 b7 hA b0;have q0:=q8 c3 (o:=0) rfl;have q1:=q8 c3 (o:=1) rfl;have g6:hi<=A:=by omega
 have ⟨HY,HPO⟩:=qH hok hp;clear hP hI hok hp b7 hA b0 c3;go_enter Tp.x37,Tryz.ntmps37;go_upto_region 1 with(fail);rw[<- HA.out,<- HW1.out];go_upto_region 2 with(go_at_call 81;refine(xh lo hi _ _ ps lim l _ d8.out d9.out (by omega) HY.out HPO.out).mono ?_;rintro e w2 ⟨rfl,d7⟩;have HG2:=qgv d7;clear d7);have e5:=HG2.out.size;obtain⟨Y,a8⟩:∃Y,Y=w2.heap.size:=⟨_,rfl⟩;obtain⟨w3,a6⟩:∃w3,w3=w2.alloc (.cells #[.slice yb ps.length yc,lim] 91):=⟨_,rfl⟩;have a9:w2.grownBy w3 none:=by rw[a6];exact qgw _ _ none
 have b6:w3.heap[Y]?=some (.cells #[.slice yb ps.length yc,lim] 91 (0,0)):=by rw[a6,a8];exact qgF _ _
 have e4:w3.heap.size=Y+1:=by rw[a6,qh6,a8]
 rw[<- a8,<- a6];clear q0 q1;have s0:=q8 b6 (o:=0) rfl;have s1:=q8 b6 (o:=1) rfl;have HB3:=qgv b6;have HG3:=qgv ((HG1.out.trans HG2.out).trans a9);have e8:=qgv ((d9.out.kept HG2.out).kept a9);have e7:=qgv ((d8.out.kept HG2.out).kept a9);have g7:A<Y:=by omega
 have a7:hi<=w3.heap.size:=by omega
 clear a9 b6 a6 a8 e6 e5 e4;go_upto_region 4 with(fail);have HT:=qgv (qh1 w3 none);have c8:∀W,w3.grownBy W none->j5 lo hi W (.agg #[.slice yb ps.length yc,lim]) ps lim:=λW h=>⟨_,rfl,e7.out.kept h⟩;have c9:∀W,w3.grownBy W none->qf lo hi W (.slice base l.length cap) l:=λW h=>e8.out.kept h;have ⟨HYR,HIR⟩:=qH c8 c9;clear c8 c9;have SC:=qgv (qhb s0 s1);obtain⟨gm,b9⟩:∃gm,gm=pre Par.mn ps ps.length:=⟨_,rfl⟩;obtain⟨gx,b8⟩:∃gx,gx=pre Par.mx ps ps.length:=⟨_,rfl⟩;have d6:∀i,0<=gm i/\gm i<=1000:=by rw[b9];exact HY.out.mn
 have d5:∀i,0<=gx i/\gx i<=1000:=by rw[b8];exact HY.out.mx
 have ⟨HGM,HGX,HBM,HBX⟩:=zY b9 b8 d6 d5;clear b9 b8 d6 d5;go_region_held3 (λw'=>w'.cell? Y=some (.slice yb ps.length yc)/\w'.cell? ⟨Y,1,none⟩=some (.int .i64 lim))
  (first | exact SC.out)
  (first
   | (go_at_call 93;refine(Qy lo hi _ ps lim _ (HYR.out _ (by first | exact HT.out | exact HT.out.trans (qc _ _))) (qh0 a7 (by first | exact HT.out.size | exact(HT.out.trans (qc _ none)).size)) HY.out.len).mono ?_;rintro e w5 ⟨rfl,hg⟩;rw[<- HGM.out];replace HT:=qgv (show w3.grownBy w5 none by first | exact HT.out.trans hg | exact(HT.out.trans (qc _ _)).trans hg);replace SC:=qgv (show w5.cell? Y=some (.slice yb ps.length yc)/\w5.cell? ⟨Y,1,none⟩=some (.int .i64 lim) from⟨q8 (bk HT.out HB3.out) rfl,q8 (bk HT.out HB3.out) rfl⟩);clear hg)
   | (go_at_call 92;refine(Qa lo hi _ ps lim _ (HYR.out _ (by first | exact HT.out | exact HT.out.trans (qc _ _))) (qh0 a7 (by first | exact HT.out.size | exact(HT.out.trans (qc _ none)).size)) HY.out.len).mono ?_;rintro e w5 ⟨rfl,hg⟩;rw[<- HGX.out];replace HT:=qgv (show w3.grownBy w5 none by first | exact HT.out.trans hg | exact(HT.out.trans (qc _ _)).trans hg);replace SC:=qgv (show w5.cell? Y=some (.slice yb ps.length yc)/\w5.cell? ⟨Y,1,none⟩=some (.int .i64 lim) from⟨q8 (bk HT.out HB3.out) rfl,q8 (bk HT.out HB3.out) rfl⟩);clear hg)
   | (go_at_call 96;refine(kB lo hi _ _ ps lim l _ _ (HYR.out _ (by first | exact HT.out | exact HT.out.trans (qc _ _))) (HIR.out _ (by first | exact HT.out | exact HT.out.trans (qc _ _))) (qh0 a7 (by first | exact HT.out.size | exact(HT.out.trans (qc _ none)).size)) HY.out.len HPO.out.ok (by have:=HPO.out.len;omega) (by first | exact HBM.out | exact HBX.out)).mono ?_;rintro e w5 ⟨rfl,hg⟩;replace HT:=qgv (show w3.grownBy w5 none by first | exact HT.out.trans hg | exact(HT.out.trans (qc _ _)).trans hg);replace SC:=qgv (show w5.cell? Y=some (.slice yb ps.length yc)/\w5.cell? ⟨Y,1,none⟩=some (.int .i64 lim) from⟨q8 (bk HT.out HB3.out) rfl,q8 (bk HT.out HB3.out) rfl⟩);clear hg)
   | (go_at_call 95;refine(q30 _ _ _).mono ?_;rintro e w5 ⟨rfl,rfl⟩))
 have HV:=qgv (show q1H ps l=qck (qz ps gm l) (qz ps gx l) by rw[HGM.out,HGX.out];rfl);generalize qck (qz ps gm l) (qz ps gx l)=z at HV ⊢;go_wp2;go_ret2;exact⟨by rw[HV.out];rfl,HG3.out.trans HT.out⟩
def zS(ps:List Par)(g:Nat->Int)(l:List Int):Nat->Int
 | 0=>30
 | k+1=>match ps[(l[k]?.getD 0).toNat]? with | some p=>min (zS ps g l k) (p.bears - loadAt g l k) | none=>zS ps g l k
theorem q0C(lo hi:Nat)(yv pv:qgB)(ps:List Par)(lim:Int)(l:List Int)(g:Nat->Int)(w:qgx)(hY:j5 lo hi w yv ps lim)(hI:qf lo hi w pv l)(hhi:hi<=w.heap.size)(h5:ps.length<=5)(hx:∀x∈l,0<=x/\x<ps.length)(hl:l.length<=1000)(hg:∀i,0<=g i/\g i<=1000)(hb:∀p∈ps,0<=p.bears/\p.bears<=1000) :qhw Ya 94 #[yv,pv,wts g] w λe w'=>e=.returned (.int .i64 (zS ps g l l.length))/\w.grownBy w' none:=by
 obtain⟨qv,rfl,hP⟩:=hY;obtain⟨yb,yc,rfl,e6,-⟩:=hP.cell;obtain⟨base,cap,rfl,g7,-⟩:=hI.cell;obtain⟨A,w1,hA,b7,b0,a8,a6,g5⟩:=zp w (.cells #[.slice yb ps.length yc,lim] 91) (qG g);have d6:=qgv (hI.kept b0);have d9:=qgv (hP.kept b0);have ⟨HX,HGB,HW1,HA,HG1,HB1⟩:=Kh hx hg b7 hA b0 a8;have q0:=q8 a8 (o:=0) rfl;have q1:=q8 a8 (o:=1) rfl;have r0:=ql a6 (show 0<5 by omega);have r1:=ql a6 (show 1<5 by omega);have r2:=ql a6 (show 2<5 by omega);have r3:=ql a6 (show 3<5 by omega);have r4:=ql a6 (show 4<5 by omega);have g8:hi<=A:=by omega
 clear hI hP hx hg b7 hA b0 a8 a6;unfold wts;go_enter Tp.x94,Tryz.ntmps94;go_upto_region 2 with(fail);rw[<- HA.out,show(w.alloc (.cells #[.slice yb ps.length yc,lim] 91)).alloc (.cells #[(g 0),(g 1),(g 2),(g 3),(g 4)] 101)=w1 from HW1.out.symm];go_wp2_with (go_at_call 91;(refine(Qx lo hi _ _ l g _ d6.out (by omega) (by intro x hx;have:=HX.out x hx;omega) hl HGB.out ⟨_,_,rfl⟩).mono ?_);rintro e w2 ⟨lv,rfl,c3,hL2⟩;have a7:=hL2.cell;rw[ko] at a7;obtain⟨lb,lc,rfl,-,a7⟩:=a7;have e4:=qgv a7;clear a7;have HG2:=qgv c3;have k7:=qgv hL2;clear c3 hL2);have d7:=HG2.out.cl q0;have e9:=HG2.out.size;clear r0 r1 r2 r3 r4 q0 q1;have HBE:=qgv hb;clear hb;go_loopw [7,15] (λnv iv wr=>∃k:Nat,iv=.int .i64 k/\k<=l.length/\nv=.int .i64 (zS ps g l k)/\w2.grownBy wr none) (λ_ iv _=>(l.length - qi9 iv).toNat)
 case atStart=>exact⟨0,rfl,by omega,rfl,qh1 _ _⟩
 case round=>
  obtain⟨k,rfl,hk,rfl,hG⟩:=hrel;have HG:=qgv hG;have e5:=hG.cl d7;have e8:=hG.size;by_cases hlt:k<l.length
  ·have d5:=(d6.out.kept HG2.out).kept hG;have c9:=(d9.out.kept HG2.out).kept hG;obtain⟨b1,c1,he,-,hc⟩:=d5.cell;cases he;obtain⟨B,o,rfl,a8,k6,k5,c8⟩:=hc (by intro e;rw[e] at hlt;simp at hlt);have hx:=c8 k hlt;obtain⟨x,a9⟩:∃x,l[k]?=some x:=⟨_,qgG hlt⟩;obtain⟨e7,b6⟩:=HX.out x (qhg a9);rw[a9] at hx;simp only[qgH] at hx;obtain⟨m,rfl⟩:∃m:Nat,x=m:=⟨x.toNat,by omega⟩;obtain⟨b2,c2,he,-,hc⟩:=c9.cell;cases he;obtain⟨YB,yo,rfl,k0,h9,h8,b9⟩:=hc (by intro e;rw[e] at b6;simp at b6;omega);obtain⟨p,hp,p0,p1,p2,p3⟩:=b9 m (by omega);obtain⟨LB,lo',rfl,hL1,hL2,hL3,hL4⟩:=e4.out (by intro e;have:=ko g l;rw[e] at this;simp at this;omega);have b8:=HG.out.cl (hL4 k hlt);rw[Yj g l k hlt] at b8;have hs:zS ps g l (k+1)=min (zS ps g l k) (p.bears - loadAt g l k):=by simp[zS,a9,hp]
   have g9:=HBE.out p (qhg hp);have d8:=q1f g l k HGB.out hl;have g6:(m:Int)<(ps.length:Int):=b6;generalize loadAt g l k=ld at b8 hs d8;generalize zS ps g l k=S0 at hs;obtain⟨M,hM⟩:∃M,min S0 (p.bears - ld)=M:=⟨_,rfl⟩;have hmm:(if p.bears - ld<S0 then p.bears - ld else S0)=M:=by rw[<- hM];omega
   have HS:=qgv (hs.trans hM);clear hG d5 c9 hc c8 b9 hL4 a9 hp hs;go_upto_region 5 with(fail);go_quiet (fail);go_wp2;go_roundw
   case rel=>exact⟨k+1,by simp,by omega,by rw[HS.out],HG.out.trans (qi _ _ _)⟩
   case measure=>simp[qi9];omega
  ·obtain rfl:k=l.length:=by omega
   clear hG;go_wp2;go_ret;exact⟨rfl,(HG1.out.trans HG2.out).trans HG.out⟩
theorem km(la ha lb hb:Nat)(va vb:qgB)(a b:List Int)(w:qgx)(hA:qf la ha w va a)(hB:qf lb hb w vb b) :qhw Ya 31 #[va,vb] w λe w'=>e=.returned (.bool (decide (a=b)))/\w.grownBy w' none:=by
 obtain⟨ba,ca,rfl,b0,h1⟩:=hA.cell;obtain⟨bb,cb,rfl,hl2,h2⟩:=hB.cell;have ⟨H1,H2⟩:=qH h1 h2;clear h1 h2 hA hB;by_cases hlen:a.length=b.length
 ·have HL:=qgv hlen;have a7:((a.length:Int) != (b.length:Int))=false:=by rw[hlen];simp
  clear hlen;go_enter Tp.x31,qp2;go_wp2;go_loopw [5] (λiv wr=>∃k:Nat,iv=.int .i64 k/\k<=a.length/\(∀i,i<k->a[i]?=b[i]?)/\w.grownBy wr none) (λiv _=>(a.length - qi9 iv).toNat)
  case atStart=>exact⟨0,rfl,by omega,λi hi=>absurd hi (by omega),qh1 _ _⟩
  case round=>
   obtain⟨k,rfl,hk,hok,hG⟩:=hrel;have ⟨HOK,HG⟩:=qH hok hG;clear hok;by_cases hlt:k<a.length
   ·have a6:k<b.length:=by have:=HL.out;omega
    obtain⟨A1,o1,rfl,d5,c9,c8,a9⟩:=H1.out (by intro e;rw[e] at hlt;simp at hlt);obtain⟨B1,o2,rfl,c3,b9,b8,a8⟩:=H2.out (by intro e;rw[e] at a6;simp at a6);have x1:=hG.cl (a9 k hlt);have x2:=hG.cl (a8 k a6);have e1:a[k]?=some (a[k]?.getD 0):=by simp[qgG hlt]
    have e2:b[k]?=some (b[k]?.getD 0):=by simp[qgG a6]
    generalize a[k]?.getD 0=x at x1 e1;generalize b[k]?.getD 0=y at x2 e2;have b6:(k:Int)<(b.length:Int):=by omega
    have b7:(k:Int)<(a.length:Int):=by omega
    have ⟨E1,E2⟩:=qH e1 e2;clear a9 a8 hG e1 e2;by_cases hxy:x=y
    ·subst hxy;go_upto_region 6 with(fail);go_quiet (fail);go_wp2;go_roundw
     case rel=>
      refine⟨k+1,by simp,by omega,λi hi=>?_,HG.out.trans (qi _ _ _)⟩;by_cases e:i=k
      ·rw[e,E1.out,E2.out]
      ·exact HOK.out i (by omega)
     case measure=>simp[qi9];omega
    ·have HR:=qgv (show decide (a=b)=false by
      rw[decide_eq_false_iff_not];intro e;have h1:=E1.out;rw[e,E2.out] at h1;exact hxy (by cases h1;rfl))
     have hne:(x != y)=true:=by simp[hxy]
     go_upto_region 6 with(fail);go_quiet (fail);go_wp2;go_ret;exact⟨by rw[HR.out];rfl,HG.out.trans (qi _ _ _)⟩
   ·obtain rfl:k=a.length:=by omega
    have HR:=qgv (show decide (a=b)=true by
     rw[decide_eq_true_eq];refine qls λi=>?_;by_cases hi:i<a.length
     ·exact HOK.out i hi
     ·rw[qi8 (by omega),qi8 (by have:=HL.out;omega)])
    clear hG;go_wp2;go_ret;exact⟨by rw[HR.out];rfl,HG.out⟩
 ·have HR:=qgv (show decide (a=b)=false by
   rw[decide_eq_false_iff_not];intro e;exact hlen (by rw[e]))
  have a7:((a.length:Int) != (b.length:Int))=true:=by simp;omega
  clear hlen;go_enter Tp.x31,qp2;go_wp2;go_ret;exact⟨by rw[HR.out];rfl,qh1 _ _⟩
def qO(w:qgx)(b g:Nat):Prop :=
 ∃(base:Option qi5) (len cap:Nat) (g':Nat) (s:Int),g'<=g/\w.heap[b]?=some (.cells #[.slice base len cap,g',.int .u64 s] 89 (0,0))/\(len:Int)<=9223372036854775807 /\
  (0<len->∃lb lo,base=some ⟨lb,lo,none⟩/\lb<b/\∀i,i<len->∃x,w.cell? ⟨lb,lo+i,none⟩=some (.int .i64 x))
theorem qO.mono{w:qgx}{b g g':Nat}(h:qO w b g)(hg:g<=g'):qO w b g':=by
 obtain⟨base,len,cap,k,s,hk,r⟩:=h;exact⟨base,len,cap,k,s,by omega,r⟩
theorem q3b{w:qgx}{b g:Nat}{base:Option qi5}{len cap:Nat}{s s':Int}{z:qgB}(hb:w.heap[b]?=some (.cells #[.slice base len cap,g,.int .u64 s] 89 (0,0)))(hl:(len:Int)<=9223372036854775807)(hr:0<len->∃lb lo,base=some ⟨lb,lo,none⟩/\lb<b/\∀i,i<len->∃x,w.cell? ⟨lb,lo+i,none⟩=some (.int .i64 x))(nq:Nat) :w.grownBy ((((w.drewN nq).setCell ⟨b,1,none⟩ (.int .i64 (g+1))).setCell ⟨b,2,none⟩ z).setCell ⟨b,2,none⟩ (.int .u64 s')).drew (some b) /\qO ((((w.drewN nq).setCell ⟨b,1,none⟩ (.int .i64 (g+1))).setCell ⟨b,2,none⟩ z).setCell ⟨b,2,none⟩ (.int .u64 s')).drew b (g+1) /\((((w.drewN nq).setCell ⟨b,1,none⟩ (.int .i64 (g+1))).setCell ⟨b,2,none⟩ z).setCell ⟨b,2,none⟩ (.int .u64 s')).drew.heap.size=w.heap.size:=by
 refine⟨((((qi w nq _).trans (qe _ b 1 _)).trans (qe _ b 2 _)).trans (qe _ b 2 _)).trans (qc _ _),?_,by simp[qjc,World.drewN,World.drew]⟩;have h1:(w.drewN nq).heap[b]?=some (.cells #[.slice base len cap,g,.int .u64 s] 89 (0,0)):=hb;have h2:=qg (o:=2) (v:=.int .u64 s') (qg (o:=2) (v:=z) (qg (o:=1) (v:=.int .i64 (g+1)) h1));refine⟨base,len,cap,g+1,s',qgA _,by simpa[World.drew] using h2,hl,λhp=>?_⟩;obtain⟨lb,lo,e1,e2,e4⟩:=hr hp;refine⟨lb,lo,e1,e2,λi hi=>?_⟩;obtain⟨x,hx⟩:=e4 i hi;refine⟨x,?_⟩;have hne:∀o,(⟨b,o,none⟩:qi5)≠⟨lb,lo+i,none⟩:=λo e=>by cases e;omega
 show qhs ((((w.drewN nq).setCell ⟨b,1,none⟩ (.int .i64 (g+1))).setCell ⟨b,2,none⟩ z).setCell ⟨b,2,none⟩ (.int .u64 s')) _=_;rw[qiD _ _ _ _ (hne _),qiD _ _ _ _ (hne _),qiD _ _ _ _ (hne _)];exact hx
theorem qO.lt{w:qgx}{b g:Nat}(h:qO w b g):b<w.heap.size:=by
 obtain⟨_,_,_,_,_,_,hb,_⟩:=h;exact(qgy.1 hb).1
theorem qO.kept{w w':qgx}{b g:Nat}{row:Option Nat}(h:qO w b g)(hg:w.grownBy w' row)(hr:∀B,row=some B->b<B:=by simp):qO w' b g:=by
 have hlt:=h.lt;have hne:some b≠row:=λe=>by have:=hr b e.symm;omega
 obtain⟨base,len,cap,g',s,hk,hb,hl,hr'⟩:=h;refine⟨base,len,cap,g',s,hk,(hg.block b hlt hne).trans hb,hl,λhp=>?_⟩;obtain⟨lb,lo,e1,e2,e4⟩:=hr' hp;exact⟨lb,lo,e1,e2,λi hi=>(e4 i hi).imp λx hx=>hg.cell hx (λe=>by have:=hr lb e.symm;omega)⟩
theorem qO.alloc{w:qgx}{b g:Nat}(h:qO w b g)(o:Obj):qO (w.alloc o) b g:=h.kept (qgw w o none)
theorem qO.set{w:qgx}{b g X o:Nat}{v:qgB}(h:qO w b g)(hX:b<X):qO (w.setCell ⟨X,o,none⟩ v) b g:=h.kept (qe w X o v) (by rintro B e;cases e;exact hX)
theorem qen{w w':qgx}{b B e size n:Nat}{v:qgB}{xs:List qgB}(hg:w.grownBy w' (some b))(h:w.ownsRow B e size v n xs)(hb:b<B):w'.ownsRow B e size v n xs :=
 h.kept hg (by
  by_cases e:v.ownBlock=some b
  ·have:=(h.lt b e).1;omega
  ·exact .inr e)
theorem q66{w w1 w2:qgx}{b:Nat}{row:Option Nat}(h:w.grownBy w1 (some b))(k:w1.grownBy w2 row)(hr:∀j,row=some j->w.heap.size<=j):w.grownBy w2 (some b) :=
 h.andThen k λj e=>.inl (hr j e)
def Tn(b g:Nat)(w w':qgx):Prop:=w.grownBy w' (some b)/\qO w' b g
def QY(k:IntKind)(b g:Nat)(w:qgx)(p:Int->Prop)(e:Ending)(w':qgx):Prop:=∃r,p r/\e=.returned (.int k r)/\Tn b g w w'/\w'.heap.size=w.heap.size
theorem qcj(x:Int):0<=IntKind.u64.wrap x/\IntKind.u64.wrap x<18446744073709551616:=by
 have h:IntKind.u64.bits=64:=rfl;have hs:IntKind.u64.signed=false:=rfl;simp only[IntKind.wrap,h,hs];constructor
 ·simp;omega
 ·simp;omega
theorem qdC(op:BinOp)(x y:Int):0<=bits op .u64 x y/\bits op .u64 x y<18446744073709551616:=by
 unfold bits;exact qcj _
theorem qfp(x y:Int):0<=bits .xor .u64 x y / 512/\bits .xor .u64 x y / 512<36028797018963968:=by
 have:=qdC .xor x y;omega
theorem q9y(b:Nat)(lb lo:Nat)(len cap:Nat)(g:Nat)(s x:Int)(w:qgx)(hg:g<4611686018427387904)(hb:w.heap[b]?=some (.cells #[.slice (some ⟨lb,lo,none⟩) len cap,g,.int .u64 s] 89 (0,0)))(hl:(len:Int)<=9223372036854775807)(hlt:g<len)(hr:0<len->∃lb' lo',(some ⟨lb,lo,none⟩:Option qi5)=some ⟨lb',lo',none⟩/\lb'<b/\∀i,i<len->∃x,w.cell? ⟨lb',lo'+i,none⟩=some (.int .i64 x))(cx:w.cell? ⟨lb,lo+g,none⟩=some (.int .i64 x)) :qhw Ya 125 #[.pointer (some b)] w (QY .u64 b (g+1) w λu=>0<=u/\u<36028797018963968):=by
 have c0:w.cell? b=some (.slice (some ⟨lb,lo,none⟩) len cap):=by simp[qhs,hb]
 have c1:w.cell? ⟨b,1,none⟩=some (.int .i64 g):=by simp[qhs,hb]
 have c2:w.cell? ⟨b,2,none⟩=some (.int .u64 s):=by simp[qhs,hb]
 have f1:w.frozen? ⟨b,1,none⟩=false:=by simp[qkr,hb]
 have f2:w.frozen? ⟨b,2,none⟩=false:=by simp[qkr,hb]
 have a6:(g:Int)<(len:Int):=by omega
 have hs:∀(nq:Nat) (u v z:qgB),((((w.drewN nq).setCell ⟨b,1,none⟩ u).setCell ⟨b,2,none⟩ v).setCell ⟨b,2,none⟩ z).cell? ⟨b,2,none⟩=some z:=by
  intro nq u v z;refine qlx _ _ _ (u:=v) ?_;refine qlx _ _ _ (u:=.int .u64 s) ?_;rw[qiD _ _ _ _ (by simp)];simpa using c2
 have HP:=λnq z s'=>q3b (z:=z) (s':=s') hb hl hr nq;have ⟨HB,HL,HR⟩:=z8 HP hb hr;clear HP hb hr;go_enter Tp.x125,Tryz.ntmps125;go_wp2;go_quiet (fail);go_wp2;go_quiet (fail);go_wp2;go_region;all_goals go_wp2
 all_goals go_ret
 all_goals exact⟨_,qfp _ _,rfl,⟨(HB.out _ _ _).1,(HB.out _ _ _).2.1⟩,(HB.out _ _ _).2.2⟩
theorem q9z(b:Nat)(base:Option qi5)(len cap:Nat)(g:Nat)(s:Int)(w:qgx)(hg:g<4611686018427387904)(hb:w.heap[b]?=some (.cells #[.slice base len cap,g,.int .u64 s] 89 (0,0)))(hl:(len:Int)<=9223372036854775807)(hlt:¬ g<len)(hr:0<len->∃lb' lo',base=some ⟨lb',lo',none⟩/\lb'<b/\∀i,i<len->∃x,w.cell? ⟨lb',lo'+i,none⟩=some (.int .i64 x)) :qhw Ya 125 #[.pointer (some b)] w (QY .u64 b (g+1) w λu=>0<=u/\u<36028797018963968):=by
 have c0:w.cell? b=some (.slice base len cap):=by simp[qhs,hb]
 have c1:w.cell? ⟨b,1,none⟩=some (.int .i64 g):=by simp[qhs,hb]
 have c2:w.cell? ⟨b,2,none⟩=some (.int .u64 s):=by simp[qhs,hb]
 have f1:w.frozen? ⟨b,1,none⟩=false:=by simp[qkr,hb]
 have f2:w.frozen? ⟨b,2,none⟩=false:=by simp[qkr,hb]
 have a6:(len:Int)<=(g:Int):=by omega
 have hs:∀(nq:Nat) (u v z:qgB),((((w.drewN nq).setCell ⟨b,1,none⟩ u).setCell ⟨b,2,none⟩ v).setCell ⟨b,2,none⟩ z).cell? ⟨b,2,none⟩=some z:=by
  intro nq u v z;refine qlx _ _ _ (u:=v) ?_;refine qlx _ _ _ (u:=.int .u64 s) ?_;rw[qiD _ _ _ _ (by simp)];simpa using c2
 have HP:=λnq z s'=>q3b (z:=z) (s':=s') hb hl hr nq;have ⟨HB,HL,HR⟩:=z8 HP hb hr;clear HP hb hr;go_enter Tp.x125,Tryz.ntmps125;go_wp2;go_quiet (fail);go_wp2;go_region;all_goals go_wp2
 all_goals go_ret
 all_goals exact⟨_,qfp _ _,rfl,⟨(HB.out _ _ _).1,(HB.out _ _ _).2.1⟩,(HB.out _ _ _).2.2⟩
theorem q0n(b g:Nat)(w:qgx)(ht:qO w b g)(hg:g<4611686018427387904) :qhw Ya 125 #[.pointer (some b)] w (QY .u64 b (g+1) w λu=>0<=u/\u<36028797018963968):=by
 obtain⟨base,len,cap,g',s,hk,hb,hl,hr⟩:=ht;have fin:∀e w',QY .u64 b (g'+1) w (λu=>0<=u/\u<36028797018963968) e w'->QY .u64 b (g+1) w (λu=>0<=u/\u<36028797018963968) e w':=by
  rintro e w' ⟨r,h1,h2,h3,h4⟩;exact⟨r,h1,h2,⟨h3.1,h3.2.mono (by omega)⟩,h4⟩
 by_cases hlt:g'<len
 ·obtain⟨lb,lo,rfl,e2,e4⟩:=hr (by omega);obtain⟨x,hx⟩:=e4 g' hlt;exact(q9y b lb lo len cap g' s x w (by omega) hb hl hlt hr hx).mono fin
 ·exact(q9z b base len cap g' s w (by omega) hb hl hlt hr).mono fin
def q9f(b:Nat)(w:qgx)(v:qgB)(l:List Int):Prop :=
 ∃base cap,v=.slice base l.length cap/\(l.length:Int)<=9223372036854775807/\(l≠[]->∃B o,base=some ⟨B,o,none⟩/\B≠b/\B<w.heap.size/\∀i,i<l.length->w.cell? ⟨B,o+i,none⟩=some (.int .i64 (l[i]?.getD 0)))
theorem q9f.laid{b:Nat}(w:qgx)(l:List Int)(n:Nat)(hn:n=l.length)(hb:b<w.heap.size)(hl:l.length<=1000)(fr:Nat × Nat:=(0,0)) :q9f b (w.alloc (.cells (l.map (qhj .i64)).toArray 3 fr)) (.slice (some w.heap.size) n n) l:=by
 subst hn;refine⟨_,_,rfl,by omega,λ_=>⟨w.heap.size,0,rfl,by omega,by simp,λi hi=>?_⟩⟩;have:=qgF w (.cells (l.map (qhj .i64)).toArray 3 fr);unfold qhs;rw[this];simp[qgG hi]
theorem qcH{u n:Int}(_:0<=u)(hn:0<=n):0<=u % (n+1)/\u % (n+1)<=n:=by
 have h1:=Int.emod_nonneg u (show n+1≠0 by omega);have h2:=Int.emod_lt_of_pos u (show 0<n+1 by omega);omega
theorem q9p(b g:Nat)(n:Int)(w:qgx)(ht:qO w b g)(hg:g<4611686018427387904)(hn:n<1) :qhw Ya 68 #[.pointer (some b),n] w (QY .i64 b (g+1) w λr=>r=0):=by
 have HT:=qgv ht;clear ht;go_enter Tp.x68,Tryz.ntmps68;go_wp2_with (go_at_call 125;refine(q0n b g _ HT.out hg).mono ?_;rintro e w' ⟨u,⟨a9,a8⟩,rfl,HN,HS⟩;have a7:=qgv HN;have a6:=qgv HS;clear HN HS);go_ret;exact⟨0,rfl,rfl,a7.out,a6.out⟩
theorem q9q(b g:Nat)(n:Int)(w:qgx)(ht:qO w b g)(hg:g<4611686018427387904)(hn:1<=n)(hm:n<=1000000000) :qhw Ya 68 #[.pointer (some b),n] w (QY .i64 b (g+1) w λr=>0<=r/\r<=n):=by
 have HT:=qgv ht;clear ht;go_enter Tp.x68,Tryz.ntmps68;go_wp2_with (go_at_call 125;refine(q0n b g _ HT.out hg).mono ?_;rintro e w' ⟨u,⟨a6,a9⟩,rfl,HN,HS⟩;have a8:=qgv HN;have a7:=qgv HS;clear HN HS);go_ret;have hf:=qcH a6 (show 0<=n by omega);refine⟨_,?_,rfl,a8.out,a7.out⟩;rw[IntWalk.wrap64_in (u % (n+1)) ⟨by omega,by omega⟩];exact hf
theorem kr(b g:Nat)(n:Int)(w:qgx)(ht:qO w b g)(hg:g<4611686018427387904)(hm:n<=1000000000) :qhw Ya 68 #[.pointer (some b),n] w (QY .i64 b (g+1) w λr=>0<=r/\(r<=n\/r=0)):=by
 by_cases hn:n<1
 ·refine(q9p b g n w ht hg hn).mono ?_;rintro e w' ⟨r,h1,h2⟩;exact⟨r,by omega,h2⟩
 ·refine(q9q b g n w ht hg (by omega) hm).mono ?_;rintro e w' ⟨r,h1,h2⟩;exact⟨r,by omega,h2⟩
theorem xP(b g:Nat)(lo hi:Int)(w:qgx)(ht:qO w b g)(hg:g<4611686018427387904)(h1:-1000000000<=lo)(h2:lo<=400000000)(h3:-400000000<=hi)(h4:hi<=400000000)(h5:hi - lo<=1000000000) :qhw Ya 70 #[.pointer (some b),lo,hi] w (QY .i64 b (g+1) w λr=>lo<=r/\(r<=hi\/r=lo)):=by
 have HT:=qgv ht;clear ht;go_enter Tp.x70,Tryz.ntmps70;go_wp2_with (go_at_call 68;refine(kr b g _ _ HT.out hg (by omega)).mono ?_;rintro e w' ⟨u,⟨b0,a9⟩,rfl,HN,HS⟩;have a7:=qgv HN;have a6:=qgv HS;clear HN HS;have a8:u<=1400000000:=by omega);go_ret;refine⟨_,?_,rfl,a7.out,a6.out⟩;omega
theorem xS(b g:Nat)(v:qgB)(l:List Int)(w:qgx)(ht:qO w b g)(hg:g<4611686018427387904)(hl:q9f b w v l)(hne:0<l.length)(hm:l.length<=1000) :qhw Ya 90 #[.pointer (some b),v] w (QY .i64 b (g+1) w λr=>r∈l):=by
 obtain⟨base,cap,rfl,b0,hr⟩:=hl;obtain⟨B,o,rfl,e2,e3,e4⟩:=hr (by intro e;rw[e] at hne;simp at hne);have ⟨HT,E4⟩:=qH ht e4;clear ht e4 hr;go_enter Tp.x90,Tryz.ntmps90;go_wp2_with (go_at_call 68;refine(kr b g _ _ HT.out hg (by omega)).mono ?_;rintro e w' ⟨u,⟨a7,a9⟩,rfl,HN,HS⟩;have a6:=qgv HN;have a8:=qgv HS;clear HN HS;obtain⟨k,rfl⟩:=Int.eq_ofNat_of_zero_le a7;(have hk:k<l.length:=by omega);(have b6:(k:Int)<(l.length:Int):=by omega);(have hc:w'.cell? ⟨B,o+k,none⟩=some (.int .i64 (l[k]?.getD 0)):=a6.out.1.cell (E4.out k hk) (λe=>e2 (by cases e;rfl))));go_ret;refine⟨_,?_,rfl,a6.out,a8.out⟩;simp[qgG hk]
theorem q35(b g:Nat)(n:Int)(w:qgx)(ht:qO w b g)(hg:g<4611686018427387904)(h1:1<=n)(h2:n<=1000) :qhw Ya 69 #[.pointer (some b),n] w λe w'=>(∃t:Bool,e=.returned (.bool t))/\Tn b (g+1) w w'/\w'.heap.size=w.heap.size:=by
 have HT:=qgv ht;clear ht;go_enter Tp.x69,Tryz.ntmps69;go_wp2_with (go_at_call 68;refine(kr b g _ _ HT.out hg (by omega)).mono ?_;rintro e w' ⟨u,⟨a9,a8⟩,rfl,HN,HS⟩;have a7:=qgv HN;have a6:=qgv HS;clear HN HS);go_ret;exact⟨⟨_,rfl⟩,a7.out,a6.out⟩
theorem q5E(base:Option qi5)(len cap:Nat)(w:qgx)(hl:(len:Int)<=9223372036854775807)(hr:0<len->∃lb lo,base=some ⟨lb,lo,none⟩/\∀i,i<len->∃x,w.cell? ⟨lb,lo+i,none⟩=some (.int .i64 x)) :qhw Ya 24 #[.slice base len cap] w λe w'=>e=.returned (.pointer (some w.heap.size))/\w.grownBy w' none/\qO w' w.heap.size 0:=by
 have HR:=qgv hr;clear hr;go_enter Tp.x24,Tryz.ntmps24;go_wp2;go_ret;refine⟨rfl,qgw _ _ _,base,len,cap,0,7640891576956012809,qgA _,qgF _ _,hl,λhp=>?_⟩;obtain⟨lb,lo,e,h⟩:=HR.out hp;obtain⟨x0,a6⟩:=h 0 hp;have hlt:lb<w.heap.size:=block_lt_of_cell a6;refine⟨lb,lo,e,hlt,λi hi=>?_⟩;obtain⟨x,hx⟩:=h i hi;exact⟨x,(qgw w _ none).cl hx⟩
structure q4H(p:Par):Prop where
 a:1<=p.mn
 b:p.mn<=8
 c:p.mn<=p.mx
 d:p.mx<=p.mn+2
 e:0<=p.bears
 f:p.bears<=30
 g:1<=p.tall
 h:p.tall<=2
def qfC(p:Par):qgB:=.agg #[p.mn,p.mx,p.bears,p.tall]
theorem q1E{w w1 w2:qgx}{b g:Nat}(h:w.grownBy w1 (some b))(k:Tn b g w1 w2):w.grownBy w2 (some b):=h.trans k.1
theorem q29(b g:Nat)(w:qgx)(ht:qO w b g)(hg:g<1000000):qhw Ya 62 #[.pointer (some b)] w λe w'=>∃p,q4H p/\e=.returned (qfC p)/\Tn b (g+7) w w':=by
 obtain⟨Z,hZ⟩:∃Z,Z=w.heap.size:=⟨_,rfl⟩;have b8:b<Z:=by rw[hZ];exact ht.lt
 obtain⟨w1,a8⟩:∃w1,w1=w.alloc (.cells #[.int .i64 0,.int .i64 0,.int .i64 0,.int .i64 0] 28):=⟨_,rfl⟩;have hR:w1.heap[Z]?=some (.cells #[.int .i64 0,.int .i64 0,.int .i64 0,.int .i64 0] 28 (0,0)):=by rw[a8,hZ];exact qgF w _
 have hG:w.grownBy w1 (some b):=by rw[a8];exact qgw _ _ _
 have HT:=qgv (show qO w1 b g by rw[a8];exact ht.alloc _);have ⟨HZ,HW1,HR,HG⟩:=zY hZ a8 hR hG;clear hZ a8 hR hG ht;go_enter Tp.x62,Tryz.ntmps62;go_upto_region 1 with(fail);rw[<- HZ.out,<- HW1.out];go_upto_region 2 with(go_at_call 70;refine(xP b g 1 8 _ HT.out (by omega) (by omega) (by omega) (by omega) (by omega) (by omega)).mono ?_;rintro e w2 ⟨lo,hlo,rfl,hn,-⟩;replace HR:=qgv (blk hn.1 (by simp;omega) HR.out);replace HG:=qgv (q1E HG.out hn);replace HT:=qgv hn.2;clear hn);have a7:Z≠b:=by omega
 go_wp2_with (fail);refine(xS b (g+1) _ [0,0,1,2] _ (HT.out.alloc _) (by omega) (q9f.laid _ [0,0,1,2] 4 rfl HT.out.lt (by decide)) (by decide) (by decide)).mono ?_;rintro e w3 ⟨k,hk,rfl,hn,-⟩;simp only[qix,qiF,or_false] at hk;have a6:=qgw w2 (.cells #[.int .i64 0,.int .i64 0,.int .i64 1,.int .i64 2] 3) (some b);replace HR:=qgv (blk hn.1 (by simpa using a7) (blk a6 (by simpa using a7) HR.out));replace HG:=qgv ((HG.out.trans a6).trans hn.1);replace HT:=qgv hn.2;clear hn a6;have c9:0<=k/\k<=2:=by omega
 clear hk;go_wp2_with (go_at_call 68;refine(kr b _ _ _ HT.out (by omega) (by omega)).mono ?_;rintro e w4 ⟨u,hu,rfl,hn,-⟩;replace HR:=qgv (blk hn.1 (by simpa using a7) HR.out);replace HG:=qgv (q1E HG.out hn);replace HT:=qgv hn.2;clear hn)
 rename_i u1 b7 wx u2 b6 wy wz
 refine(xS b (g+1+1+1+1+1) _ [0,u1,u2,u] _ (HT.out.alloc _) (by omega) (q9f.laid _ [0,u1,u2,u] 4 rfl HT.out.lt (by simp)) (by simp) (by simp)).mono ?_;rintro e w7 ⟨r,hr,rfl,hn,-⟩;simp only[qix,qiF,or_false] at hr;have a6:=qgw w4 (.cells #[.int .i64 0,u1,u2,u] 3) (some b);replace HR:=qgv (blk hn.1 (by simpa using a7) (blk a6 (by simpa using a7) HR.out));replace HG:=qgv ((HG.out.trans a6).trans hn.1);replace HT:=qgv hn.2;clear hn a6;have c8:0<=r/\r<=30:=by omega
 clear hr hu b7 b6;have f:=λ(w9:qgx) (h:w9.heap[Z]?=some (.cells #[.int .i64 0,.int .i64 0,.int .i64 0,.int .i64 0] 28 (0,0))) (o:Nat)=>qm (o:=o) h;have F:=qgv f;clear f;go_wp2_with (go_at_call 70;refine(xP b _ 1 2 _ HT.out (by omega) (by omega) (by omega) (by omega) (by omega) (by omega)).mono ?_;rintro e w8 ⟨ta,c3,rfl,hn,-⟩;replace HR:=qgv (blk hn.1 (by simpa using a7) HR.out);replace HG:=qgv (q1E HG.out hn);replace HT:=qgv hn.2;clear hn;have z0:=q8 (o:=0) HR.out rfl;have z1:=q8 (o:=1) HR.out rfl;have z2:=q8 (o:=2) HR.out rfl;have z3:=q8 (o:=3) HR.out rfl;have t0:=qm (o:=0) HR.out;have t1:=qm (o:=1) HR.out;have t2:=qm (o:=2) HR.out;have t3:=qm (o:=3) HR.out);obtain⟨W,a9⟩:∃W,W=(((w8.setCell Z (.int .i64 lo)).setCell ⟨Z,1,none⟩ (.int .i64 (lo+k))).setCell ⟨Z,2,none⟩ (.int .i64 r)).setCell ⟨Z,3,none⟩ (.int .i64 ta):=⟨_,rfl⟩;have b9:W.heap[Z]?=some (.cells #[lo,.int .i64 (lo+k),r,ta] 28 (0,0)):=by rw[a9,qg (qg (qg (qg HR.out)))];rfl
 have b0:w8.grownBy W (some Z):=by rw[a9];exact(((qe _ _ _ _).trans (qe _ _ _ _)).trans (qe _ _ _ _)).trans (qe _ _ _ _)
 rw[<- a9];exact qj8 (v:=.agg #[lo,.int .i64 (lo+k),r,ta]) (by simp[qjb,Tryz.results62,go_sem,qhs,b9]) rfl ⟨⟨lo,lo+k,r,ta⟩,⟨by dsimp only;omega,by dsimp only;omega,by dsimp only;omega,by dsimp only;omega,by dsimp only;omega,by dsimp only;omega,by dsimp only;omega,by dsimp only;omega⟩,rfl,q66 HG.out b0 (by rintro j e;cases e;have:=HZ.out;omega),HT.out.kept b0 (by rintro B e;cases e;exact b8)⟩
end
end Go.Proofs.YtidgnkmjgioapaaGreat
section
namespace Go
theorem QC(z:Array qgB):z=((qht z.size).map λj=>z[j]?.getD qgD).toArray:=by
 apply Array.ext
 ·simp
 ·intro i h1 h2;simp[h1]
end Go
namespace Go.Co
open Go
def zj(w:qgx)(B:Nat):Prop:=∃cs e f,w.heap[B]?=some (.cells cs e f)/\∀(i:Nat) v,cs[i]?=some v->∃k m,v=qhj k m
def zi(xs:List qgB):Prop:=∀v∈xs,∃k m,v=qhj k m
theorem zi.app{xs ys:List qgB}(h:zi xs)(h':zi ys):zi (xs++ys):=λv hv=>(qjv.1 hv).elim (h v) (h' v)
theorem q2G{z:Array qgB}(hz:zi z.toList)(hp:0<z.size)(n:Nat):zi (qjf z n).toList:=by
 intro v hv;simp only[qjf,Array.toList_map,ql7] at hv;obtain⟨i,_,rfl⟩:=hv;have hlt:i % z.size<z.size:=Nat.mod_lt _ hp;rw[getElem!_pos z _ hlt];exact hz _ (Array.getElem_mem_toList hlt)
theorem ZR{w:qgx}{B:Nat}{xs:Array qgB}{e:qh8}{f:Nat × Nat}(h:w.heap[B]?=some (.cells xs e f))(hx:zi xs.toList):zj w B:=⟨xs,e,f,h,λi v hv=>hx v (qjm.2 (qiE hv))⟩
theorem zj.all{w:qgx}{B:Nat}{xs:Array qgB}{e:qh8}{f:Nat × Nat}(h:zj w B)(hx:w.heap[B]?=some (.cells xs e f)):zi xs.toList:=by
 obtain⟨cs,e',f',h1,h2⟩:=h;rw[hx] at h1;cases h1;intro v hv;obtain⟨i,hi⟩:=List.mem_iff_getElem?.1 hv;exact h2 i v (by simpa using hi)
theorem JV{P:qh2}(w:qgx)(t ty:qh8)(base:Nat)(e:qh8)(i:ql2)(z:qgB)(size qng:Nat)(ht:P.underlying t=some (.slice e))(hi:P.info? e=some i)(hz:i.zero=some z)(hsize:i.size=size)(hby:i.bytes=qng)(hzs:z.cells.size=size)(hsz:0<size)(v:qgB)(n:Nat)(xs:List qgB)(hown:w.ownsRow base e size v n xs)(ad:qi5)(m c:Nat)(news:List qgB)(hl:news.length=m*size)(hnews:∀j u,news[j]?=some u->w.cell? (ad.add j)=some u)(h1:∀u∈news,u.oneCell'=true)(hm:0<m)(h63:n+m<=qkq)(hbytes:(n+m)*qng<=140737488355328)(hbase:base<=w.heap.size)(H:Nat)(hH:w.heap.size=H)(hI:∀g,v.ownBlock=some g->zj w g)(hni:zi news)(hzi:zi z.cells.toList) :∃g cap w',(qku #[t,t] ty #[v,.slice (some ad) m c]).run P w=.ok (.slice (some ⟨g,0,none⟩) (n+m) cap) w' /\w'.ownsRow base e size (.slice (some ⟨g,0,none⟩) (n+m) cap) (n+m) (xs++news)/\w.grownBy w' v.ownBlock/\(v.ownBlock=some g\/g=H)/\g<w'.heap.size/\zj w' g:=by
 obtain⟨g,cap,w',hr,h2,h3,h4,h5⟩:=run_append_lies (P:=P) w t ty base e i z size qng ht hi hz hsize hby hzs hsz v n xs hown ad m c news hl hnews h1 hm h63 hbytes hbase H hH;refine⟨g,cap,w',hr,h2,h3,h4,h5,?_⟩;subst hsize;subst hby
 have b0:n+m<=9223372036854775807:=by simp only[qkq] at h63;omega
 have a8:=λk=>q2G (z:=z.cells) hzi (by rw[hzs];exact hsz) k;rcases hown.2 with⟨rfl,rfl⟩ | ⟨g0,cap0,cur,rfl,hbg,hg,hnc,hcm,hcs,htake⟩
 ·have hr':=run_append_nil (P:=P) w t ty e i z ht hi hz ad m c news hl hnews hm (by omega) (by have hb:=hbytes;simp only[qhf] at hb;omega);have he:=hr.symm.trans hr';simp only[Result.ok.injEq,Value.slice.injEq,qhH,Addr.mk.injEq] at he;obtain⟨⟨⟨rfl,_⟩,_⟩,rfl⟩:=he;exact ZR (qgF w.drew _) (by simpa using hni.app (a8 _))
 ·by_cases a6:n+m<=cap0
  ·have a9:n*i.size+news.length<=cur.size:=by rw[hl,hcs,<- qnG];exact Nat.mul_le_mul_right _ a6
   have hr':=run_append_room (P:=P) w t ty e i ht hi g0 n cap0 cur hg ad m c news hl hnews h1 a6 a9;have he:=hr.symm.trans hr';simp only[Result.ok.injEq,Value.slice.injEq,qhH,Addr.mk.injEq] at he;obtain⟨⟨⟨rfl,_⟩,_⟩,rfl⟩:=he;have hc:=(hI g rfl).all hg;refine ZR (setRow_heap w g cur _ e _ hg) ?_;exact((zi.app (λv hv=>hc v (qlr hv)) hni).app λv hv=>hc v (List.mem_of_mem_drop hv))
  ·have a7:∀j u,xs[j]?=some u->w.cell? ((⟨g0,0,none⟩:qi5).add j)=some u:=hown.cells (g:=g0) rfl;have hr':=run_append_grow (P:=P) w t ty e i z ht hi hz ⟨g0,0,none⟩ n cap0 xs hown.1 a7 ad m c news hl hnews (by omega) (by omega) (growslice_fits (by omega) hbytes);have he:=hr.symm.trans hr';simp only[Result.ok.injEq,Value.slice.injEq,qhH,Addr.mk.injEq] at he;obtain⟨⟨⟨rfl,_⟩,_⟩,rfl⟩:=he;have hc:=(hI g0 rfl).all hg;refine ZR (qgF w.drew _) ?_;have hx:zi xs:=λv hv=>hc v (by rw[<- htake] at hv;exact qlr hv);simpa using(hx.app hni).app (a8 _)
theorem xM{P:qh2}{w:qgx}{o:qiu}{a:Act}{K:Act->qgx->Prop}{Q:Exit->Act->qgx->Prop}(s x:qhE)(t:qh8)(ho:o.op=.call { callee:=.builtin .append,args:=#[s,x],argTypes:=#[t,t] })(base:Nat)(e:qh8)(i:ql2)(z:qgB)(size qng:Nat)(ht:P.underlying t=some (.slice e))(hi:P.info? e=some i)(hz:i.zero=some z)(hsize:i.size=size)(hby:i.bytes=qng)(hzs:z.cells.size=size)(hsz:0<size)(v:qgB)(n:Nat)(xs:List qgB)(hs:a.eval s=v)(hown:w.ownsRow base e size v n xs)(ad:qi5)(m c:Nat)(news:List qgB)(hx:a.eval x=.slice (some ad) m c)(hl:news.length=m*size)(hnews:∀j u,news[j]?=some u->w.cell? (ad.add j)=some u)(h1:∀u∈news,u.oneCell'=true)(hm:0<m)(h63:n+m<=qkq)(hbytes:(n+m)*qng<=140737488355328)(hbase:base<=w.heap.size)(H:Nat)(hH:w.heap.size=H)(hI:∀g,v.ownBlock=some g->zj w g)(hni:zi news)(hzi:zi z.cells.toList)(h:∀g cap w',w'.ownsRow base e size (.slice (some ⟨g,0,none⟩) (n+m) cap) (n+m) (xs++news)->w.grownBy w' v.ownBlock->(v.ownBlock=some g\/g=H)->g<w'.heap.size->zj w' g->K (a.put o.dst (.slice (some ⟨g,0,none⟩) (n+m) cap)) w'):o.wp P a w K Q:=by
 obtain⟨g,cap,w',hr,h2,h3,h4,h5,h6⟩:=JV (P:=P) w t o.type base e i z size qng ht hi hz hsize hby hzs hsz v n xs hown ad m c news hl hnews h1 hm h63 hbytes hbase H hH hI hni hzi;unfold Oper.wp qk3;simp only[ho,resolve,invoke,builtin,qiy,qms,qiv,qmu,qla,qnh,hs,hx,hr];exact h g cap w' h2 h3 h4 h5 h6
theorem zj.kept{w w':qgx}{j:Nat}{r:Option Nat}(h:zj w j)(hg:w.grownBy w' r)(hr:some j≠r:=by simp):zj w' j:=by
 obtain⟨cs,e,f,h1,h2⟩:=h;exact⟨cs,e,f,(hg.block j (qgy.1 h1).1 hr).trans h1,h2⟩
theorem vC{P:qh2}{w:qgx}{ops:Array qiu}{o:qiu}{a:Act}{K:Act->qgx->Prop}{Q:Exit->Act->qgx->Prop}{E:Prop}(a6:o.guard=none)(s x:qhE)(t:qh8)(ho:o.op=.call { callee:=.builtin .append,args:=#[s,x],argTypes:=#[t,t] })(base:Nat)(e:qh8)(i:ql2)(z:qgB)(size qng:Nat)(ht:P.underlying t=some (.slice e))(hi:P.info? e=some i)(hz:i.zero=some z)(hsize:i.size=size)(hby:i.bytes=qng)(hzs:z.cells.size=size)(hsz:0<size)(v:qgB)(n:Nat)(xs:List qgB)(hs:a.eval s=v)(hown:w.ownsRow base e size v n xs)(ad:qi5)(m c:Nat)(news:List qgB)(hx:a.eval x=.slice (some ad) m c)(hl:news.length=m*size)(hnews:∀j u,news[j]?=some u->w.cell? (ad.add j)=some u)(h1:∀u∈news,u.oneCell'=true)(hm:0<m)(h63:n+m<=qkq)(hbytes:(n+m)*qng<=140737488355328)(hbase:base<=w.heap.size)(H:Nat)(hH:w.heap.size=H)(hI:∀g,v.ownBlock=some g->zj w g)(hni:zi news)(hzi:zi z.cells.toList)(h:∀g cap w',w'.ownsRow base e size (.slice (some ⟨g,0,none⟩) (n+m) cap) (n+m) (xs++news)->w.grownBy w' v.ownBlock->(v.ownBlock=some g\/g=H)->g<w'.heap.size->zj w' g->K (a.put o.dst (.slice (some ⟨g,0,none⟩) (n+m) cap)) w') :if qhv o (qj4 ops a.tmps)=true then Oper.wp P o a w K Q else E:=by
 rw[if_pos (by simp[qhv,a6])];exact xM s x t ho base e i z size qng ht hi hz hsize hby hzs hsz v n xs hs hown ad m c news hx hl hnews h1 hm h63 hbytes hbase H hH hI hni hzi h
theorem Z1{P:qh2}{w:qgx}{ops:Array qiu}{rest:List qiu}{o:qiu}{a:Act}{Q:Exit->Act->qgx->Prop}(a6:o.guard=none)(s x:qhE)(t:qh8)(ho:o.op=.call { callee:=.builtin .append,args:=#[s,x],argTypes:=#[t,t] })(base:Nat)(e:qh8)(i:ql2)(z:qgB)(size qng:Nat)(ht:P.underlying t=some (.slice e))(hi:P.info? e=some i)(hz:i.zero=some z)(hsize:i.size=size)(hby:i.bytes=qng)(hzs:z.cells.size=size)(hsz:0<size)(v:qgB)(n:Nat)(xs:List qgB)(hs:a.eval s=v)(hown:w.ownsRow base e size v n xs)(ad:qi5)(m c:Nat)(news:List qgB)(hx:a.eval x=.slice (some ad) m c)(hl:news.length=m*size)(hnews:∀j u,news[j]?=some u->w.cell? (ad.add j)=some u)(h1:∀u∈news,u.oneCell'=true)(hm:0<m)(h63:n+m<=qkq)(hbytes:(n+m)*qng<=140737488355328)(hbase:base<=w.heap.size)(H:Nat)(hH:w.heap.size=H)(hI:∀g,v.ownBlock=some g->zj w g)(hni:zi news)(hzi:zi z.cells.toList)(h:∀g cap w',w'.ownsRow base e size (.slice (some ⟨g,0,none⟩) (n+m) cap) (n+m) (xs++news)->w.grownBy w' v.ownBlock->(v.ownBlock=some g\/g=H)->g<w'.heap.size->zj w' g->wpList P ops Q rest (a.put o.dst (.slice (some ⟨g,0,none⟩) (n+m) cap)) w'):wpList P ops Q (o::rest) a w :=
 wpList_plain a6 λ_ hK=>xM s x t ho base e i z size qng ht hi hz hsize hby hzs hsz v n xs hs hown ad m c news hx hl hnews h1 hm h63 hbytes hbase H hH hI hni hzi λg cap w' h2 h3 h4 h5 h6=>hK _ _ (h g cap w' h2 h3 h4 h5 h6)
end Go.Co
end
namespace Go.Proofs.YtidgnkmjgioapaaGreat
section
open Go.RowKit Go.Co
theorem Tp.und22:Ya.underlying 22=some (.slice 28):=by rw[Tp.und];exact Tryz.underlying22
theorem Tp.info28p:(Ya.info? 28).map (λi=>(i.zero,i.size,i.bytes))=some (some (.agg #[.int .i64 0,.int .i64 0,.int .i64 0,.int .i64 0]),4,32):=by kernel_rfl
def vf(p:Par):List qgB:=[.int .i64 p.mn,.int .i64 p.mx,.int .i64 p.bears,.int .i64 p.tall]
def yM(ps:List Par):List qgB:=ps.flatMap vf
theorem YP(ps:List Par)(p:Par):yM (ps++[p])=yM ps++vf p:=by simp[yM]
theorem q10(ps:List Par)(i:Nat)(p:Par)(h:ps[i]?=some p)(d:Nat)(hd:d<4):(yM ps)[i*4+d]?=(vf p)[d]?:=by
 induction ps generalizing i with
 | nil=>simp at h
 | cons q t ih=>
  unfold yM;rw[qjr];cases i with
  | zero=>
   simp at h;subst h;rw[qhz (by simp[vf];omega),Nat.zero_mul,qhf]
  | succ i=>
   simp at h;rw[qj3 (by simp[vf];omega)];rw[show(i+1)*4+d - (vf q).length=i*4+d from by simp[vf];omega];exact ih i h
theorem qn.own{lo n:Nat}{w:qgx}{v:qgB}{ps:List Par}(h:w.ownsRow lo 28 4 v n (yM ps))(hn:ps.length=n)(hl:(ps.length:Int)<=1000000):qn lo w.heap.size w v ps:=by
 subst hn;obtain⟨h1,h2⟩:=h;rcases h2 with⟨rfl,h0⟩ | ⟨g,cap,cur,rfl,hb,hg,hc,hm,hs,ht⟩
 ·exact⟨none,0,by rw[h0],hl,λhne=>absurd (qim h0) hne⟩
 ·refine⟨_,cap,rfl,hl,λ_=>⟨g,0,cur,(0,0),rfl,hb,(qgy.1 hg).1,hg,λi hi=>?_⟩⟩;have hp:ps[i]?=some ps[i]:=qgG hi;have key:∀d,d<4->cur[i*4+d]?=(vf ps[i])[d]?:=λd hd=>by
   have h3:(cur.toList.take (ps.length*4))[i*4+d]?=(vf ps[i])[d]?:=by rw[ht];exact q10 ps i _ hp d hd
   rw[qiz (by omega)] at h3;simpa using h3
  have k0:=key 0 (by omega);have k1:=key 1 (by omega);have k2:=key 2 (by omega);have k3:=key 3 (by omega);rw[Nat.add_zero] at k0;refine⟨_,hp,?_,?_,?_,?_⟩;all_goals simp only[qhf]
  ·exact k0
  ·exact k1
  ·exact k2
  ·exact k3
theorem Y1{P:qh2}{c:qje}{Q:Exit->Act->qgx->Prop}{a:Act}{w:qgx}(F:qgx->Prop)(hF:F w)(h:∀u,F u->c.wp P Q a u):c.wp P Q a w:=h w hF
theorem Jl{w:qgx}{k:Nat}{o:Obj}(h:w.heap[k]?=some o):k<w.heap.size:=(qgy.1 h).1
def YR(b g Z X:Nat)(u:Nat)(lim:Int)(w:qgx)(i:qgB)(wr:qgx):Prop :=
 ∃(k:Nat) (fv:qgB) (ps:List Par),i=.int .i64 ((u:Int) - k)/\k<=u/\ps.length=k/\(∀p∈ps,q4H p) /\
  wr.heap[X]?=some (.cells #[fv,lim] 24 (0,0))/\wr.ownsRow (X+1) 28 4 fv k (yM ps)/\qO wr b (g+7*k)/\w.grownBy wr (some b)/\X<wr.heap.size/\wr.heap[Z]?=some (.cells #[.slice none 0 0,.int .i64 0] 24 (0,0))/\∀j,fv.ownBlock=some j->zj wr j
theorem YR.step{b g Z X u k gg cap:Nat}{lim:Int}{w w5:qgx}{ps:List Par}{p:Par}(hk:k<u)(hl:ps.length=k)(hd:∀x∈ps,q4H x)(hp:q4H p){fv:qgB}(hB:w5.heap[X]?=some (.cells #[fv,lim] 24 (0,0)))(hO:w5.ownsRow (X+1) 28 4 (.slice (some gg) (k+1) cap) (k+1) (yM ps++vf p))(hT:qO w5 b (g+7*k+7))(hG:w.grownBy w5 (some b))(hX:w.heap.size<=X)(hb:b<X)(hZ:w5.heap[Z]?=some (.cells #[.slice none 0 0,.int .i64 0] 24 (0,0)))(a6:Z<X)(hI:zj w5 gg) :YR b g Z X u lim w (.int .i64 ((u:Int) - k - 1)) (w5.setCell X (.slice (some gg) (k+1) cap)):=by
 have hn:gg≠X:=by have:=(hO.lt gg rfl).1;omega
 refine⟨k+1,_,ps++[p],by simp;omega,by omega,by simp[hl],?_,by rw[qg hB];rfl,?_,?_,q66 hG (qe _ X 0 _) (by rintro j e;cases e;exact hX),?_,blk (qe _ _ _ _) (by simp;omega) hZ,λj e=>by
  simp[qhB] at e;subst e;exact hI.kept (qe _ X 0 _) (by simpa using hn)⟩
 ·intro x hx;rcases qjv.1 hx with h | h
  ·exact hd x h
  ·rw[qjC.1 h];exact hp
 ·rw[YP];exact hO.kept (qe _ X 0 _) (.inr (by simp[qhB];exact hn))
 ·rw[show g+7*(k+1)=g+7*k+7 by omega];exact hT.set hb
 ·have:=(qgy.1 hB).1;simpa[qjc] using this
structure qcc(n:Nat)(ps:List Par)(lim:Int):Prop where
 len:ps.length<=n
 each:∀p∈ps,q4H p
 l1:2<=lim
 l2:lim<=6\/lim=12
theorem q55(b g n:Nat)(w:qgx)(ht:qO w b g)(hg:g<100000)(hn:n<=1000):qhw Ya 33 #[.pointer (some b),n] w λe w'=>∃ps lim v,qcc n ps lim/\e=.returned (.agg #[v,.int .i64 lim])/\Tn b (g+3+7*n) w w'/\qn w.heap.size w'.heap.size w' v ps/\∀ad m c,v=.slice (some ad) m c->zj w' ad.block:=by
 obtain⟨i0,g8,e9,e8,e7⟩:=qjj Tp.info28p;obtain⟨Z,hZ⟩:∃Z,Z=w.heap.size:=⟨_,rfl⟩;have k0:b<Z:=by rw[hZ];exact ht.lt
 have ⟨HT,HZ⟩:=qH ht hZ;clear ht hZ;go_enter Tp.x33,Tryz.ntmps33;go_upto_region 1 with(fail);rw[<- HZ.out];refine Y1 (λu=>u.heap[Z]?=some (.cells #[.slice none 0 0,.int .i64 0] 24 (0,0))/\w.grownBy u (some b)/\qO u b g) ⟨by rw[HZ.out];exact qgF _ _,qgw _ _ _,HT.out.alloc _⟩ (λw1 hF=>?_);obtain⟨r1,g1,t1⟩:=hF;have ⟨R1,G1,T1⟩:=z8 r1 g1 t1;clear r1 g1 t1;have b6:Z≠b:=by omega
 go_upto_region 2 with(first
  | (go_at_call 70;refine(xP b g 2 6 _ T1.out (by omega) (by omega) (by omega) (by omega) (by omega) (by omega)).mono ?_;rintro e w2 ⟨lo,hlo,rfl,d5,-⟩;have N2:=qgv d5;clear d5)
  | (go_at_call 90;refine(xS b (g+1) _ [lo,12] _ (N2.out.2.alloc _) (by omega) (q9f.laid _ [lo,12] 2 rfl N2.out.2.lt (by simp)) (by simp) (by simp)).mono ?_;rintro e w3 ⟨lim,a6,rfl,c9,-⟩;have N3:=qgv c9;have b8:=qgv a6;clear c9 a6))
 have a6:=b8.out;simp only[qix,qiF,or_false] at a6;have hl2:2<=lim/\(lim<=6\/lim=12):=by omega
 clear a6 b8 hlo;have b9:=qgw w2 (.cells #[lo,.int .i64 12] 3) (some b);have g3:w.grownBy w3 (some b):=((G1.out.trans N2.out.1).trans b9).trans N3.out.1;have z3:=blk N3.out.1 (by simpa using b6) (blk b9 (by simpa using b6) (blk N2.out.1 (by simpa using b6) R1.out));obtain⟨X,hX⟩:∃X,X=w3.heap.size:=⟨_,rfl⟩;rw[<- hX];refine Y1 (λu=>u.heap[X]?=some (.cells #[.slice none 0 0,.int .i64 lim] 24 (0,0))/\w.grownBy u (some b)/\qO u b (g+2)/\u.heap[Z]?=some (.cells #[.slice none 0 0,.int .i64 0] 24 (0,0))) ⟨by rw[hX];exact qgF _ _,g3.trans (qgw _ _ _),N3.out.2.alloc _,qp z3⟩ (λw4 hF=>?_);obtain⟨x4,g4,t4,z4⟩:=hF;have k6:Z<X:=by have:=Jl z3;omega
 have g5:w.heap.size<=X:=by have:=HZ.out;omega
 have ⟨X4,G4,T4,Z4⟩:=zY x4 g4 t4 z4;clear b9 g3 z3 hX x4 g4 t4 z4 R1 G1 T1 N2 N3;have k5:b<X:=by omega
 go_wp2_with (go_at_call 68;refine(kr b (g+2) _ _ T4.out (by omega) (by omega)).mono ?_;rintro e w5 ⟨u,hu,rfl,c8,-⟩;have N5:=qgv c8;clear c8);obtain⟨m,rfl⟩:=Int.eq_ofNat_of_zero_le hu.1;have hm:m<=n:=by omega
 have x5:=blk N5.out.1 (by simp;omega) X4.out;have z5:=blk N5.out.1 (by simpa using b6) Z4.out;have ⟨X5,Z5⟩:=qH x5 z5;have G5:=qgv (G4.out.trans N5.out.1);have T5:=qgv N5.out.2;clear x5 z5 X4 Z4 G4 T4 N5 hu;go_loopw [6] (YR b (g+3) Z X m lim w) (λi _=>(qi9 i).toNat)
 case atStart=>exact⟨0,_,[],by simp,by omega,rfl,by simp,X5.out,qjh _ _ _ _,by simpa using T5.out,G5.out,Jl X5.out,Z5.out,λj e=>by cases e⟩
 case round=>
  obtain⟨k,fv,ps,rfl,h1,h2,h3,h4,h5,h6,h7,h8,h9,d9⟩:=hrel;have e5:=qgv d9;have c0:wr.cell? X=some fv:=q8 h4 rfl;have c1:wr.cell? ⟨X,1,none⟩=some (.int .i64 lim):=q8 h4 rfl;have ⟨H4,H5,H6,H7,H2,H3,H9⟩:=q62 h4 h5 h6 h7 h2 h3 h9;clear h4 h5 h6 h7 h2 h3 h9 d9;by_cases hlt:k<m
  ·have l4:(0:Int)<(m:Int) - (k:Int):=by omega
   have l6:IntKind.i64.wrap ((m:Int) - (k:Int) - 1)=(m:Int) - (k:Int) - 1:=qhp _ (by omega);have g9:some X≠fv.ownBlock:=λe=>by have:=(H5.out.lt X e.symm).1;omega
   have fX:wr.frozen? ⟨X,0,none⟩=false:=qm H4.out;have d7:b<X+1:=by omega
   go_wp2_with (fail);go_region_law
    (first
     | (go_simp;go_at_call 62;refine(q29 b (g+3+7*k) _ (by exact H6.out) (by omega)).mono ?_;rintro e w2 ⟨p,hp,rfl,HN⟩;have g6:wr.heap.size<=w2.heap.size:=HN.1.size;have l5:X<w2.heap.size:=(by omega);have l9:w2.cell? X=some fv:=q8 (blk HN.1 (by simp;omega) H4.out) rfl;have a7:=qgv HN;have HP:=qgv hp;clear HN hp;unfold qfC)
     | (refine vC (by rfl) _ _ _ (by rfl) (X+1) 28 i0 _ 4 32 Tp.und22 g8 e9 e8 e7 rfl (by omega) fv k (yM ps) (by rfl) (by exact(qen a7.out.1 H5.out d7).alloc _) ⟨w2.heap.size,0,none⟩ 1 1 (vf p) (by rfl) (by rfl) (qiw (cs:=(vf p).toArray) (t:=28) (fr:=(0,0)) (qgF w2 _)) (by simp[vf,qjk]) (by omega) (by unfold qkq;omega) (by omega) (by simp at g6 ⊢;omega) (w2.heap.size+1) (by simp) (λj e=>((((e5.out j e).kept (qc _ none)).kept a7.out.1 (λe2=>by have:=(H5.out.lt j e).1;cases e2;omega)).kept (qgw w2 _ none))) (by intro v hv;simp[vf] at hv;rcases hv with rfl | rfl | rfl | rfl<;>exact⟨_,_,rfl⟩) (by intro v hv;simp[qnE] at hv;exact⟨_,_,hv⟩) ?_;intro gg cap w5 a8 a9 l7 hgl b7;have k8:=qgv b7;clear b7;have B5:=blk a9 g9 (qp (blk a7.out.1 (by simp;omega) H4.out));have l8:w5.cell? X=some fv:=q8 B5 rfl;have c5:w5.frozen? ⟨X,0,none⟩=false:=qm B5;have k9:=qgv B5;have HG:=qgv a9;have HO:=qgv a8;clear B5 a8))
   all_goals
    have d6:=q66 (((H7.out.trans (qc _ _)).trans a7.out.1).trans (qgw w2 _ _)) HG.out (λj e=>by have:=(H5.out.lt j e).1;omega);have e4:qO w5 b (g+3+7*k+7):=((a7.out.2.alloc _).kept HG.out (λj e=>by have:=(H5.out.lt j e).1;omega));have d8:=blk HG.out (λe=>by have:=(H5.out.lt Z e.symm).1;omega) (qp (blk a7.out.1 (by simpa using b6) H9.out));have e6:=YR.step (g:=g+3) (w:=w) hlt H2.out H3.out HP.out k9.out HO.out e4 d6 g5 k5 d8 k6 k8.out;have FF:=qgv e6;clear e6 d6 e4 d8;go_wp2;go_roundw
    case rel=>exact FF.out
    case measure=>simp[qi9];omega
  ·obtain rfl:k=m:=by omega
   obtain⟨fa,fm,fc,rfl⟩:=zt H5.out;have d0:=q8 H9.out (o:=0) rfl;have d1:=q8 H9.out (o:=1) rfl;have f0:=qm H9.out (o:=0);have f1:=qm H9.out (o:=1);go_wp2;obtain⟨W,c3⟩:∃W,W=(wr.setCell Z (.slice fa fm fc)).setCell ⟨Z,1,none⟩ (.int .i64 lim):=⟨_,rfl⟩;have k7:W.heap[Z]?=some (.cells #[.slice fa fm fc,.int .i64 lim] 24 (0,0)):=by rw[c3,qg (qg H9.out)];rfl
   have b0:wr.grownBy W (some Z):=by rw[c3];exact(qe _ _ _ _).trans (qe _ _ _ _)
   have hps:ps.length<=1000:=by have:=H2.out;omega
   have g7:=(qn.own H5.out H2.out (by omega)).kept b0 (by rintro R e;cases e;exact .inl (by omega));rw[<- c3];refine qj8 (v:=.agg #[.slice fa fm fc,.int .i64 lim]) (by simp[qjb,Tryz.results33,go_sem,qhs,k7]) rfl ⟨ps,lim,_,⟨by have:=H2.out;omega,H3.out,hl2.1,hl2.2⟩,rfl,⟨q66 H7.out b0 (by rintro j e;cases e;have:=HZ.out;omega),(H6.out.kept b0 (by rintro B e;cases e;exact k0)).mono (by have:=H2.out;omega)⟩,g7.mono (by omega) b0.size,λad m2 c2 e=>by
    cases e;exact(e5.out _ rfl).kept b0 (λe2=>by have:=(H5.out.lt _ rfl).1;cases e2;omega)⟩
theorem q56(b g n:Nat)(w:qgx)(ht:qO w b g)(hg:g<100000)(hn:n<=1000):qhw Ya 33 #[.pointer (some b),n] w λe w'=>∃ps lim v,qcc n ps lim/\e=.returned (.agg #[v,.int .i64 lim])/\Tn b (g+3+7*n) w w'/\qn w.heap.size w'.heap.size w' v ps :=
 (q55 b g n w ht hg hn).mono λ_ _ ⟨ps,lim,v,h1,h2,h3,h4,_⟩=>⟨ps,lim,v,h1,h2,h3,h4⟩
end
section
open Go.RowKit
structure q9e(n:Nat)(l:List Int):Prop where
 len:l.length=n
 nd:l.Nodup
 all:∀x∈l,0<=x/\x<n
def ZL(l:List Int)(i k:Nat):List Int:=(l++[l[k]?.getD 0]).set k i
theorem qao{l:List Int}{k:Nat}{x:Int}(y:Int)(h:l[k]?=some x):(l.set k y++[x]).Perm (y::l):=by
 induction l generalizing k with
 | nil=>simp at h
 | cons a t ih=>
  cases k with
  | zero=>
   simp at h;subst h;simp only[List.set_cons_zero,qhe];exact(qpd (l₁:=t) (l₂:=[a])).cons y
  | succ k=>
   simp at h;simp only[List.set_cons_succ,qhe];exact((ih h).cons a).trans (List.Perm.swap _ _ _)
theorem q9e.step{i k:Nat}{l:List Int}(h:q9e i l)(hk:k<=i):q9e (i+1) (ZL l i k):=by
 have hp:(ZL l i k).Perm ((i:Int)::l):=by
  unfold ZL;by_cases e:k<i
  ·obtain⟨x,hx⟩:∃x,l[k]?=some x:=⟨_,qgG (by rw[h.len];exact e)⟩;rw[hx,List.set_append_left _ _ (by rw[h.len];exact e)];exact qao _ hx
  ·obtain rfl:k=i:=by omega
   rw[List.set_append_right _ _ (by rw[h.len];exact qgA _),h.len,Nat.sub_self];exact qpd (l₁:=l) (l₂:=[(k:Int)])
 refine⟨by rw[hp.length_eq,qh3,h.len],hp.nodup_iff.2 (List.nodup_cons.2 ⟨λhm=>?_,h.nd⟩),λx hx=>?_⟩
 ·have:=h.all _ hm;omega
 ·rcases qix.1 (hp.mem_iff.1 hx) with rfl | h1
  ·omega
  ·have:=h.all x h1;omega
theorem q8i(b g n:Nat)(w:qgx)(ht:qO w b g)(hg:g<100000)(hn:n<=1000):qhw Ya 72 #[.pointer (some b),n] w λe w'=>∃l v,q9e n l/\e=.returned v/\Tn b (g+n) w w'/\qf w.heap.size w'.heap.size w' v l:=by
 have a7:∀w,(qo0 29 (.int .i64 n) (.int .i64 n)).run Ya w=.ok (.slice (some ⟨w.heap.size,0,none⟩) n n) (w.alloc (.cells (qmt #[.int .i64 0] n) 3)):=λw=>by
  have:=run_make (P:=Ya) w 29 3 qqh (.int .i64 0) (by rw[Tp.und];exact qlq) (by rw[Yn _ _ Tp.tables];exact Tryz.type3) rfl .i64 .i64 n n (by omega) (by omega) (by simp[qqh];omega) (by omega);simpa[qnE,qqh] using this
 obtain⟨D,hD⟩:∃D,D=w.heap.size:=⟨_,rfl⟩;have a9:b<D:=by rw[hD];exact ht.lt
 have ⟨HT,HD,HMK⟩:=z8 ht hD a7;clear ht hD a7;go_enter Tp.x72,Tryz.ntmps72;go_upto_region 2 with(first | rw[HMK.out]);rw[<- HD.out];show Code.wp _ _ _ _ (w.alloc (.cells (qmt #[.int .i64 0] n) 3));refine Y1 (λu=>w.grownBy u (some b)/\qO u b g/\yX u D n λ_=>0) ⟨qgw _ _ _,HT.out.alloc _,by rw[HD.out];exact yX.made w n⟩ (λw1 hF=>?_);obtain⟨g1,t1,r1⟩:=hF;have ⟨G1,T1,R1⟩:=z8 g1 t1 r1;clear g1 t1 r1;go_wp2;go_loopw [6] (λiv wr=>∃(i:Nat) (l:List Int),iv=.int .i64 i/\i<=n/\q9e i l/\w.grownBy wr (some b)/\qO wr b (g+i)/\yX wr D n λj=>l[j]?.getD 0) (λiv _=>(n - qi9 iv).toNat)
 case atStart=>exact⟨0,[],rfl,by omega,⟨rfl,List.nodup_nil,by simp⟩,G1.out,T1.out,R1.out.congr λi hi=>by simp⟩
 case round=>
  obtain⟨i,l,rfl,hi,hl,hG,hT,hR⟩:=hrel;have ⟨HL,HG,HTi,HRi⟩:=zY hl hG hT hR;clear hl hG hT hR;by_cases hlt:i<n
  ·have b0:(i:Int)<(n:Int):=by omega
   have b6:IntKind.i64.wrap ((i:Int)+1)=(i:Int)+1:=qhp _ (by omega);go_upto_region 6 with(go_at_call 68;refine(kr b (g+i) _ _ HTi.out (by omega) (by omega)).mono ?_;rintro e w5 ⟨u,hu,rfl,a6,-⟩;have N5:=qgv a6;clear a6);obtain⟨k,rfl⟩:=Int.eq_ofNat_of_zero_le hu.1;have hk:k<=i:=by omega
   have b7:(k:Int)<(n:Int):=by omega
   have r5:=HRi.out.kept N5.out.1 (by simp;omega);have ck:=r5.cell (i:=k) (by omega);have ci:=r5.cell (i:=i) hlt;have fi:=r5.thaw i;have r6:=r5.set (i:=i) (x:=l[k]?.getD 0) hlt;have b9:=r6.cell (i:=k) (by omega);have fk:=r6.thaw k;have r7:=r6.set (i:=k) (x:=(i:Int)) (by omega);have R7:=qgv r7;have b8:=r5.lt;clear r5 r6 r7 hu;go_wp2;go_roundw
   case rel=>
    have a8:w5.grownBy ((w5.setCell ⟨D,i,none⟩ (.int .i64 (l[k]?.getD 0))).setCell ⟨D,k,none⟩ (.int .i64 i)) (some D):=(qe _ _ _ _).trans (qe _ _ _ _);refine⟨i+1,ZL l i k,by simp,by omega,HL.out.step hk,q66 (HG.out.trans N5.out.1) a8 (by rintro j e;cases e;have:=HD.out;omega),N5.out.2.kept a8 (by rintro B e;cases e;exact a9),R7.out.congr λj hj=>?_⟩;unfold ZL;by_cases e1:j=k
    ·subst e1;rw[if_pos rfl,ql8 (by simp[HL.out.len];omega)];rfl
    ·rw[if_neg e1,qka (λe=>e1 e.symm)];by_cases e2:j=i
     ·subst e2;rw[if_pos rfl,qj3 (by rw[HL.out.len];exact qgA _),HL.out.len,Nat.sub_self];rfl
     ·rw[if_neg e2];by_cases e3:j<i
      ·rw[qhz (by rw[HL.out.len];exact e3)]
      ·rw[qi8 (by rw[HL.out.len];omega),qi8 (by simp[HL.out.len];omega)]
   case measure=>simp[qi9];omega
  ·obtain rfl:i=n:=by omega
   go_wp2;go_ret;exact⟨l,_,HL.out,rfl,⟨HG.out,HTi.out⟩,HRi.out.ints (by have:=HD.out;omega) HRi.out.lt HL.out.len (by omega) λj hj=>by rw[qgG (by rw[HL.out.len];exact hj)];rfl⟩
end
end Go.Proofs.YtidgnkmjgioapaaGreat
namespace Go.Proofs
section
open Go Go.RowKit
theorem Tp.x200:Yc 200 Tryz.f200:=Yd
theorem Tp.x211:Yc 211 Tryz.f211:=Yd
theorem Tp.x217:Yc 217 Tryz.f217:=Yd
@[simp] theorem Tp.callPf2:Ye 200/\Ye 211/\Ye 217:=⟨Yf 200,Yf 211,Yf 217⟩
end
end Go.Proofs
namespace Go.Proofs.YtidgnkmjgioapaaGreat
section
open Go.RowKit
theorem Qz(x:Int)(w:qgx):qhw Ya 198 #[x] w λe w'=>e=.returned (.bool false)/\w=w':=by
 go_enter Tp.x198,Tryz.ntmps198;go_wp2;go_ret;exact⟨rfl,rfl⟩
theorem q46(x y:Int)(w:qgx):qhw Ya 217 #[x,y] w λe w'=>e=.returned (.bool (decide (x<y)))/\w=w':=by
 go_enter Tp.x217,Tryz.ntmps217;go_wp2_with (go_at_call 198;refine(Qz _ _).mono ?_;rintro e w2 ⟨rfl,rfl⟩);go_ret;exact⟨rfl,rfl⟩
theorem q8p(n:Nat)(h:n<=12)(w:qgx):qhw Ya 197 #[.int .u64 n] w λe w'=>∃v,e=.returned (.int .i64 v)/\w=w':=by
 obtain rfl | rfl | rfl | rfl | rfl | rfl | rfl | rfl | rfl | rfl | rfl | rfl | rfl:n=0\/n=1\/n=2\/n=3\/n=4\/n=5\/n=6\/n=7\/n=8\/n=9\/n=10\/n=11\/n=12:=by omega
 all_goals
  go_enter Tp.x197,Tryz.ntmps197;go_wp2;go_ret;exact⟨_,rfl,rfl⟩
end
end Go.Proofs.YtidgnkmjgioapaaGreat
section
namespace Go
section
variable{P:qh2}{ops:Array qiu}{md:qkv}{Q:Exit->Act->qgx->Prop}{S:qgx->Prop}
def zG(P:qh2)(md:qkv)(ops:Array qiu)(Q:Exit->Act->qgx->Prop)(S:qgx->Prop)(n:Nat)(L:Array Bool->Act->qgx->Prop):Nat->Array Bool->Act->qgx->Prop
 | 0,listed,a,w=>L listed a w
 | f+1,listed,a,w=>
  qhd md ops listed≠[]/\∀i∈qhd md ops listed,i<n/\wpOp P ops Q i (λa' w'=>S w'/\zG P md ops Q S n L f (listed.setIfInBounds i true) a' w') a w
theorem jR{n g:Nat}{L:Array Bool->Act->qgx->Prop}(hL:∀listed a w,L listed a w->wpAny P md ops Q g listed a w) :∀(f:Nat) (listed:Array Bool) (a:Act) (w:qgx),zG P md ops Q S n L f listed a w->wpAny P md ops Q (f+g) listed a w
 | 0,listed,a,w,h=>by rw[qhf];exact hL _ _ _ h
 | f+1,listed,a,w,h=>by
  rw[show f+1+g=(f+g)+1 by omega];exact⟨λh0=>absurd h0 h.1,λi hi=>wpOp_mono (λa' w' h'=>jR hL f _ a' w' h'.2) (h.2 i hi).2⟩
theorem q1y{n i:Nat}{oi:qiu}{v:qgB}{L:Array Bool->Act->qgx->Prop}(hi:ops[i]?=some oi)(b7:∀(j:Nat) (o:qiu) cs b,ops[j]?=some o->o.op≠.select cs b)(hs:qp3 md ops n=true)(hc:qos md ops n=true)(hn:n<ops.size)(hin:i<n)(hQ:∀c a w,Q (.panic c) (a.put oi.dst v) w->Q (.panic c) a w)(hdone:∀listed a w,L listed a w->∀j∈qhd md ops listed,n<=j) :∀(f:Nat) (listed:Array Bool) (a:Act) (w:qgx),HeadInv md ops n listed ->(∀j oj,ops[j]?=some oj->j≠i->listed.getD j true=false->(∀e∈oj.after,qi3 md e=true->e.on≠i)->oi.apart ops oj=true) ->i∈qhd md ops listed->YieldsIf P ops S oi v a->S w ->zG P md ops Q S n L f (listed.setIfInBounds i true) (a.put oi.dst v) w->zG P md ops Q S n L (f+1) listed a w:=by
 intro f;induction f with
 | zero=>
  intro listed a w a9 _ hr hy hS H;have a7:=(mem_ready.1 hr).1;refine⟨λh=>(by rw[h] at hr;cases hr),λj hj=>?_⟩;have b0:j<n:=by
   rcases qiC j n with h | h
   ·exact h
   ·exact absurd hj (tail_waits hs hc hn a9 _ i rfl hin a7 j h)
  refine⟨b0,?_⟩;by_cases a6:j=i
  ·subst a6;exact hy.wpOp hi hS ⟨hS,H⟩
  ·have:=hdone _ _ _ H j (ready_mono hj a6);omega
 | succ f ih=>
  intro listed a w a9 a8 hr hy hS H;have a7:=(mem_ready.1 hr).1;refine⟨λh=>(by rw[h] at hr;cases hr),λj hj=>?_⟩;have b0:j<n:=by
   rcases qiC j n with h | h
   ·exact h
   ·exact absurd hj (tail_waits hs hc hn a9 _ i rfl hin a7 j h)
  refine⟨b0,?_⟩;by_cases a6:j=i
  ·subst a6;exact hy.wpOp hi hS ⟨hS,H⟩
  ·have h1:=(H.2 j (ready_mono hj a6)).2;obtain⟨b8,oj,b9,hall⟩:=mem_ready.1 hj;have c3:∀e∈oj.after,qi3 md e=true->e.on≠i:=λe he hb d6=>by
    have h1:=hall e he hb;rw[d6,getD_both a7] at h1;cases h1
   have h2:=wpOp_putIf b9 (a8 j oj b9 a6 b8 c3) (λcs b=>b7 i oi cs b hi) (λcs b=>b7 j oj cs b b9) hQ hy h1;have b6:∀k ok,ops[k]?=some ok->k≠i->(listed.setIfInBounds j true).getD k true=false ->
     (∀e∈ok.after,qi3 md e=true->e.on≠i)->oi.apart ops ok=true:=λk ok hk d5 a7 c9=>by
    refine a8 k ok hk d5 ?_ c9;by_cases c8:j=k
    ·subst c8;exact b8
    ·rw[getD_set_ne true c8] at a7;exact a7
   refine wpOp_mono (λa' w' h3=>⟨h3.2.1,ih (listed.setIfInBounds j true) a' w' (a9.set hj b0) b6 (ready_mono hr (Ne.symm a6)) h3.1 h3.2.1 ?_⟩) h2;rw[Array.setIfInBounds_comm _ _ a6];exact h3.2.2
def q4c(md:qkv)(ops:Array qiu)(n:Nat)(listed:Array Bool):Bool :=
 decide (listed.size=ops.size) && (qht ops.size).all (λj=>!listed.getD j false || ((ops[j]?).map (·.after.all λe=>!qi3 md e || listed.getD e.on false)).getD true) &&
  (qht ops.size).all λt=>decide (t<n) || !listed.getD t true
theorem q8x{n:Nat}{listed:Array Bool}(h:q4c md ops n listed=true):HeadInv md ops n listed:=by
 simp only[q4c,qhh,decide_eq_true_eq] at h;obtain⟨⟨h1,h2⟩,h3⟩:=h;refine⟨h1,λj oj hj hl e he hb=>?_,λt ht a6=>?_⟩
 ·have:=qid.1 h2 j (qjq.2 (qgy.1 hj).1);simp only[hl,hj,qmx,Bool.false_or,qip,qgH] at this;have h4:=(qiA.1 this) e he;simpa[hb] using h4
 ·have:=qid.1 h3 t (qjq.2 a6);simp only[qju,decide_eq_true_eq,qjA] at this;exact this.elim (λe=>absurd e (by omega)) id
theorem Js{n i g:Nat}{oi:qiu}{v:qgB}{f:Nat}{listed:Array Bool}{a:Act}{w:qgx}{R:Act->qgx->Prop}(hi:ops[i]?=some oi)(hB:(qp8 ops && qp3 md ops n && qos md ops n && decide (n<ops.size) && decide (i<n) && q4c md ops n listed && qqG md ops listed i && (qhd md ops listed).contains i)=true)(hQ:∀c a w,Q (.panic c) (a.put oi.dst v) w->Q (.panic c) a w)(hy:YieldsIf P ops S oi v a)(hS:S w)(h:zG P md ops Q S n (λlisted a w=>qlE md ops g n listed=true/\R a w) f (listed.setIfInBounds i true) (a.put oi.dst v) w) :zG P md ops Q S n (λlisted a w=>qlE md ops g n listed=true/\R a w) (f+1) listed a w:=by
 simp only[qhh,decide_eq_true_eq] at hB;obtain⟨⟨⟨⟨⟨⟨⟨h1,h2⟩,h3⟩,h4⟩,h5⟩,h6⟩,h7⟩,h8⟩:=hB;exact q1y hi (Region.noSelect_spec h1) h2 h3 h4 h5 hQ (λlisted a w hL=>seqB_ready hL.1) f listed a w (q8x h6) (Region.free_spec hi h7) (by simpa using h8) hy hS h
theorem tk(i:Nat){n g:Nat}{oi:qiu}{v:qgB}{f:Nat}{listed:Array Bool}{a:Act}{w:qgx}{R:Act->qgx->Prop}(hi:ops[i]?=some oi:=by rfl)(hy:∀w,S w->(qk3 a.eval oi).run P w=.ok (.value v) w:=by intro w a6;(try dsimp only at a6);go_simp;try with_reducible rfl)(hB:(qp8 ops && qp3 md ops n && qos md ops n && decide (n<ops.size) && decide (i<n) && q4c md ops n listed && qqG md ops listed i && (qhd md ops listed).contains i)=true:=by kernel_rfl)(hQ:∀c a w,Q (.panic c) (a.put oi.dst v) w->Q (.panic c) a w:=by exact λ_ _ _ h=>h)(hw:qhv oi (qj4 ops a.tmps)=true:=by kernel_rfl)(hS:S w:=by assumption)(h:zG P md ops Q S n (λlisted a w=>qlE md ops g n listed=true/\R a w) f (listed.setIfInBounds i true) (a.put oi.dst v) w) :zG P md ops Q S n (λlisted a w=>qlE md ops g n listed=true/\R a w) (f+1) listed a w:=Js hi hB hQ (Or.inl ⟨hw,hy⟩) hS h
theorem tku(i:Nat){n g:Nat}{oi:qiu}{f:Nat}{listed:Array Bool}{a:Act}{w:qgx}{R:Act->qgx->Prop}(hi:ops[i]?=some oi:=by rfl)(hB:(qp8 ops && qp3 md ops n && qos md ops n && decide (n<ops.size) && decide (i<n) && q4c md ops n listed && qqG md ops listed i && (qhd md ops listed).contains i)=true:=by kernel_rfl)(hQ:∀c a w,Q (.panic c) (a.put oi.dst qgD) w->Q (.panic c) a w:=by exact λ_ _ _ h=>h)(hw:qhv oi (qj4 ops a.tmps)=false:=by kernel_rfl)(hS:S w:=by assumption)(h:zG P md ops Q S n (λlisted a w=>qlE md ops g n listed=true/\R a w) f (listed.setIfInBounds i true) (a.put oi.dst qgD) w) :zG P md ops Q S n (λlisted a w=>qlE md ops g n listed=true/\R a w) (f+1) listed a w:=Js hi hB hQ (Or.inr ⟨hw,rfl⟩) hS h
def qU(P:qh2)(md:qkv)(ops:Array qiu)(Q:Exit->Act->qgx->Prop)(S:qgx->Prop)(n:Nat)(L:Array Bool->Act->qgx->Prop)(f:Nat)(listed:Array Bool)(a:Act)(w:qgx)(rs:List Nat):Prop :=
 ∀i∈rs,i<n/\wpOp P ops Q i (λa' w'=>S w'/\zG P md ops Q S n L f (listed.setIfInBounds i true) a' w') a w
theorem qU.nil{n f:Nat}{L:Array Bool->Act->qgx->Prop}{listed:Array Bool}{a:Act}{w:qgx}:qU P md ops Q S n L f listed a w []:=λ_ h=>by cases h
theorem qU.cons{n i:Nat}{oi:qiu}{f:Nat}{listed:Array Bool}{a:Act}{w:qgx}{L:Array Bool->Act->qgx->Prop}{rs:List Nat}(hi:ops[i]?=some oi)(hn:decide (i<n)=true)(h:∀K':Act->qgx->Prop,Shut (∀a w,S w->(S w->zG P md ops Q S n L f (listed.setIfInBounds i true) a w)->K' a w)->if qhv oi (qj4 ops a.tmps)=true then Oper.wp P oi a w K' Q else K' (a.put oi.dst qgD) w)(hs:qU P md ops Q S n L f listed a w rs):qU P md ops Q S n L f listed a w (i::rs):=λj hj=>by
 rcases qix.1 hj with rfl | hj
 ·exact⟨by simpa using hn,wpOp_step hi (λK' hK=>h K' (λa w hS hW=>hK a w ⟨hS,hW hS⟩))⟩
 ·exact hs j hj
theorem q1x{n f:Nat}{listed:Array Bool}{a:Act}{w:qgx}{L:Array Bool->Act->qgx->Prop}(rs:List Nat)(hr:decide (qhd md ops listed=rs)=true)(hne:rs≠[])(h:qU P md ops Q S n L f listed a w rs) :zG P md ops Q S n L (f+1) listed a w:=by
 have hr':qhd md ops listed=rs:=by simpa using hr
 exact⟨λe=>hne (hr' ▸ e),hr' ▸ h⟩
theorem rdy(rs:List Nat){n f:Nat}{listed:Array Bool}{a:Act}{w:qgx}{L:Array Bool->Act->qgx->Prop}(h:qU P md ops Q S n L f listed a w rs)(hr:decide (qhd md ops listed=rs)=true:=by kernel_rfl)(hne:rs≠[]:=by simp):zG P md ops Q S n L (f+1) listed a w:=q1x rs hr hne h
theorem cns(i:Nat){n:Nat}{oi:qiu}{f:Nat}{listed:Array Bool}{a:Act}{w:qgx}{L:Array Bool->Act->qgx->Prop}{rs:List Nat}(h:∀K':Act->qgx->Prop,Shut (∀a w,S w->(S w->zG P md ops Q S n L f (listed.setIfInBounds i true) a w)->K' a w)->if qhv oi (qj4 ops a.tmps)=true then Oper.wp P oi a w K' Q else K' (a.put oi.dst qgD) w)(hs:qU P md ops Q S n L f listed a w rs)(hi:ops[i]?=some oi:=by rfl)(hn:decide (i<n)=true:=by rfl):qU P md ops Q S n L f listed a w (i::rs):=qU.cons hi hn h hs
theorem rdc(i:Nat){n:Nat}{oi:qiu}{f:Nat}{listed:Array Bool}{a:Act}{w:qgx}{L:Array Bool->Act->qgx->Prop}(h:∀K':Act->qgx->Prop,Shut (∀a w,S w->(S w->zG P md ops Q S n L f (listed.setIfInBounds i true) a w)->K' a w)->if qhv oi (qj4 ops a.tmps)=true then Oper.wp P oi a w K' Q else K' (a.put oi.dst qgD) w)(hr:decide (qhd md ops listed=[i])=true:=by kernel_rfl)(hi:ops[i]?=some oi:=by rfl)(hn:decide (i<n)=true:=by rfl):zG P md ops Q S n L (f+1) listed a w:=rdy [i] (cns i h qU.nil hi hn) hr (by simp)
theorem qJ{id:Nat}{a:Act}{w:qgx}{l:List qiu}(n:Nat)(S:qgx->Prop)(hm:P.follows .mixedOrders=true)(hn:decide (n<=l.length)=true)(hS:S w.drew)(h:S w.drew->zG P .any l.toArray Q S n (λlisted a w=>qlE .any l.toArray (l.length - n) n listed=true/\wpList P l.toArray Q (l.drop n) a w) n (qi0 l.length false) a w.drew) :(Code.region id l.toArray true).wp P Q a w:=by
 have a6:n<=l.length:=by simpa using hn
 refine wp_region_any hm ?_;have:=jR (g:=l.length - n) (λlisted a w hL=>by
  have:=qqj (md:=.any) (Q':=Q) (ops:=l.toArray) (l.drop n) n listed a w (λj=>by simp[qli]) (by rw[qle];exact hL.1) hL.2
  rwa [qle] at this) _ _ _ _ (h hS)
 rw[show n+(l.length - n)=l.toArray.size by simp;omega] at this;simpa using this
end
end Go
namespace Go
theorem qgd{P:qh2}{Q:Exit->Act->qgx->Prop}{a:Act}{w:qgx}{l:List qiu}(n:Nat)(S:qgx->Prop)(hn:decide (n<=l.length)=true)(hS:S w)(h:S w->zG P .any l.toArray Q S n (λlisted a w=>qlE .any l.toArray (l.length - n) n listed=true/\wpList P l.toArray Q (l.drop n) a w) n (qi0 l.length false) a w) :wpAny P .any l.toArray Q l.toArray.size (qi0 l.toArray.size false) a w:=by
 have a6:n<=l.length:=by simpa using hn
 have:=jR (g:=l.length - n) (λlisted a w hL=>by
  have:=qqj (md:=.any) (Q':=Q) (ops:=l.toArray) (l.drop n) n listed a w (λj=>by simp[qli]) (by rw[qle];exact hL.1) hL.2
  rwa [qle] at this) _ _ _ _ (h hS)
 rw[show n+(l.length - n)=l.toArray.size by simp;omega] at this;simpa using this
end Go
end
namespace Go.Proofs.YtidgnkmjgioapaaGreat
section
open Go.RowKit
def zW(B:Nat)(w:qgx)(L:List Int):Prop:=∃cs,w.heap[B]?=some (.cells cs 3 (0,0))/\∀i,i<L.length->cs[i]?=some (.int .i64 (L[i]?.getD 0))
def xY:Nat->List Int->List Int
 | 0,L=>L
 | j+1,L=>if L[j+1]?.getD 0<L[j]?.getD 0 then xY j ((L.set (j+1) (L[j]?.getD 0)).set j (L[j+1]?.getD 0)) else L
def jt(k:Nat)(L:List Int):List Int:=(qht k).foldl (λL i=>xY i L) L
theorem kX(k:Nat)(L:List Int):jt (k+1) L=xY k (jt k L):=by simp[jt,qkH]
theorem q82(j:Nat)(L:List Int):(xY j L).length=L.length:=by
 induction j generalizing L with
 | zero=>rfl
 | succ j ih=>
  unfold xY;split
  ·rw[ih];simp
  ·rfl
theorem xx(k:Nat)(L:List Int):(jt k L).length=L.length:=by
 induction k with
 | zero=>rfl
 | succ k ih=>rw[kX,q82,ih]
theorem Ke{l:List Int}(h:∀i,i+1<l.length->l[i]?.getD 0<=l[i+1]?.getD 0):∀k,k<=l.length->jt k l=l
 | 0,_=>rfl
 | k+1,hk=>by
  rw[kX,Ke h k (by omega)];cases k with
  | zero=>rfl
  | succ k=>
   unfold xY;have:=h k (by omega);rw[if_neg (by omega)]
section
variable{B:Nat}{w w':qgx}{L:List Int}
theorem zW.kept{r:Option Nat}(h:zW B w L)(hg:w.grownBy w' r)(hr:some B≠r:=by simp):zW B w' L:=let ⟨cs,h1,h2⟩:=h;⟨cs,blk hg hr h1,h2⟩
theorem zW.at{k:Nat}(h:zW B w L)(hk:k<L.length):w.cell? ⟨B,k,none⟩=some (.int .i64 (L[k]?.getD 0)):=let ⟨_,h1,h2⟩:=h;q8 h1 (h2 k hk)
theorem zW.thaw{k:Nat}(h:zW B w L):w.frozen? ⟨B,k,none⟩=false:=let ⟨_,h1,_⟩:=h;qm h1
theorem zW.step{j:Nat}{y v:qgB}(h:zW B w L)(hy:w.cell? ⟨B,j,none⟩=some y):(w.setCell ⟨B,j+1,none⟩ v).cell? ⟨B,j,none⟩=some y/\(w.setCell ⟨B,j+1,none⟩ v).frozen? ⟨B,j,none⟩=false:=by
 obtain⟨cs,h1,-⟩:=h;have g1:(w.setCell ⟨B,j+1,none⟩ v).heap[B]?=some (.cells (cs.setIfInBounds (j+1) v) 3 (0,0)):=by rw[qg h1]
 have c2:cs[j]?=some y:=by simpa[qhs,h1] using hy
 exact⟨q8 g1 (by rw[qif (by omega)];exact c2),qm g1⟩
theorem zW.swap{j:Nat}{a b:Int}(h:zW B w L)(hj:j+1<L.length) :zW B ((w.setCell ⟨B,j+1,none⟩ (.int .i64 b)).setCell ⟨B,j,none⟩ (.int .i64 a)) ((L.set (j+1) b).set j a):=by
 obtain⟨cs,h1,h2⟩:=h;have g1:(w.setCell ⟨B,j+1,none⟩ (.int .i64 b)).heap[B]?=some (.cells (cs.setIfInBounds (j+1) (.int .i64 b)) 3 (0,0)):=by rw[qg h1]
 have g2:((w.setCell ⟨B,j+1,none⟩ (.int .i64 b)).setCell ⟨B,j,none⟩ (.int .i64 a)).heap[B]?=some (.cells ((cs.setIfInBounds (j+1) (.int .i64 b)).setIfInBounds j (.int .i64 a)) 3 (0,0)):=by rw[qg g1]
 have s1:=(qgy.1 (h2 (j+1) hj)).1;refine⟨_,g2,λi hi=>?_⟩;simp only[qmE] at hi;by_cases e:i=j
 ·subst e;rw[qk7 (by rw[Array.size_setIfInBounds];omega),ql8 (by rw[qmE];omega)];rfl
 ·by_cases e':i=j+1
  ·subst e';rw[qif (by omega),qk7 (by omega),qka (by omega),ql8 (by omega)];rfl
  ·rw[qif (by omega),qif (by omega),qka (by omega),qka (by omega)];exact h2 i hi
end
theorem q60(B c:Nat)(L:List Int)(w:qgx)(hI:zW B w L)(g6:L.length<=1000) :qhw Ya 211 #[.slice (some B) L.length c,.int .i64 0,L.length] w λe w'=>e=.returned (.tuple #[])/\w.grownBy w' (some B)/\zW B w' (jt L.length L):=by
 have HI:=qgv hI;have e7:(L.length:Int)<=1000:=by omega
 clear hI;go_enter Tp.x211,Tryz.ntmps211;go_wp2;go_loopw [6] (λiv wr=>∃k:Nat,iv=.int .i64 (k+1:Nat)/\k<=1000/\w.grownBy wr (some B)/\zW B wr (jt (min (k+1) L.length) L)) (λiv _=>(L.length - qi9 iv).toNat)
 case atStart=>exact⟨0,rfl,by omega,qh1 _ _,by
  by_cases h:L.length=0
  ·rw[h];exact HI.out
  ·rw[show min (0+1) L.length=0+1 by omega,kX];exact HI.out⟩
 case round=>
  obtain⟨k,rfl,hk,hG,hR⟩:=hrel;have ⟨HG,HR⟩:=qH hG hR;clear hG hR;by_cases hlt:k+1<L.length
  ·have d7:(k:Int)+1<(L.length:Int):=by omega
   have d6:IntKind.i64.wrap ((k:Int)+1+1)=(k:Int)+1+1:=qhp _ (by omega);have d9:IntKind.i64.wrap ((k:Int)+1)=(k:Int)+1:=qhp _ (by omega);go_wp2;go_loopw [7] (λjv w2=>∃(j:Nat) (Lj:List Int),jv=.int .i64 j/\j<=k+1/\xY (k+1) (jt (min (k+1) L.length) L)=xY j Lj/\Lj.length=L.length/\w.grownBy w2 (some B)/\zW B w2 Lj) (λjv _=>(qi9 jv).toNat)
   case atStart=>exact⟨k+1,_,rfl,qgA _,rfl,xx _ _,HG.out,HR.out⟩
   case round=>
    obtain⟨j0,Lj,rfl,hj,hs,b7,b9,b8⟩:=hrel;have ⟨HS2,HLL,HG2,HR2⟩:=zY hs b7 b9 b8;clear hs b7 b9 b8;have hout:xY (k+1) (jt (min (k+1) L.length) L)=Lj->∀w5,w.grownBy w5 (some B)->zW B w5 Lj->∃k',qhj .i64 ((k:Int)+1+1)=.int .i64 ((k'+1:Nat):Int)/\k'<=1000/\w.grownBy w5 (some B)/\zW B w5 (jt (min (k'+1) L.length) L):=λe w5 h1 h2=>
     ⟨k+1,by simp,by omega,h1,by rw[show min (k+1+1) L.length=(k+1)+1 by omega,kX,<- show min (k+1) L.length=k+1 by omega,show min (k+1) L.length=k+1 by omega];rw[show min (k+1) L.length=k+1 by omega] at e;rw[e];exact h2⟩
    have a8:=qgv hout;clear hout;cases j0 with
    | zero=>
     go_wp2_with (fail);go_quiet (fail);go_wp2;go_roundw
     case rel=>exact a8.out HS2.out _ (HG2.out.andThen (qi _ _ none) (by simp)) (HR2.out.kept (qi _ _ none))
     case measure=>simp[qi9];omega
    | succ j=>
     have a9:j+1<Lj.length:=by have:=HLL.out;omega
     have x1:=HR2.out.at (k:=j+1) a9;have y1:=HR2.out.at (k:=j) (by omega);have z1:=HR2.out.thaw (k:=j+1);have z0:=HR2.out.thaw (k:=j);have a7:xY (j+1) Lj=if Lj[j+1]?.getD 0<Lj[j]?.getD 0 then xY j ((Lj.set (j+1) (Lj[j]?.getD 0)).set j (Lj[j+1]?.getD 0)) else Lj:=rfl;generalize Lj[j+1]?.getD 0=a at a7 x1;generalize Lj[j]?.getD 0=b at a7 y1;have e4:IntKind.i64.wrap (j:Int)=(j:Int):=qhp _ (by omega);have e6:((j:Int)+1).toNat=j+1:=by omega
     have e9:(j:Int)+1<(L.length:Int):=by omega
     have d8:(j:Int)<(L.length:Int):=by omega
     have g5:(0:Int)<=(j:Int)+1:=by omega
     have e8:(0:Int)<(j:Int)+1:=by omega
     have e5:(j:Int)+1 - 1=(j:Int):=by omega
     have d5:=qgv a9;clear a9;by_cases hz:a<b
     ·rw[if_pos hz] at a7;have HSI:=qgv a7;clear a7;go_wp2_with (fail);go_quiet (first | (go_at_call 217;refine qiH ((q46 _ _ _).mono (λe w5 h=>⟨h.1,h.2.symm⟩))));go_upto_region 6 with(fail);have b0:=qi wr nq none;generalize wr.drewN nq=wa at b0 ⊢;have hgb:wr.grownBy wa.drew none:=b0.trans (qc wa none);have RA:=HR2.out.kept hgb;have x2:=hgb.cl x1;have y2:=hgb.cl y1;have c8:=qgv (RA.swap (a:=a) (b:=b) d5.out);have c9:=qgv (((HG2.out.andThen hgb (by simp)).andThen (qe _ B (j+1) (.int .i64 b)) (λj e=>.inr e)).andThen (qe _ B j (.int .i64 a)) (λj e=>.inr e));have z2:=RA.thaw (k:=j+1);have z3:=RA.thaw (k:=j);have b6:=RA.step (v:=.int .i64 b) y2;have c3:=qgv b6;have z4:=b6.2;clear RA b6 x1 y1 z1 z0 b0 hgb;refine qJ 16 (λw'=>w'.cell? ⟨B,j,none⟩=some (.int .i64 b)/\w'.frozen? ⟨B,j,none⟩=false) (by kernel_rfl) (by kernel_rfl) ⟨y2,z3⟩ (λa6=>?_);simp only[qh3,qhc,qhk,qii,qhf,qhq,qhr,qhC,qho,qhe];refine tk 0 (h:=tk 1 (h:=tk 2 (h:=tk 3 (h:=tk 4 (h:=tk 5 (h:=tk 6 (h:=tk 7 (h:=tk 8 (h:=tk 9 (h:=tk 10 (h:=tk 11 (h:=tk 12 (h:=?_)))))))))))));try go_frame
      refine rdc 13 λK hK=>?_;go_simp;refine hK.out _ _ (by first | exact a6 | exact⟨y2,z3⟩ | exact c3.out) (λa6=>?_);refine tk 14 (h:=?_);try go_frame
      refine rdc 15 λK hK=>?_;go_simp;refine hK.out _ _ (by first | exact a6 | exact⟨y2,z3⟩ | exact c3.out) (λa6=>?_);try go_frame
      refine⟨by kernel_rfl,?_⟩;simp only[qhu,qia];go_wp2;refine⟨?_,?measure⟩
      repeat apply Exists.intro
      refine⟨?rel,rfl⟩
      case rel=>exact⟨j,_,rfl,by omega,HS2.out.trans HSI.out,by simp[HLL.out],c9.out,c8.out⟩
      case measure=>simp[qi9]
     ·rw[if_neg hz] at a7;have HSI:=qgv a7;clear a7;go_wp2_with (fail);go_quiet (first | (go_at_call 217;refine qiH ((q46 _ _ _).mono (λe w5 h=>⟨h.1,h.2.symm⟩))));go_wp2;go_roundw
      case rel=>exact a8.out (HS2.out.trans HSI.out) _ (HG2.out.andThen (qi _ _ none) (by simp)) (HR2.out.kept (qi _ _ none))
      case measure=>simp[qi9];omega
  ·have he:min (k+1) L.length=L.length:=by omega
   rw[he] at HR;go_wp2;go_end0;exact⟨rfl,HG.out,HR.out⟩
def QZ(base:Option qi5)(B:Nat)(w:qgx)(L:List Int):Prop:=(base=some ⟨B,0,none⟩/\zW B w L)\/L=[]
theorem q61(base:Option qi5)(B c:Nat)(L:List Int)(w:qgx)(hI:QZ base B w L)(a6:L.length<=1000) :qhw Ya 211 #[.slice base L.length c,.int .i64 0,L.length] w λe w'=>e=.returned (.tuple #[])/\w.grownBy w' (some B)/\QZ base B w' (jt L.length L):=by
 rcases hI with⟨rfl,hI⟩ | rfl
 ·exact(q60 B c L w hI a6).mono λe w' ⟨h1,h2,h3⟩=>⟨h1,h2,.inl ⟨rfl,h3⟩⟩
 ·go_enter Tp.x211,Tryz.ntmps211;go_wp2;go_loopw [6] (λiv wr=>iv=.int .i64 1/\w.grownBy wr (some B)) (λ_ _=>0)
  case atStart=>exact⟨rfl,qh1 _ _⟩
  case round=>
   obtain⟨rfl,hG⟩:=hrel;go_wp2;go_end0;exact⟨rfl,hG,.inr rfl⟩
end
section
open Go.RowKit
theorem JQ(n:Nat)(h:n<=12)(w:qgx):qhw Ya 156 #[.int .u64 n] w λe w'=>∃v,e=.returned (.int .i64 v)/\w=w':=by
 go_enter Tp.x156,Tryz.ntmps156;go_wp2_with (go_at_call 197;refine(q8p n h _).mono ?_;rintro e w2 ⟨v,rfl,rfl⟩);go_ret;exact⟨_,rfl,rfl⟩
theorem pdqI(base:Option qi5)(B c:Nat)(L:List Int)(lim:Int)(w:qgx)(hI:QZ base B w L)(a6:L.length<=12) :qhw Ya 200 #[.slice base L.length c,.int .i64 0,L.length,lim] w λe w'=>e=.returned (.tuple #[])/\w.grownBy w' (some B)/\QZ base B w' (jt L.length L):=by
 have HI:=qgv hI;clear hI;go_enter Tp.x200,Tryz.ntmps200;go_wp2;go_loopw [1,2,3] (λa b c wr=>a=.int .i64 0/\b=.int .i64 L.length/\c=.int .i64 lim/\w=wr) (λ_ _ _ _=>0)
 case atStart=>exact⟨rfl,rfl,rfl,rfl⟩
 case round=>
  obtain⟨rfl,rfl,rfl,rfl⟩:=hrel;have h1:IntKind.i64.wrap (L.length:Int)=(L.length:Int):=qhp _ (by omega);have h2:(L.length:Int)<=12:=by omega
  go_wp2_with (go_at_call 211;refine(q61 base B c L _ HI.out (by omega)).mono ?_;rintro e w2 ⟨rfl,hg,hr⟩);refine qj8 (results_none rfl _ _ _) rfl ?_;exact⟨rfl,hg,hr⟩
theorem qfy(base:Option qi5)(B c:Nat)(L:List Int)(w:qgx)(hI:QZ base B w L)(a6:L.length<=12) :qhw Ya 164 #[.slice base L.length c] w λe w'=>e=.returned (.tuple #[])/\w.grownBy w' (some B)/\QZ base B w' (jt L.length L):=by
 have HI:=qgv hI;clear hI;have hw:IntKind.u64.wrap (L.length:Int)=(L.length:Int):=by simp[IntKind.wrap,IntKind.signed,IntKind.bits];omega
 go_enter Tp.x164,Tryz.ntmps164;go_wp2_with (first
  | (go_at_call 156;refine(JQ L.length a6 _).mono ?_;rintro e w2 ⟨v,rfl,rfl⟩)
  | (go_at_call 200;refine(pdqI base B c L _ _ HI.out a6).mono ?_;rintro e w2 ⟨rfl,hg,hr⟩))
 go_end0;exact⟨rfl,hg,hr⟩
theorem Z2(b:Option qi5)(n c:Nat)(w:qgx):qhw Ya 135 #[.slice b n c] w λe w'=>e=.returned (.func (.func 165) #[] #[.pointer (some w.heap.size)])/\w'=w.alloc (.cells #[.slice b n c] 29):=by
 go_enter Tp.x135,Tryz.ntmps135;go_wp2;go_ret;exact⟨rfl,rfl⟩
def zM(ws:List Int):Nat->List Int->Nat->List (List Int)
 | 0,now,_=>[now]
 | m+1,now,from_=>(qnD from_ (ws.length - from_)).flatMap λi=>zM ws m (now++[ws[i]?.getD 0]) (i+1)
theorem Zj{ws:List Int}{m:Nat}{now:List Int}{i:Nat}(h:i<ws.length):zM ws (m+1) now i=zM ws m (now++[ws[i]?.getD 0]) (i+1)++zM ws (m+1) now (i+1):=by
 have e:ws.length - i=(ws.length - (i+1))+1:=by omega
 simp only[zM];rw[e,List.range'_succ,qjr]
theorem q1j{ws:List Int}{m:Nat}{now:List Int}{i:Nat}(h:ws.length<=i):zM ws (m+1) now i=[]:=by
 simp only[zM];rw[show ws.length - i=0 by omega];rfl
def yt(ws:List Int)(k:Nat):List (List Int):=(qnD k (ws.length+1 - k)).flatMap λm=>zM ws m [] 0
theorem J7{ws:List Int}{k:Nat}(h:k<ws.length+1):yt ws k=zM ws k [] 0++yt ws (k+1):=by
 have e:ws.length+1 - k=(ws.length+1 - (k+1))+1:=by omega
 unfold yt;rw[e,List.range'_succ,qjr]
theorem q3g{ws:List Int}{k:Nat}(h:ws.length+1<=k):yt ws k=[]:=by
 unfold yt;rw[show ws.length+1 - k=0 by omega];rfl
end
end Go.Proofs.YtidgnkmjgioapaaGreat
namespace Go
section
open Go.RowKit
section
variable{F:Fence}{n:Nat}{P:qh2}
structure Stp(n1 B:Nat)(G:Nat->Prop)(A C:qgx):Prop where
 os:C.os=A.os
 tape:C.tape=A.tape
 output:C.output=A.output
 size:A.heap.size<=C.heap.size
 keep:∀k,k<A.heap.size->((k<n1/\k≠B)\/G k)->C.heap[k]?=A.heap[k]?
structure Bod(n1 B:Nat)(G G':Nat->Prop)(A C:qgx):Prop where
 tape:C.tape=A.tape
 size:A.heap.size<=C.heap.size
 keep:∀k,k<A.heap.size->(n1<=k\/k=B)->¬ G k->C.heap[k]?=A.heap[k]?
 fp:∀k,G' k->G k\/A.heap.size<=k
theorem Bod.trans{n1 B:Nat}{G G' a6:Nat->Prop}{A C E:qgx}(h:Bod n1 B G G' A C)(k:Bod n1 B G' a6 C E):Bod n1 B G a6 A E :=
 ⟨k.tape.trans h.tape,qh0 h.size k.size,λj hj hn hf=>(k.keep j (qh7 hj h.size) hn (λe=>(h.fp j e).elim hf (by omega))).trans (h.keep j hj hn hf),
  λj hj=>(k.fp j hj).elim (h.fp j) (λe=>.inr (qh0 h.size e))⟩
theorem Stp.mono{n1 n2 B:Nat}{G:Nat->Prop}{A C:qgx}(h:Stp n2 B G A C)(hn:n1<=n2):Stp n1 B G A C:=⟨h.os,h.tape,h.output,h.size,λk hk hc=>h.keep k hk (hc.imp (λe=>⟨by omega,e.2⟩) id)⟩
theorem Bod.mono{n1 n2 B:Nat}{G G':Nat->Prop}{A C:qgx}(h:Bod n1 B G G' A C)(hn:n1<=n2):Bod n2 B G G' A C:=⟨h.tape,h.size,λk hk hc=>h.keep k hk (hc.imp (λe=>by omega) id),h.fp⟩
def qgi{Y:Type}(F:Fence)(n:Nat)(P:qh2)(g:Nat)(lb:Array qgB)(a6:Y->Array qgB)(Xp:Y->qgx->Prop)(S Sp:List Y->Prop)(B:Nat)(w0:qgx):Prop :=
 ∀(l:Nat) (J Jx:List Y->(Nat->Prop)->qgx->Prop) (G0:Nat->Prop) (W:qgx),Below w0.heap.size w0 W->¬ G0 B->(∀s G A,J s G A->∀k,G k->k<A.heap.size) ->
  (∀s G A C,J s G A->Stp W.heap.size B G A C->J s G C)->(∀s G A C,Jx s G A->Stp W.heap.size B G A C->Jx s G C) ->
  (∀pre G x W1,J pre G W1->Xp x W1->Sp (pre++[x])->YieldAt F (n - 1) P l (a6 x) W1 λe W'=>
   ∃G',(e=.returned (.bool true)/\J (pre++[x]) G' W'/\Bod W.heap.size B G G' W1 W')\/(e=.returned (.bool false)/\Jx (pre++[x]) G' W'/\Bod W.heap.size B G G' W1 W')) ->
  J [] G0 W ->
  CallsIn F n P g (#[.func (.yield l) #[] #[]]++lb) W λe W'=>(∃v,e=.returned v)/\((∃xs G,S xs/\J xs G W')\/(∃pre G,Sp pre/\Jx pre G W'))
def qfz{Y:Type}(n1 B:Nat)(G:Nat->Prop)(I:List Y->(Nat->Prop)->qgx->Prop)(Ix:qje->List Y->(Nat->Prop)->qgx->Prop)(xs:List Y)(W:qgx):Exit->Act->qgx->Prop
 | .normal,_,W'=>∃G',Bod n1 B G G' W W'/\I xs G' W'
 | .ret,_,W'=>∃G',Bod n1 B G G' W W'/\Ix .ret xs G' W'
 | .exit id,_,W'=>∃G',Bod n1 B G G' W W'/\Ix (.exit id) xs G' W'
 | .goto t,_,W'=>∃G',Bod n1 B G G' W W'/\Ix (.goto t) xs G' W'
 | .panic _,_,_=>False
 | .outgrown,_,_=>False
theorem kA{n1 B:Nat}{G:Nat->Prop}{A:qgx}{l:Nat}(o:Obj)(h1:n1<=l)(h2:¬ G l):Stp n1 B G A (A.putObj l o) :=
 have hg:=qkn A l o
 ⟨hg.os,hg.tape,hg.output,hg.size,λk hk hc=>hg.block k hk (by
  intro e;cases e;rcases hc with h | h
  ·omega
  ·exact h2 h)⟩
theorem vw{Y:Type}{g:qhE}{ps:Array Tmp}{assign body:qje}{Q:Exit->Act->qgx->Prop}{a:Act}{w:qgx}(hro:F.round=none)(h1:1<=n){gf:Nat}{lb:Array qgB}(hg:a.eval g=.func (.func gf) #[] lb)(l8:F.fn gf)(eg:∀args w,(callFunc gf args).run P w=.ok (.enter gf args) w){d5:Y->Array qgB}{Xp:Y->qgx->Prop}{S Sp:List Y->Prop}{B:Nat}{w0:qgx}(g6:qgi F (n - 1) P gf lb d5 Xp S Sp B w0)(h9:Below w0.heap.size w0 w)(hps:∀x,(d5 x).size=ps.size){G0:Nat->Prop}(hB:¬ G0 B)(m3:B<w.heap.size)(hX:∀x A l o o',A.heap[l]?=some o->o.isCells=false->Xp x A->Xp x (A.putObj l o'))(I:List Y->(Nat->Prop)->qgx->Prop)(Ix:qje->List Y->(Nat->Prop)->qgx->Prop)(d9:∀s G A,I s G A->∀k,G k->k<A.heap.size)(hI:∀s G A C,I s G A->Stp w.heap.size B G A C->I s G C)(e5:∀c s G A C,Ix c s G A->Stp w.heap.size B G A C->Ix c s G C)(h0:I [] G0 w)(a₁:Y->Act)(e4:∀(l:Nat) (x:Y) (W:qgx) (K:Act->qgx->Prop),K (a₁ x) W ->assign.wpIn (F.inRound l) (n - 1 - 1) P (Exit.then K (λ_ _ _=>False)) { tmps:=(ps.zip (d5 x)).foldl (λt (p,v)=>t.setIfInBounds p v) a.tmps,defers:=[] } W)(hbody:∀(l:Nat) (pre:List Y) (G:Nat->Prop) (x:Y) (W:qgx),I pre G W->Xp x W->Sp (pre++[x])->body.wpIn (F.inRound l) (n - 1 - 1) P (qfz w.heap.size B G I Ix (pre++[x]) W) (a₁ x) W)(hdone:∀(D:Nat) (xs:List Y) (G:Nat->Prop) (W:qgx),w.heap.size<=D->S xs->I xs G W->W.heap[D]?=some (.deferred (some []))->¬ G D->Q .normal { a with defers:={ target:=.collected D,args:=#[] }::a.defers } W)(hstop:∀(D:Nat) (c:qje) (pre:List Y) (G:Nat->Prop) (W:qgx),w.heap.size<=D->Sp pre->Ix c pre G W->W.heap[D]?=some (.deferred (some []))->¬ G D->c.wpIn F n P Q { a with defers:={ target:=.collected D,args:=#[] }::a.defers } W) :(Code.rangeFunc g ps assign body).wpIn F n P Q a w:=by
 refine wpIn_rangeFunc ?_;intro fn hfn;rw[hro];obtain⟨a6,a7⟩:∃a6:LoopState->Option qje->Loop,a6=λst pe=>{ state:=st,pending:=pe,fn,tmps:=a.tmps,params:=ps,assign,body,defers:=w.heap.size }:=⟨_,rfl⟩;obtain⟨W1,d8⟩:∃W1,(w.alloc (.deferred (some []))).alloc (.loop (a6 .ready none))=W1:=⟨_,rfl⟩;have hL1:W1.heap[w.heap.size+1]?=some (.loop (a6 .ready none)):=by
  rw[<- d8];have:=qpl (w.alloc (.deferred (some []))) (.loop (a6 .ready none));rwa [qh6] at this
 have l6:W1.heap[w.heap.size]?=some (.deferred (some [])):=by
  rw[<- d8];exact(Below.heap_alloc _ _ _ (by simp)).trans (qpl w _)
 have l9:W1.heap.size=w.heap.size+2:=by rw[<- d8];simp
 have g5:Stp w.heap.size B G0 w W1:=by
  have h:=(qgw w (.deferred (some [])) none).trans (qgw _ (.loop (a6 .ready none)) none);rw[d8] at h;exact⟨h.os,h.tape,h.output,h.size,λk hk _=>h.block k hk (by simp)⟩
 have l7:I [] G0 W1:=hI _ _ _ _ h0 g5;have k8:¬ G0 w.heap.size:=λh=>by have:=d9 _ _ _ h0 _ h;omega
 have k7:¬ G0 (w.heap.size+1):=λh=>by have:=d9 _ _ _ h0 _ h;omega
 have hb1:Below w0.heap.size w0 W1:=by
  rw[<- d8];exact h9.trans ((((qn2 _ w).alloc (qgA _) _).alloc (by simp) _).mono h9.size)
 refine⟨w.heap.size+1,[{ target:=.collected w.heap.size,args:=#[] }],W1,{ target:=.fn (.func gf) lb,args:=#[.func (.yield (w.heap.size+1)) #[] #[]] },W1,gf,
  #[.func (.yield (w.heap.size+1)) #[] #[]]++lb,W1,?_,?_,?_,?_,λ_=>h1,?_⟩
 ·rw[<- d8,a7];exact run_enterLoop_outer _ _ _ _ _
 ·simp only[resolve,hg];simp[go_sem]
 ·intro f' h8;simp[Target.leads] at h8;subst h8;exact l8
 ·simp[invoke,go_sem,eg]
 ·have b0:∀(G:Nat->Prop) (A C:qgx),Stp W1.heap.size B G A C->w.heap.size+2<=A.heap.size->C.heap[w.heap.size+1]?=A.heap[w.heap.size+1]?/\C.heap[w.heap.size]?=A.heap[w.heap.size]?:=λG A C h hA=>
   ⟨h.keep _ (by omega) (.inl ⟨by omega,by omega⟩),h.keep _ (by omega) (.inl ⟨by omega,by omega⟩)⟩
  refine(g6 (w.heap.size+1)
   (λpre G W=>(I pre G W/\w.heap.size+2<=W.heap.size/\¬ G w.heap.size/\¬ G (w.heap.size+1))/\W.heap[w.heap.size+1]?=some (.loop (a6 .ready none))/\W.heap[w.heap.size]?=some (.deferred (some [])))
   (λpre G W=>∃c,(Ix c pre G W/\w.heap.size+2<=W.heap.size/\¬ G w.heap.size/\¬ G (w.heap.size+1))/\W.heap[w.heap.size+1]?=some (.loop (a6 .done (some c)))/\W.heap[w.heap.size]?=some (.deferred (some [])))
   G0 W1 hb1 hB (λs G A hs=>d9 s G A hs.1.1)
   (λs G A C hs h=>⟨⟨hI s G A C hs.1.1 (h.mono (by omega)),qh0 hs.1.2.1 h.size,hs.1.2.2.1,hs.1.2.2.2⟩,(b0 G A C h hs.1.2.1).1.trans hs.2.1,(b0 G A C h hs.1.2.1).2.trans hs.2.2⟩)
   (λs G A C hs h=>by
    obtain⟨c,hc,hl,hk⟩:=hs;exact⟨c,⟨e5 c s G A C hc.1 (h.mono (by omega)),qh0 hc.2.1 h.size,hc.2.2.1,hc.2.2.2⟩,(b0 G A C h hc.2.1).1.trans hl,(b0 G A C h hc.2.1).2.trans hk⟩)
   ?_ ⟨⟨l7,by omega,k8,k7⟩,hL1,l6⟩).mono ?_
  ·-- ONE ROUND
   rintro pre G x W ⟨⟨hi,hsz,d6,b6⟩,hl,hk⟩ hx hsp;have hlt:w.heap.size+1<W.heap.size:=(qgy.1 hl).1;have hy:=run_yield (P:=P) (args:=d5 x) hl (by rw[a7];exact hps x);rw[a7] at hy;refine⟨fn,_,assign,body,hy,roundIn_of_wpIn hfn (e4 _ x W _ ⟨_,run_beginRound hl (by rw[a7]),?_⟩)⟩;obtain⟨Wb,d7⟩:∃Wb,W.putObj (w.heap.size+1) (.loop { a6 .ready none with state:=.busy })=Wb:=⟨_,rfl⟩;have hl2:Wb.heap[w.heap.size+1]?=some (.loop { a6 .ready none with state:=.busy }):=by rw[<- d7];exact qm2 hlt
   have l4:Wb.heap[w.heap.size]?=some (.deferred (some [])):=by rw[<- d7];exact(qlC (by omega)).trans hk
   have e6:Stp w.heap.size B G W Wb:=by rw[<- d7];exact kA _ (by omega) b6
   have hgb:W.grownBy Wb (some (w.heap.size+1)):=by rw[<- d7];exact qkn _ _ _
   have k6:Xp x Wb:=by rw[<- d7];exact hX x W _ _ _ hl rfl hx
   rw[d7];have e9:w.heap.size+2<=Wb.heap.size:=qh0 hsz e6.size;refine wpIn_mono (hbody _ pre G x _ (hI _ _ _ _ hi e6) k6 hsp) ?_;have k5:Bod W1.heap.size B G G W Wb:=⟨hgb.tape,hgb.size,λk hk' hn _=>hgb.block k hk' (by intro e;cases e;rcases hn with h | h<;>omega),λk hk'=>.inl hk'⟩;have fin:∀(jump:Option qje) (G3:Nat->Prop) (W3:qgx),Bod w.heap.size B G G3 Wb W3 ->
     (qjG (w.heap.size+1) jump).run P W3=.ok (.bool jump.isNone) (W3.putObj (w.heap.size+1) (.loop (a6 (if jump.isNone then .ready else .done) jump))) /\
     (W3.putObj (w.heap.size+1) (.loop (a6 (if jump.isNone then .ready else .done) jump))).heap[w.heap.size+1]?=some (.loop (a6 (if jump.isNone then .ready else .done) jump)) /\
     (W3.putObj (w.heap.size+1) (.loop (a6 (if jump.isNone then .ready else .done) jump))).heap[w.heap.size]?=some (.deferred (some [])) /\
     Stp w.heap.size B G3 W3 (W3.putObj (w.heap.size+1) (.loop (a6 (if jump.isNone then .ready else .done) jump))) /\
     Bod W1.heap.size B G G3 W (W3.putObj (w.heap.size+1) (.loop (a6 (if jump.isNone then .ready else .done) jump))) /\
     w.heap.size+2<=(W3.putObj (w.heap.size+1) (.loop (a6 (if jump.isNone then .ready else .done) jump))).heap.size /\
     ¬ G3 w.heap.size/\¬ G3 (w.heap.size+1):=λjump G3 W3 a8=>by
    have g9:=(a8.keep (w.heap.size+1) (by omega) (.inl (by omega)) b6).trans hl2;have k9:=(a8.keep w.heap.size (by omega) (.inl (by omega)) d6).trans l4;have g8:¬ G3 (w.heap.size+1):=λe=>(a8.fp _ e).elim b6 (by omega);have g7:¬ G3 w.heap.size:=λe=>(a8.fp _ e).elim d6 (by omega);have e7:Stp w.heap.size B G3 W3 (W3.putObj (w.heap.size+1) (.loop (a6 (if jump.isNone then .ready else .done) jump))):=kA _ (by omega) g8;have e8:W3.grownBy (W3.putObj (w.heap.size+1) (.loop (a6 (if jump.isNone then .ready else .done) jump))) (some (w.heap.size+1)):=qkn _ _ _;have k0:Bod W1.heap.size B G3 G3 W3 (W3.putObj (w.heap.size+1) (.loop (a6 (if jump.isNone then .ready else .done) jump))):=⟨e8.tape,e8.size,λk hk' hn _=>e8.block k hk' (by intro e;cases e;rcases hn with h | h<;>omega),λk hk'=>.inl hk'⟩;have:=run_endRound (P:=P) jump g9;rw[a7] at this;refine⟨by rw[a7];exact this,qm2 (qgy.1 g9).1,(qlC (by omega)).trans k9,e7,(k5.trans (a8.mono (by omega))).trans k0,qh0 e9 (qh0 a8.size e7.size),g7,g8⟩
   rintro e a3 W3 hp;cases e with
   | normal=>
    obtain⟨G3,a8,b9⟩:=hp;obtain⟨hr,b7,b8,hst,c9,a9,c8,c3⟩:=fin none G3 W3 a8;exact⟨_,_,hr,G3,.inl ⟨rfl,⟨⟨hI _ _ _ _ b9 hst,a9,c8,c3⟩,b7,b8⟩,c9⟩⟩
   | ret=>
    obtain⟨G3,a8,b9⟩:=hp;obtain⟨hr,b7,b8,hst,c9,a9,c8,c3⟩:=fin (some .ret) G3 W3 a8;exact⟨_,_,hr,G3,.inr ⟨rfl,⟨.ret,⟨e5 _ _ _ _ _ b9 hst,a9,c8,c3⟩,b7,b8⟩,c9⟩⟩
   | exit id=>
    obtain⟨G3,a8,b9⟩:=hp;obtain⟨hr,b7,b8,hst,c9,a9,c8,c3⟩:=fin (some (.exit id)) G3 W3 a8;exact⟨_,_,hr,G3,.inr ⟨rfl,⟨.exit id,⟨e5 _ _ _ _ _ b9 hst,a9,c8,c3⟩,b7,b8⟩,c9⟩⟩
   | goto t=>
    obtain⟨G3,a8,b9⟩:=hp;obtain⟨hr,b7,b8,hst,c9,a9,c8,c3⟩:=fin (some (.goto t)) G3 W3 a8;exact⟨_,_,hr,G3,.inr ⟨rfl,⟨.goto t,⟨e5 _ _ _ _ _ b9 hst,a9,c8,c3⟩,b7,b8⟩,c9⟩⟩
   | panic ch=>exact hp.elim
   | outgrown=>exact hp.elim
  ·-- BEHIND THE ITERATOR
   rintro e W2 ⟨⟨v,rfl⟩,(⟨xs,G,hS,⟨hi,hsz,d6,b6⟩,hl,hk⟩ | ⟨pre,G,l5,c,⟨hi,hsz,d6,b6⟩,hl,hk⟩)⟩
   ·refine⟨none,_,by have:=run_endLoop (P:=P) hl (by rw[a7];simp);rw[a7] at this;exact this,hdone _ xs G _ (qgA _) hS (hI _ _ _ _ hi (kA _ (by omega) b6)) ((qlC (by omega)).trans hk) d6⟩
   ·refine⟨some c,_,by have:=run_endLoop (P:=P) hl (by rw[a7];simp);rw[a7] at this;exact this,hstop _ c pre G _ (qgA _) l5 (e5 c _ _ _ _ hi (kA _ (by omega) b6)) ((qlC (by omega)).trans hk) d6⟩
end
end
end Go
namespace Go.Proofs.YtidgnkmjgioapaaGreat
section
open Go.RowKit
theorem qc1:∀m:Fin 32,∀n:Fin 5,m.1.testBit n.1=false->bits .andNot .u8 ((m.1 ||| 2 ^ n.1:Nat):Int) ((2 ^ n.1:Nat):Int)=(m.1:Int):=by decide
theorem q99{m n:Nat}(hm:m<32)(hn:n<5)(h:m.testBit n=false):bits .andNot .u8 ((m ||| 2 ^ n:Nat):Int) ((2 ^ n:Nat):Int)=(m:Int):=qc1 ⟨m,hm⟩ ⟨n,hn⟩ h
def Popped(Bn Bu:Nat)(g:Option qi5)(k cap m:Nat)(w w':qgx):Prop :=
 w'.os=w.os/\w'.tape=w.tape/\w'.output=w.output/\w'.heap=((w.setCell Bn (.slice g k cap)).setCell Bu (.int .u8 m)).heap
theorem qd0(Bn Bu Bx:Nat)(g:Option qi5)(k cap m n:Nat)(w:qgx)(a7:n<5)(hm:m<32)(hb:m.testBit n=false)(hk:k<1000000)(b7:k+1<=cap)(hne:Bn≠Bu)(a9:Bn≠Bx)(h1:w.heap[Bn]?=some (.cells #[.slice g (k+1) cap] 29 (0,0)))(h2:w.heap[Bu]?=some (.cells #[.int .u8 (m ||| 2 ^ n:Nat)] 130 (0,0)))(h3:w.heap[Bx]?=some (.cells #[n] 3 (0,0)))(u:FrameMode) :CallsD Ya 152 #[.pointer (some Bn),.pointer (some Bu),.pointer (some Bx)] u w λe u' w'=>u'=u/\e=.returned (.tuple #[]) /\Popped Bn Bu g k cap m w w':=by
 have c1:w.cell? Bn=some (.slice g (k+1) cap):=q8 (o:=0) h1 rfl;have c2:w.cell? Bu=some (.int .u8 (m ||| 2 ^ n:Nat)):=q8 (o:=0) h2 rfl;have c3:w.cell? Bx=some (.int .i64 n):=q8 (o:=0) h3 rfl;have z1:=qm (o:=0) h1;have z2:=qm (o:=0) h2;have a8:=q99 hm a7 hb;have b8:IntKind.i64.wrap ((k:Int)+1 - 1)=(k:Int):=by rw[show(k:Int)+1 - 1=k by omega];exact qhp _ (by omega)
 have b0:IntKind.i64.wrap (k:Int)=(k:Int):=qhp _ (by omega);have b9:(k:Int)<=(cap:Int):=by omega
 have b6:Bu≠Bn:=λe=>hne e.symm;clear h1 h2 h3;refine callsD_of_wp (R:=λe w'=>e=.returned (.tuple #[])/\Popped Bn Bu g k cap m w w') Tp.x152 rfl ?_;simp only[Tryz.ntmps152,qhn,qh3,qhc,qhk,qii,qhq,qhr,qhC,qkh,qho,qhe];generalize hM:((m ||| 2 ^ n:Nat):Int)=M at c2 a8;generalize hN:((2 ^ n:Nat):Int)=N2 at a8;have ⟨HN,HM⟩:=qH hN hM;clear hN hM;have hk:∀(W:qgx) (x:qgB),(W.cell? Bu=some (.int .u8 M)/\W.cell? Bx=some (.int .i64 n))->((W.setCell Bn x).cell? Bu=some (.int .u8 M)/\(W.setCell Bn x).cell? Bx=some (.int .i64 n)):=λW x h=>
  ⟨by rw[qiD _ _ _ _ (λe=>hne (congrArg qog e))];exact h.1,by rw[qiD _ _ _ _ (λe=>a9 (congrArg qog e))];exact h.2⟩
 have HK:=qgv hk;clear hk;go_wp2_with (fail);refine qJ 10 (λw'=>w'.cell? Bu=some (.int .u8 M)/\w'.cell? Bx=some (.int .i64 n)) (by kernel_rfl) (by kernel_rfl) ⟨c2,c3⟩ (λa6=>?_);simp only[qh3,qhc,qhk,qii,qhf,qhq,qhr,qhC,qho,qhe];refine tk 5 (h:=tk 6 (h:=?_));try go_frame
 refine rdy [0,1,7] ?_;refine cns 0 (λK hK=>?_) ?_
 ·skip;go_simp;refine hK.out _ _ (by first | exact a6 | exact HK.out _ _ a6) (λa6=>?_);try go_frame
  refine rdy [1,7] ?_;refine cns 1 (λK hK=>?_) ?_
  ·skip;go_simp;refine hK.out _ _ (by first | exact a6 | exact HK.out _ _ a6) (λa6=>?_);refine tk 2 (h:=tk 3 (h:=tk 4 (h:=?_)));try go_frame
   refine rdc 7 λK hK=>?_;go_simp;go_at_call 153;refine(xB n _ a7).mono ?_;rintro e w2 ⟨rfl,rfl⟩;rw[HN.out];refine hK.out _ _ (by first | exact a6 | exact HK.out _ _ a6) (λa6=>?_);refine tk 8 (h:=?_);try go_frame
   refine rdc 9 λK hK=>?_;go_simp;refine hK.out _ _ (by first | exact a6 | exact HK.out _ _ a6) (λa6=>?_);try go_frame
   refine⟨by kernel_rfl,?_⟩;simp only[qhu,qia];go_wp2;go_end0;exact⟨rfl,rfl,rfl,rfl,rfl⟩
  refine cns 7 (λK hK=>?_) ?_
  ·skip;go_simp;go_at_call 153;refine(xB n _ a7).mono ?_;rintro e w2 ⟨rfl,rfl⟩;rw[HN.out];refine hK.out _ _ (by first | exact a6 | exact HK.out _ _ a6) (λa6=>?_);refine tk 8 (h:=?_);try go_frame
   refine rdc 1 λK hK=>?_;go_simp;refine hK.out _ _ (by first | exact a6 | exact HK.out _ _ a6) (λa6=>?_);refine tk 2 (h:=tk 3 (h:=tk 4 (h:=?_)));try go_frame
   refine rdc 9 λK hK=>?_;go_simp;refine hK.out _ _ (by first | exact a6 | exact HK.out _ _ a6) (λa6=>?_);try go_frame
   refine⟨by kernel_rfl,?_⟩;simp only[qhu,qia];go_wp2;go_end0;exact⟨rfl,rfl,rfl,rfl,rfl⟩
  exact qU.nil
 refine cns 1 (λK hK=>?_) ?_
 ·skip;go_simp;refine hK.out _ _ (by first | exact a6 | exact HK.out _ _ a6) (λa6=>?_);refine tk 2 (h:=tk 3 (h:=?_));try go_frame
  refine rdy [0,7] ?_;refine cns 0 (λK hK=>?_) ?_
  ·skip;go_simp;refine hK.out _ _ (by first | exact a6 | exact HK.out _ _ a6) (λa6=>?_);refine tk 4 (h:=?_);try go_frame
   refine rdc 7 λK hK=>?_;go_simp;go_at_call 153;refine(xB n _ a7).mono ?_;rintro e w2 ⟨rfl,rfl⟩;rw[HN.out];refine hK.out _ _ (by first | exact a6 | exact HK.out _ _ a6) (λa6=>?_);refine tk 8 (h:=?_);try go_frame
   refine rdc 9 λK hK=>?_;go_simp;refine hK.out _ _ (by first | exact a6 | exact HK.out _ _ a6) (λa6=>?_);try go_frame
   refine⟨by kernel_rfl,?_⟩;simp only[qhu,qia];go_wp2;go_end0;exact⟨rfl,rfl,rfl,rfl,rfl⟩
  refine cns 7 (λK hK=>?_) ?_
  ·skip;go_simp;go_at_call 153;refine(xB n _ a7).mono ?_;rintro e w2 ⟨rfl,rfl⟩;rw[HN.out];refine hK.out _ _ (by first | exact a6 | exact HK.out _ _ a6) (λa6=>?_);refine tk 8 (h:=?_);try go_frame
   refine rdc 0 λK hK=>?_;go_simp;refine hK.out _ _ (by first | exact a6 | exact HK.out _ _ a6) (λa6=>?_);refine tk 4 (h:=?_);try go_frame
   refine rdc 9 λK hK=>?_;go_simp;refine hK.out _ _ (by first | exact a6 | exact HK.out _ _ a6) (λa6=>?_);try go_frame
   refine⟨by kernel_rfl,?_⟩;simp only[qhu,qia];go_wp2;go_end0;exact⟨rfl,rfl,rfl,rfl,rfl⟩
  exact qU.nil
 refine cns 7 (λK hK=>?_) ?_
 ·skip;go_simp;go_at_call 153;refine(xB n _ a7).mono ?_;rintro e w2 ⟨rfl,rfl⟩;rw[HN.out];refine hK.out _ _ (by first | exact a6 | exact HK.out _ _ a6) (λa6=>?_);refine tk 8 (h:=?_);try go_frame
  refine rdy [0,1] ?_;refine cns 0 (λK hK=>?_) ?_
  ·skip;go_simp;refine hK.out _ _ (by first | exact a6 | exact HK.out _ _ a6) (λa6=>?_);refine rdc 1 λK hK=>?_;go_simp;refine hK.out _ _ (by first | exact a6 | exact HK.out _ _ a6) (λa6=>?_);refine tk 2 (h:=tk 3 (h:=tk 4 (h:=?_)));try go_frame
   refine rdc 9 λK hK=>?_;go_simp;refine hK.out _ _ (by first | exact a6 | exact HK.out _ _ a6) (λa6=>?_);try go_frame
   refine⟨by kernel_rfl,?_⟩;simp only[qhu,qia];go_wp2;go_end0;exact⟨rfl,rfl,rfl,rfl,rfl⟩
  refine cns 1 (λK hK=>?_) ?_
  ·skip;go_simp;refine hK.out _ _ (by first | exact a6 | exact HK.out _ _ a6) (λa6=>?_);refine tk 2 (h:=tk 3 (h:=?_));try go_frame
   refine rdc 0 λK hK=>?_;go_simp;refine hK.out _ _ (by first | exact a6 | exact HK.out _ _ a6) (λa6=>?_);refine tk 4 (h:=?_);try go_frame
   refine rdc 9 λK hK=>?_;go_simp;refine hK.out _ _ (by first | exact a6 | exact HK.out _ _ a6) (λa6=>?_);try go_frame
   refine⟨by kernel_rfl,?_⟩;simp only[qhu,qia];go_wp2;go_end0;exact⟨rfl,rfl,rfl,rfl,rfl⟩
  exact qU.nil
 exact qU.nil
def RowsIn(lo hi:Nat)(w:qgx)(v:qgB)(L:List (List Int)):Prop :=
 ∃base cap,v=.slice base L.length cap/\(L.length:Int)<=1000000 /\
  (L≠[]->∃B o cs fr,base=some ⟨B,o,none⟩/\lo<=B/\B<hi/\w.heap[B]?=some (.cells cs 29 fr) /\
   ∀i,i<L.length->∃l x,L[i]?=some l/\cs[o+i]?=some x/\qf lo hi w x l)
theorem RowsIn.kept{lo hi:Nat}{w w':qgx}{v:qgB}{L:List (List Int)}{row:Option Nat}(h:RowsIn lo hi w v L)(hg:w.grownBy w' row)(hr:∀R,row=some R->R<lo\/hi<=R:=by simp):RowsIn lo hi w' v L:=by
 obtain⟨base,cap,rfl,hl,hr'⟩:=h;refine⟨base,cap,rfl,hl,λhne=>?_⟩;obtain⟨B,o,cs,fr,e1,e2,e3,e4,e5⟩:=hr' hne;refine⟨B,o,cs,fr,e1,e2,e3,blk hg (λe=>by have:=hr B e.symm;omega) e4,λi hi=>?_⟩;obtain⟨l,x,h1,h2,h3⟩:=e5 i hi;exact⟨l,x,h1,h2,h3.kept hg hr⟩
theorem RowsIn.mono{lo hi lo' a6:Nat}{w:qgx}{v:qgB}{L:List (List Int)}(h:RowsIn lo hi w v L)(h1:lo'<=lo)(h2:hi<=a6):RowsIn lo' a6 w v L:=by
 obtain⟨base,cap,rfl,hl,hr⟩:=h;refine⟨base,cap,rfl,hl,λhne=>?_⟩;obtain⟨B,o,cs,fr,e1,e2,e3,e4,e5⟩:=hr hne;refine⟨B,o,cs,fr,e1,by omega,by omega,e4,λi hi=>?_⟩;obtain⟨l,x,h3,h4,h5⟩:=e5 i hi;exact⟨l,x,h3,h4,h5.mono h1 h2⟩
theorem RowsIn.cell{lo hi:Nat}{w:qgx}{v:qgB}{L:List (List Int)}(h:RowsIn lo hi w v L):∃base cap,v=.slice base L.length cap/\(L.length:Int)<=1000000 /\(L≠[]->∃B o,base=some ⟨B,o,none⟩/\lo<=B/\B<hi/\B<w.heap.size/\∀i,i<L.length->∃l x,L[i]?=some l/\w.cell? ⟨B,o+i,none⟩=some x/\qf lo hi w x l):=by
 obtain⟨base,cap,rfl,hl,hr'⟩:=h;refine⟨base,cap,rfl,hl,λhne=>?_⟩;obtain⟨B,o,cs,fr,e1,e2,e3,e4,e5⟩:=hr' hne;refine⟨B,o,e1,e2,e3,(qgy.1 e4).1,λi hi=>?_⟩;obtain⟨l,x,h1,h2,h3⟩:=e5 i hi;exact⟨l,x,h1,by simp[qhs,e4,h2],h3⟩
theorem q2g(la ha lb hb:Nat)(va vb:qgB)(a b:List (List Int))(w:qgx)(hA:RowsIn la ha w va a)(hB:RowsIn lb hb w vb b) :qhw Ya 65 #[va,vb] w λe w'=>e=.returned (.bool (decide (a=b)))/\w.grownBy w' none:=by
 obtain⟨ba,ca,rfl,c3,h1⟩:=hA.cell;obtain⟨bb,cb,rfl,hl2,h2⟩:=hB.cell;have ⟨H1,H2⟩:=qH h1 h2;clear h1 h2 hA hB;by_cases hlen:a.length=b.length
 ·have HL:=qgv hlen;have a8:((a.length:Int) != (b.length:Int))=false:=by rw[hlen];simp
  clear hlen;go_enter Tp.x65,Tryz.ntmps65;go_wp2;go_loopw [5] (λiv wr=>∃k:Nat,iv=.int .i64 k/\k<=a.length/\(∀i,i<k->a[i]?=b[i]?)/\w.grownBy wr none) (λiv _=>(a.length - qi9 iv).toNat)
  case atStart=>exact⟨0,rfl,by omega,λi hi=>absurd hi (by omega),qh1 _ _⟩
  case round=>
   obtain⟨k,rfl,hk,hok,hG⟩:=hrel;have ⟨HOK,HG⟩:=qH hok hG;clear hok;by_cases hlt:k<a.length
   ·have a7:k<b.length:=by have:=HL.out;omega
    obtain⟨A1,o1,rfl,e4,d9,d8,b8⟩:=H1.out (by intro e;rw[e] at hlt;simp at hlt);obtain⟨B1,o2,rfl,d7,d6,d5,b7⟩:=H2.out (by intro e;rw[e] at a7;simp at a7);obtain⟨p,x,e1,b6,hx⟩:=b8 k hlt;obtain⟨q,y,e2,b0,hy⟩:=b7 k a7;have x1:=hG.cl b6;have y1:=hG.cl b0;have c8:(k:Int)<(b.length:Int):=by omega
    have c9:(k:Int)<(a.length:Int):=by omega
    have ⟨E1,E2⟩:=qH e1 e2;have HX:=qgv (hx.kept hG);have HY:=qgv (hy.kept hG);obtain⟨xb,xc,rfl,-,-⟩:=hx.cell;obtain⟨yb,yc,rfl,-,-⟩:=hy.cell;have SC:=qgv (qhb x1 y1);clear b8 b7 hG e1 e2 b6 b0 hx hy;go_upto_region 6 with(fail);go_region_held3 (λw'=>w'.cell? ⟨A1,o1+k,none⟩=some (.slice xb p.length xc)/\w'.cell? ⟨B1,o2+k,none⟩=some (.slice yb q.length yc))
     (first | exact SC.out)
     (first
      | (go_at_call 31;refine(km _ _ _ _ _ _ p q _ (by first | exact HX.out | exact HX.out.kept (qc _ none)) (by first | exact HY.out | exact HY.out.kept (qc _ none))).mono ?_;rintro e w5 ⟨rfl,hg⟩;have HT:=qgv (show wr.grownBy w5 none by first | exact hg | exact(qc _ _).trans hg);replace SC:=qgv (qhb (HT.out.cl SC.out.1) (HT.out.cl SC.out.2));clear hg))
    all_goals
     rename_i a9
     clear a9
    all_goals
     by_cases a6:p=q
     ·have hd:decide (p=q)=true:=by simpa using a6
      have b9:=qgv a6;clear a6;rw[hd];clear hd;go_wp2;go_roundw
      case rel=>
       refine⟨k+1,by simp,by omega,λi hi=>?_,HG.out.trans HT.out⟩;by_cases e:i=k
       ·rw[e,E1.out,E2.out,b9.out]
       ·exact HOK.out i (by omega)
      case measure=>simp[qi9];omega
     ·have hd:decide (p=q)=false:=by simpa using a6
      have HR:=qgv (show decide (a=b)=false by
       rw[decide_eq_false_iff_not];intro e;have h1:=E1.out;rw[e,E2.out] at h1;exact a6 (by cases h1;rfl))
      clear a6;rw[hd];clear hd;go_wp2;go_ret;exact⟨by rw[HR.out];rfl,HG.out.trans HT.out⟩
   ·obtain rfl:k=a.length:=by omega
    have HR:=qgv (show decide (a=b)=true by
     rw[decide_eq_true_eq];refine qls λi=>?_;by_cases hi:i<a.length
     ·exact HOK.out i hi
     ·rw[qi8 (by omega),qi8 (by have:=HL.out;omega)])
    clear hG;go_wp2;go_ret;exact⟨by rw[HR.out];rfl,HG.out⟩
 ·have HR:=qgv (show decide (a=b)=false by
   rw[decide_eq_false_iff_not];intro e;exact hlen (by rw[e]))
  have a8:((a.length:Int) != (b.length:Int))=true:=by simp;omega
  clear hlen;go_enter Tp.x65,Tryz.ntmps65;go_wp2;go_ret;exact⟨by rw[HR.out];rfl,qh1 _ _⟩
end
end Go.Proofs.YtidgnkmjgioapaaGreat
namespace Go
section
section
variable{l m:Nat}{P:qh2}{md:qkv}{ops:Array qiu}{Q:Exit->Act->qgx->Prop}
theorem Oper.wpIn_of_wp{o:qiu}{a:Act}{w:qgx}{K:Act->qgx->Prop}(hd:∀c,o.op≠.defer c)(h:o.wp P a w K Q):o.wpIn (Fence.wide.inRound l) m P a w K Q:=by
 refine⟨λf _=>trivial,?_⟩;rw[show o.semAt (Fence.wide.inRound l).round a.eval=qk3 a.eval o from Oper.semAt_some l _ _ hd];unfold Oper.wp at h;generalize (qk3 a.eval o).run P w=r at h ⊢;cases r with
 | ok x w'=>
  cases x with
  | enter f args=>exact⟨(λe=>(by cases e)),CallsIn.inRound l (qjt.2 h)⟩
  | row r args=>
   refine⟨(λe=>(by cases e)),λc cs _=>?_⟩;obtain⟨v,w2,h1,h2⟩:=h c cs;exact⟨v,w2,h1,stepsIn_wide.2 h2⟩
  | value v=>exact h
  | skip=>exact h
  | defer d=>exact h
  | _=>exact h.elim
 | halt x w'=>cases x<;>first | exact h | exact h.elim
theorem Yp(a6:¬ LetsOut Q)(hd:∀(i:Nat) (o:qiu),ops[i]?=some o->∀c,o.op≠.defer c){i:Nat}{K:Act->qgx->Prop}{a:Act}{w:qgx}(h:wpOp P ops Q i K a w):wpOpIn (Fence.wide.inRound l) m P ops Q i K a w:=by
 unfold wpOp at h;unfold wpOpIn;cases ho:ops[i]? with
 | none=>rw[ho] at h;exact h
 | some o=>
  rw[ho] at h;dsimp only at h ⊢;split
  ·rename_i hw
   rw[if_pos hw] at h;rcases h with h | h
   ·exact Oper.wpIn_of_wp (hd i o ho) h
   ·exact absurd h.2 a6
  ·rename_i hw
   rw[if_neg hw] at h;exact⟨λf _=>trivial,h⟩
theorem vx(a6:¬ LetsOut Q)(hd:∀(i:Nat) (o:qiu),ops[i]?=some o->∀c,o.op≠.defer c):∀(f:Nat) (listed:Array Bool) (a:Act) (w:qgx),wpAny P md ops Q f listed a w->wpAnyIn (Fence.wide.inRound l) m P md ops Q f listed a w
 | 0,listed,a,w,h=>h
 | f+1,listed,a,w,h=>⟨h.1,λi hi=>Yp a6 hd (wpOp_mono (λa' w' h'=>vx a6 hd f _ a' w' h') (h.2 i hi))⟩
def q6H(ops:List qiu):Bool:=ops.all λo=>match o.op with | .defer _=>false | _=>true
theorem q2d{ops:List qiu}(h:q6H ops=true)(i:Nat)(o:qiu)(ho:ops.toArray[i]?=some o):∀c,o.op≠.defer c:=by
 intro c;have:=qid.1 h o (by rw[qnn] at ho;exact qhg ho);intro e;rw[e] at this;cases this
theorem KI{id:Nat}{a:Act}{w:qgx}{os:List qiu}(a6:¬ LetsOut Q)(hd:q6H os=true)(n:Nat)(S:qgx->Prop)(hm:P.follows .mixedOrders=true)(hn:decide (n<=os.length)=true)(hS:S w.drew)(h:S w.drew->zG P .any os.toArray Q S n (λlisted a w=>qlE .any os.toArray (os.length - n) n listed=true/\wpList P os.toArray Q (os.drop n) a w) n (qi0 os.length false) a w.drew) :(Code.region id os.toArray true).wpIn (Fence.wide.inRound l) m P Q a w:=by
 have a7:n<=os.length:=by simpa using hn
 refine wpIn_region_any hm ?_;refine vx a6 (q2d hd) _ _ _ _ ?_;have:=jR (g:=os.length - n) (λlisted a w hL=>by
  have:=qqj (md:=.any) (Q':=Q) (ops:=os.toArray) (os.drop n) n listed a w (λj=>by simp[qli]) (by rw[qle];exact hL.1) hL.2
  rwa [qle] at this) _ _ _ _ (h hS)
 rw[show n+(os.length - n)=os.toArray.size by simp;omega] at this;simpa using this
end
end
end Go
namespace Go.Proofs.YtidgnkmjgioapaaGreat
section
open Go Go.Conc.Lib
abbrev link:Go.Conc.Lib.WgLink:={ add:=138,done:=140,wait:=144,relMerge:=166,disable:=167,enable:=168,inBubble:=169,associate:=170,fatal:=171,uOr:=172,uAdd:=173,raceRead:=174,uLoad:=175,uStore:=176,disassociate:=177,semrelease:=178,acquire:=183,isAssociated:=184,uCas:=185,raceWrite:=186,semacquire:=187,orU64:=201,addU64:=202,loadU64:=203,storeU64:=204,casU64:=205,tWgP:=184,tUP:=186,tAssoc:=187,tWg:=166,tAU:=164,tU64:=87,tUint:=177,tU32:=159,tPU32:=191,tPAU:=217,tPU64:=219,tNoCopy:=162,tANoCopy:=155,tAlign64:=156 }
theorem Yq:Go.Conc.Lib.WgLib qh5 link :=
 ⟨Tryz.func138,Tryz.func140,Tryz.func144,Tryz.func166,Tryz.func167,Tryz.func168,Tryz.func169,Tryz.func170,Tryz.func171,Tryz.func172,Tryz.func173,Tryz.func174,Tryz.func175,Tryz.func176,Tryz.func177,Tryz.func178,Tryz.func183,Tryz.func184,Tryz.func185,Tryz.func186,Tryz.func187,Tryz.func201,Tryz.func202,Tryz.func203,Tryz.func204,Tryz.func205,Tryz.underlying184,Tryz.runUnderlying184,Tryz.sizeOf184,Tryz.isAgg184,Tryz.zeroValue184,Tryz.underlying186,Tryz.runUnderlying186,Tryz.sizeOf186,Tryz.isAgg186,Tryz.zeroValue186,Tryz.underlying187,Tryz.runUnderlying187,Tryz.sizeOf187,Tryz.isAgg187,Tryz.zeroValue187,Tryz.underlying166,Tryz.runUnderlying166,Tryz.sizeOf166,Tryz.isAgg166,Tryz.zeroValue166,Tryz.underlying164,Tryz.runUnderlying164,Tryz.sizeOf164,Tryz.isAgg164,Tryz.zeroValue164,Tryz.underlying87,Tryz.runUnderlying87,Tryz.sizeOf87,Tryz.isAgg87,Tryz.zeroValue87,Tryz.underlying177,Tryz.runUnderlying177,Tryz.sizeOf177,Tryz.isAgg177,Tryz.zeroValue177,Tryz.underlying159,Tryz.runUnderlying159,Tryz.sizeOf159,Tryz.isAgg159,Tryz.zeroValue159,Tryz.underlying191,Tryz.runUnderlying191,Tryz.sizeOf191,Tryz.isAgg191,Tryz.zeroValue191,Tryz.underlying217,Tryz.runUnderlying217,Tryz.sizeOf217,Tryz.isAgg217,Tryz.zeroValue217,Tryz.underlying219,Tryz.runUnderlying219,Tryz.sizeOf219,Tryz.isAgg219,Tryz.zeroValue219,Tryz.underlying0,Tryz.runUnderlying0,Tryz.sizeOf0,Tryz.isAgg0,Tryz.zeroValue0,Tryz.underlying3,Tryz.runUnderlying3,Tryz.sizeOf3,Tryz.isAgg3,Tryz.zeroValue3,Tryz.underlying4,Tryz.runUnderlying4,Tryz.sizeOf4,Tryz.isAgg4,Tryz.zeroValue4,Tryz.underlying9,Tryz.runUnderlying9,Tryz.sizeOf9,Tryz.isAgg9,Tryz.zeroValue9,Tryz.underlying20,Tryz.runUnderlying20,Tryz.sizeOf20,Tryz.isAgg20,Tryz.zeroValue20,Tryz.underlying21,Tryz.runUnderlying21,Tryz.sizeOf21,Tryz.isAgg21,Tryz.zeroValue21,(by kernel_rfl),(by kernel_rfl)⟩
end
section
open Go.RowKit
theorem YOk.be{ps:List Par}{lim:Int}(h:YOk ps lim):∀p∈ps,0<=p.bears/\p.bears<=1000:=λp hp=>by
 have:=h.each p hp;omega
theorem q1h{w:qgx}{R Y o:Nat}{u v x:qgB}(hne:Y≠R)(h:w.cell? ⟨Y,o,none⟩=some x):((w.setCell R u).setCell ⟨R,1,none⟩ v).cell? ⟨Y,o,none⟩=some x:=by
 rw[qiD _ _ _ _ (λe=>hne (congrArg qog e).symm),qiD _ _ _ _ (λe=>hne (congrArg qog e).symm)];exact h
def Ze(ps:List Par)(l:List Int):qgB :=
 if zS ps (pre Par.mn ps ps.length) l l.length<0\/l.length=0 then .tuple #[.agg #[.int .i64 0,.int .i64 0],.int .i64 11]
 else .tuple #[.agg #[.int .i64 (max (-1) (zS ps (pre Par.mx ps ps.length) l l.length)),(zS ps (pre Par.mn ps ps.length) l l.length)],.int .i64 0]
theorem q7H(lo hi:Nat)(pv qv:qgB)(ps:List Par)(lim:Int)(l:List Int)(w:qgx)(hP:qn lo hi w pv ps)(hI:qf lo hi w qv l)(hhi:hi<=w.heap.size)(hok:YOk ps lim)(hp:POk ps lim l) :qhw Ya 36 #[.agg #[pv,lim],qv] w λe w'=>e=.returned (Ze ps l)/\w.grownBy w' none:=by
 obtain⟨yb,yc,rfl,k6,-⟩:=hP.cell;obtain⟨base,cap,rfl,k7,-⟩:=hI.cell;obtain⟨A,w1,hA,d6,b6,c9,e6,g8⟩:=zp w (.cells #[.slice yb ps.length yc,lim] 24) (.cells #[.int .i64 0,.int .i64 0] 26);have g5:=qgv (hI.kept b6);have e9:=qgv (hP.kept b6);have ⟨HW1,HA,HG1,HR1⟩:=zY d6 hA b6 e6;have q0:=q8 c9 (o:=0) rfl;have q1:=q8 c9 (o:=1) rfl;have k8:hi<=A:=by omega
 have ⟨HY,HPO⟩:=qH hok hp;clear hP hI hok hp d6 hA b6 c9 e6;go_enter Tp.x36,Tryz.ntmps36;go_upto_region 1 with(fail);rw[<- HA.out,<- HW1.out];go_upto_region 2 with(go_at_call 81;refine(xh lo hi _ _ ps lim l _ e9.out g5.out (by omega) HY.out HPO.out).mono ?_;rintro e w2 ⟨rfl,e7⟩;have HG2:=qgv e7;clear e7);have g7:=HG2.out.size;obtain⟨Y,b0⟩:∃Y,Y=w2.heap.size:=⟨_,rfl⟩;obtain⟨w3,a8⟩:∃w3,w3=w2.alloc (.cells #[.slice yb ps.length yc,lim] 91):=⟨_,rfl⟩;have a9:w2.grownBy w3 none:=by rw[a8];exact qgw _ _ none
 have e8:w3.heap[Y]?=some (.cells #[.slice yb ps.length yc,lim] 91 (0,0)):=by rw[a8,b0];exact qgF _ _
 have g6:w3.heap.size=Y+1:=by rw[a8,qh6,b0]
 rw[<- b0,<- a8];clear q0 q1;have HB3:=qgv e8;have HG3:=qgv ((HG1.out.trans HG2.out).trans a9);have HR3:=qgv (bk a9 (blk HG2.out (by simp) HR1.out));have k5:=qgv ((g5.out.kept HG2.out).kept a9);have k0:=qgv ((e9.out.kept HG2.out).kept a9);have k9:A+1<Y:=by omega
 have a6:hi<=w3.heap.size:=by omega
 clear a9 e8 a8 b0 g8 g7 g6;have s0:=q8 HB3.out (o:=0) rfl;have s1:=q8 HB3.out (o:=1) rfl;have s2:=q8 HR3.out (o:=0) rfl;have s3:=q8 HR3.out (o:=1) rfl;have z0:=qm (o:=0) HR3.out;have z1:=qm (o:=1) HR3.out;go_upto_region 4 with(fail);have HT:=qgv (qh1 w3 none);have d5:∀W,w3.grownBy W none->j5 lo hi W (.agg #[.slice yb ps.length yc,lim]) ps lim:=λW h=>⟨_,rfl,k0.out.kept h⟩;have d8:∀W,w3.grownBy W none->qf lo hi W (.slice base l.length cap) l:=λW h=>k5.out.kept h;have d7:∀W,w3.grownBy W none->W.cell? Y=some (.slice yb ps.length yc)/\W.cell? ⟨Y,1,none⟩=some (.int .i64 lim)/\W.cell? (A+1:Nat)=some (.int .i64 0)/\W.cell? ⟨A+1,1,none⟩=some (.int .i64 0)/\W.frozen? ⟨A+1,0,none⟩=false/\W.frozen? ⟨A+1,1,none⟩=false:=λW h=>
  ⟨q8 (bk h HB3.out) rfl,q8 (bk h HB3.out) rfl,q8 (bk h HR3.out) rfl,q8 (bk h HR3.out) rfl,qm (bk h HR3.out),qm (bk h HR3.out)⟩
 have ⟨HYR,HIR,HSR⟩:=z8 d5 d8 d7;clear d5 d8 d7;have SC:=qgv (HSR.out w3 (qh1 w3 none));obtain⟨gm,c3⟩:∃gm,gm=pre Par.mn ps ps.length:=⟨_,rfl⟩;obtain⟨gx,b9⟩:∃gx,gx=pre Par.mx ps ps.length:=⟨_,rfl⟩;have e4:∀i,0<=gm i/\gm i<=1000:=by rw[c3];exact HY.out.mn
 have d9:∀i,0<=gx i/\gx i<=1000:=by rw[b9];exact HY.out.mx
 have ⟨HGM,HGX,HBM,HBX⟩:=zY c3 b9 e4 d9;clear c3 b9 e4 d9;go_region_held3 (λw'=>w'.cell? Y=some (.slice yb ps.length yc)/\w'.cell? ⟨Y,1,none⟩=some (.int .i64 lim)/\w'.cell? (A+1:Nat)=some (.int .i64 0)/\w'.cell? ⟨A+1,1,none⟩=some (.int .i64 0)/\w'.frozen? ⟨A+1,0,none⟩=false/\w'.frozen? ⟨A+1,1,none⟩=false)
  (first | exact SC.out)
  (first
   | (go_at_call 93;refine(Qy lo hi _ ps lim _ (HYR.out _ (by first | exact HT.out | exact HT.out.trans (qc _ _))) (qh0 a6 (by first | exact HT.out.size | exact(HT.out.trans (qc _ none)).size)) HY.out.len).mono ?_;rintro e w5 ⟨rfl,hg⟩;rw[<- HGM.out];replace HT:=qgv (show w3.grownBy w5 none by first | exact HT.out.trans hg | exact(HT.out.trans (qc _ _)).trans hg);replace SC:=qgv (HSR.out w5 HT.out);clear hg)
   | (go_at_call 94;refine(q0C lo hi _ _ ps lim l _ _ (HYR.out _ (by first | exact HT.out | exact HT.out.trans (qc _ _))) (HIR.out _ (by first | exact HT.out | exact HT.out.trans (qc _ _))) (qh0 a6 (by first | exact HT.out.size | exact(HT.out.trans (qc _ none)).size)) HY.out.len HPO.out.ok (by have:=HPO.out.len;omega) (by first | exact HBM.out | exact HBX.out) HY.out.be).mono ?_;rintro e w5 ⟨rfl,hg⟩;replace HT:=qgv (show w3.grownBy w5 none by first | exact HT.out.trans hg | exact(HT.out.trans (qc _ _)).trans hg);replace SC:=qgv (HSR.out w5 HT.out);clear hg))
 have h9:=qgv (show w5.cell? Y=some (.slice yb ps.length yc)/\w5.cell? ⟨Y,1,none⟩=some (.int .i64 lim)/\w5.cell? (A+1:Nat)=some (.int .i64 0)/\w5.cell? ⟨A+1,1,none⟩=some (.int .i64 0)/\w5.frozen? ⟨A+1,0,none⟩=false/\w5.frozen? ⟨A+1,1,none⟩=false from SC.out);have HV:=qgv (show Ze ps l=if zS ps gm l l.length<0\/l.length=0 then .tuple #[.agg #[.int .i64 0,.int .i64 0],.int .i64 11] else .tuple #[.agg #[.int .i64 (max (-1) (zS ps gx l l.length)),(zS ps gm l l.length)],.int .i64 0] by rw[HGM.out,HGX.out];rfl);obtain⟨a,ha⟩:∃a,a=zS ps gm l l.length:=⟨_,rfl⟩;rw[<- ha] at HV ⊢;have l4:=qgv ha;clear ha
 rename_i c8
 clear c8;clear s0 s1 s2 s3 z0 z1;obtain⟨s0,s1,s2,s3,z0,z1⟩:=h9.out;have b7:∀(w':qgx),w5.grownBy w' (some (A+1))->w.grownBy w' none:=λw' h=>(HG3.out.trans HT.out).andThen h (λj e=>by cases e;left;rw[<- HA.out];omega);have b8:=qgv b7;clear b7;by_cases h1:a<0
 ·have hv:Ze ps l=.tuple #[.agg #[.int .i64 0,.int .i64 0],.int .i64 11]:=by rw[HV.out,if_pos (.inl h1)]
  have a7:=qgv hv;clear hv HV;go_wp2;refine qj8 (v:=.tuple #[.agg #[.int .i64 0,.int .i64 0],.int .i64 11]) ?_ rfl ⟨by rw[a7.out],b8.out _ ((qe _ _ _ _).trans (qe _ _ _ _))⟩;rw[qoy rfl];go_simp
 ·by_cases h2:l.length=0
  ·have hv:Ze ps l=.tuple #[.agg #[.int .i64 0,.int .i64 0],.int .i64 11]:=by rw[HV.out,if_pos (.inr h2)]
   have a7:=qgv hv;have g9:((l.length:Int) == 0)=true:=by simp[h2]
   clear hv HV h2;go_wp2;refine qj8 (v:=.tuple #[.agg #[.int .i64 0,.int .i64 0],.int .i64 11]) ?_ rfl ⟨by rw[a7.out],b8.out _ ((qe _ _ _ _).trans (qe _ _ _ _))⟩;rw[qoy rfl];go_simp
  ·have hv:Ze ps l=.tuple #[.agg #[.int .i64 (max (-1) (zS ps gx l l.length)),a],.int .i64 0]:=by rw[HV.out,if_neg (by rintro(h | h);exact h1 h;exact h2 h)]
   have a7:=qgv hv;have g9:((l.length:Int) == 0)=false:=by rw[beq_eq_false_iff_ne];omega
   have e5:Y≠A+1:=by omega
   clear hv HV h2;go_upto_region 7 with(fail);have SC:=qgv (HSR.out w5 HT.out);clear s2 s3 z0 z1;go_region_held3 (λw'=>w'.cell? Y=some (.slice yb ps.length yc)/\w'.cell? ⟨Y,1,none⟩=some (.int .i64 lim))
    (first | exact⟨SC.out.1,SC.out.2.1⟩ | exact⟨q1h e5 SC.out.1,q1h e5 SC.out.2.1⟩)
    (first
     | (go_at_call 92;refine(Qa lo hi _ ps lim _ (HYR.out _ (by first | exact HT.out | exact HT.out.trans (qc _ _))) (qh0 a6 (by first | exact HT.out.size | exact(HT.out.trans (qc _ none)).size)) HY.out.len).mono ?_;rintro e w6 ⟨rfl,hg⟩;rw[<- HGX.out];replace HT:=qgv (show w3.grownBy w6 none by first | exact HT.out.trans hg | exact(HT.out.trans (qc _ _)).trans hg);replace SC:=qgv (HSR.out w6 HT.out);clear hg)
     | (go_at_call 94;refine(q0C lo hi _ _ ps lim l _ _ (HYR.out _ (by first | exact HT.out | exact HT.out.trans (qc _ _))) (HIR.out _ (by first | exact HT.out | exact HT.out.trans (qc _ _))) (qh0 a6 (by first | exact HT.out.size | exact(HT.out.trans (qc _ none)).size)) HY.out.len HPO.out.ok (by have:=HPO.out.len;omega) (by first | exact HBM.out | exact HBX.out) HY.out.be).mono ?_;rintro e w6 ⟨rfl,hg⟩;replace HT:=qgv (show w3.grownBy w6 none by first | exact HT.out.trans hg | exact(HT.out.trans (qc _ _)).trans hg);replace SC:=qgv (HSR.out w6 HT.out);clear hg;have r0:=SC.out.2.2.1;have r1:=SC.out.2.2.2.1;have r2:=SC.out.2.2.2.2.1;have r3:=SC.out.2.2.2.2.2))
   generalize hm:(if -1<zS ps gx l l.length then zS ps gx l l.length else -1)=m;have hv:Ze ps l=.tuple #[.agg #[m,a],.int .i64 0]:=by
    rw[a7.out,show max (-1) (zS ps gx l l.length)=m by rw[<- hm];omega]
   have h8:=qgv hv;clear hv hm a7;go_wp2;refine qj8 (v:=.tuple #[.agg #[m,a],.int .i64 0]) ?_ rfl ⟨by rw[h8.out],(HG3.out.trans HT.out).andThen ((qe _ _ _ _).trans (qe _ _ _ _)) (λj e=>by cases e;left;rw[<- HA.out];omega)⟩;rw[qoy rfl];go_simp
theorem Tp.info26p:(Ya.info? 26).map (λi=>(i.zero,i.size,i.bytes))=some (some (.agg #[.int .i64 0,.int .i64 0]),2,16):=by kernel_rfl
theorem Tp.und48:Ya.underlying 48=some (.slice 26):=by rw[Tp.und];exact Tryz.underlying48
def qE(lo hi:Nat)(w:qgx)(v:qgB)(l:List (Int × Int)):Prop :=
 ∃base cap,v=.slice base l.length cap/\(l.length:Int)<=1000000 /\
  (l≠[]->∃B o cs fr,base=some ⟨B,o,none⟩/\lo<=B/\B<hi/\w.heap[B]?=some (.cells cs 26 fr) /\
   ∀i,i<l.length->∃p,l[i]?=some p/\cs[o+i*2]?=some (.int .i64 p.1)/\cs[o+(i*2+1)]?=some (.int .i64 p.2))
theorem qE.kept{lo hi:Nat}{w w':qgx}{v:qgB}{ps:List (Int × Int)}{row:Option Nat}(h:qE lo hi w v ps)(hg:w.grownBy w' row)(hr:∀R,row=some R->R<lo\/hi<=R:=by simp):qE lo hi w' v ps:=by
 obtain⟨base,cap,rfl,hl,hr'⟩:=h;refine⟨base,cap,rfl,hl,λhne=>?_⟩;obtain⟨B,o,cs,fr,e1,e2,e3,e4,e5⟩:=hr' hne;exact⟨B,o,cs,fr,e1,e2,e3,blk hg (λe=>by have:=hr B e.symm;omega) e4,e5⟩
theorem qE.mono{lo hi lo' a6:Nat}{w:qgx}{v:qgB}{ps:List (Int × Int)}(h:qE lo hi w v ps)(h1:lo'<=lo)(h2:hi<=a6):qE lo' a6 w v ps:=by
 obtain⟨base,cap,rfl,hl,hr⟩:=h;refine⟨base,cap,rfl,hl,λhne=>?_⟩;obtain⟨B,o,cs,fr,e1,e2,e3,e4,e5⟩:=hr hne;exact⟨B,o,cs,fr,e1,by omega,by omega,e4,e5⟩
theorem qE.cell{lo hi:Nat}{w:qgx}{v:qgB}{ps:List (Int × Int)}(h:qE lo hi w v ps):∃base cap,v=.slice base ps.length cap/\(ps.length:Int)<=1000000 /\(ps≠[]->∃B o,base=some ⟨B,o,none⟩/\lo<=B/\B<hi/\B<w.heap.size/\∀i,i<ps.length->∃p,ps[i]?=some p/\w.cell? ⟨B,o+i*2,none⟩=some (.int .i64 p.1)/\w.cell? ⟨B,o+i*2+1,none⟩=some (.int .i64 p.2)):=by
 obtain⟨base,cap,rfl,hl,hr'⟩:=h;refine⟨base,cap,rfl,hl,λhne=>?_⟩;obtain⟨B,o,cs,fr,e1,e2,e3,e4,e5⟩:=hr' hne;refine⟨B,o,e1,e2,e3,(qgy.1 e4).1,λi hi=>?_⟩;obtain⟨p,h0,h1,h2⟩:=e5 i hi;exact⟨p,h0,by simp[qhs,e4,h1],by simp[qhs,e4,qmw,h2]⟩
def ji(l:List (Int × Int)):List qgB:=l.flatMap λp=>[.int .i64 p.1,.int .i64 p.2]
theorem q9b(l:List (Int × Int)):(ji l).length=l.length*2:=by
 unfold ji;induction l with
 | nil=>rfl
 | cons p l ih=>simp only[qjr,qio,ih,qh3,qhc];omega
theorem Zr(l:List (Int × Int))(p:Int × Int):ji (l++[p])=ji l++[.int .i64 p.1,.int .i64 p.2]:=by simp[ji]
theorem q1u:∀(l:List (Int × Int)) (i:Nat),i<l.length->∃p,l[i]?=some p/\(ji l)[i*2]?=some (.int .i64 p.1)/\(ji l)[i*2+1]?=some (.int .i64 p.2)
 | p::l,0,_=>⟨p,rfl,rfl,rfl⟩
 | p::l,i+1,h=>by
  obtain⟨q,h1,h2,h3⟩:=q1u l i (by simpa using h);refine⟨q,by simpa using h1,?_,?_⟩
  ·show([qhj .i64 p.1,.int .i64 p.2]++ji l)[(i+1)*2]?=_;rw[qj3 (by simp;omega)];rw[<- h2];congr 1;simp;omega
  ·show([qhj .i64 p.1,.int .i64 p.2]++ji l)[(i+1)*2+1]?=_;rw[qj3 (by simp;omega)];rw[<- h3];congr 1;simp;omega
theorem qE.own{lo n:Nat}{w:qgx}{v:qgB}{l:List (Int × Int)}(h:w.ownsRow lo 26 2 v n (ji l))(hl:(l.length:Int)<=1000000):qE lo w.heap.size w v l:=by
 obtain⟨h1,h2⟩:=h;have hn:l.length=n:=by rw[q9b] at h1;omega
 subst hn;rcases h2 with⟨rfl,h0⟩ | ⟨g,cap,cur,rfl,hb,hg,hc,hm,hs,ht⟩
 ·exact⟨none,0,by rw[h0],hl,λhne=>absurd (qim h0) hne⟩
 ·refine⟨_,cap,rfl,hl,λ_=>⟨g,0,cur,(0,0),rfl,hb,(qgy.1 hg).1,hg,λi hi=>?_⟩⟩;obtain⟨p,h1,h2,h3⟩:=q1u l i hi;have key:∀j,j<l.length*2->cur[j]?=(ji l)[j]?:=λj hj=>by
   rw[<- ht,qm0,if_pos hj];simp
  exact⟨p,h1,by rw[qhf,key _ (by omega),h2],by rw[qhf,key _ (by omega),h3]⟩
theorem q7l(a b c d:Int)(w:qgx):(Op.equalIn 10000 26 (.agg #[a,b]) (.agg #[c,d])).run Ya w=.ok (decide ((a,b)=(c,d))) w:=by
 have a6:Ya.underlying 26=Tryz.prog.underlying 26:=Tp.und 26;have u3:Ya.underlying 3=some (.int .i64):=by rw[Tp.und];exact Tryz.underlying3
 have hS:Ya.underlying 26=some (.struct (Ya.fieldsOf 26)):=by kernel_rfl
 have hp:Ya.stoodInHeld 26=false:=by kernel_rfl
 rw[show(10000:Nat)=9999+1 from rfl,run_equalIn_agg w 9999 26 _ _ hS hp];simp only[Program.fieldsOf,a6,Tryz.underlying26];go_simp;by_cases h1:a=c<;>by_cases h2:b=d<;>simp[h1,h2]
theorem qc4(a b c d:Int)(w:qgx):(binOp .neq 26 (.agg #[a,b]) (.agg #[c,d])).run Ya w=.ok (.bool (!decide ((a,b)=(c,d)))) w:=by
 rw[run_neq_struct,q7l];rfl
theorem qc5(a b c d:Int)(w:qgx):(binOp .eql 26 (.agg #[a,b]) (.agg #[c,d])).run Ya w=.ok (.bool (decide ((a,b)=(c,d)))) w:=by
 rw[run_eql_struct,q7l];rfl
theorem KB(op:BinOp)(x y:qhE)(a b:Array qgB)(w:qgx):(eqGuard op 26 x y (.agg a) (.agg b)).run Ya w=.ok () w:=run_eqGuard_agg w op 26 x y a b (by kernel_rfl)
def zD(ps:List Par)(l:List Int):List (Int × Int):=(qht l.length).map λi=>(loadAt (pre Par.mn ps ps.length) l i,loadAt (pre Par.mx ps ps.length) l i)
theorem QR(la ha lb hb:Nat)(va vb:qgB)(a b:List (Int × Int))(w:qgx)(hA:qE la ha w va a)(hB:qE lb hb w vb b) :qhw Ya 51 #[va,vb] w λe w'=>e=.returned (.bool (decide (a=b)))/\w.grownBy w' none:=by
 obtain⟨ba,ca,rfl,c9,h1⟩:=hA.cell;obtain⟨bb,cb,rfl,hl2,h2⟩:=hB.cell;have ⟨H1,H2⟩:=qH h1 h2;clear h1 h2 hA hB;by_cases hlen:a.length=b.length
 ·have HL:=qgv hlen;have a8:((a.length:Int) != (b.length:Int))=false:=by rw[hlen];simp
  clear hlen;go_enter Tp.x51,Tryz.ntmps51;go_wp2;go_loopw [5] (λiv wr=>∃k:Nat,iv=.int .i64 k/\k<=a.length/\(∀i,i<k->a[i]?=b[i]?)/\w.grownBy wr none) (λiv _=>(a.length - qi9 iv).toNat)
  case atStart=>exact⟨0,rfl,by omega,λi hi=>absurd hi (by omega),qh1 _ _⟩
  case round=>
   obtain⟨k,rfl,hk,hok,hG⟩:=hrel;have ⟨HOK,HG⟩:=qH hok hG;clear hok;by_cases hlt:k<a.length
   ·have a7:k<b.length:=by have:=HL.out;omega
    obtain⟨A1,o1,rfl,e6,e5,e4,c3⟩:=H1.out (by intro e;rw[e] at hlt;simp at hlt);obtain⟨B1,o2,rfl,d9,d8,d7,b9⟩:=H2.out (by intro e;rw[e] at a7;simp at a7);obtain⟨p,e1,b7,b6⟩:=c3 k hlt;obtain⟨q,e2,b0,a9⟩:=b9 k a7;have x1:=hG.cl b7;have x2:=hG.cl b6;have y1:=hG.cl b0;have y2:=hG.cl a9;obtain⟨p1,p2⟩:=p;obtain⟨q1,q2⟩:=q;have d5:(k:Int)<(b.length:Int):=by omega
    have d6:(k:Int)<(a.length:Int):=by omega
    have ⟨E1,E2⟩:=qH e1 e2;clear c3 b9 hG e1 e2 b7 b6 b0 a9;have b8:=qc4 p1 p2 q1 q2;have hbg:=KB .neq (.tmp 20) (.tmp 24) #[p1,p2] #[q1,q2];by_cases a6:(p1,p2)=(q1,q2)
    ·have hd:decide ((p1,p2)=(q1,q2))=true:=by simpa using a6
     rw[hd] at b8;have c8:=qgv a6;clear hd a6;go_upto_region 6 with(fail);go_quiet (fail);go_wp2;go_roundw
     case rel=>
      refine⟨k+1,by simp,by omega,λi hi=>?_,HG.out.trans (qi _ _ _)⟩;by_cases e:i=k
      ·rw[e,E1.out,E2.out,c8.out]
      ·exact HOK.out i (by omega)
     case measure=>simp[qi9];omega
    ·have hd:decide ((p1,p2)=(q1,q2))=false:=by simpa using a6
     rw[hd] at b8;have HR:=qgv (show decide (a=b)=false by
      rw[decide_eq_false_iff_not];intro e;have h1:=E1.out;rw[e,E2.out] at h1;exact a6 (by cases h1;rfl))
     clear hd a6;go_upto_region 6 with(fail);go_quiet (fail);go_wp2;go_ret;exact⟨by rw[HR.out];rfl,HG.out.trans (qi _ _ _)⟩
   ·obtain rfl:k=a.length:=by omega
    have HR:=qgv (show decide (a=b)=true by
     rw[decide_eq_true_eq];refine qls λi=>?_;by_cases hi:i<a.length
     ·exact HOK.out i hi
     ·rw[qi8 (by omega),qi8 (by have:=HL.out;omega)])
    clear hG;go_wp2;go_ret;exact⟨by rw[HR.out];rfl,HG.out⟩
 ·have HR:=qgv (show decide (a=b)=false by
   rw[decide_eq_false_iff_not];intro e;exact hlen (by rw[e]))
  have a8:((a.length:Int) != (b.length:Int))=true:=by simp;omega
  clear hlen;go_enter Tp.x51,Tryz.ntmps51;go_wp2;go_ret;exact⟨by rw[HR.out];rfl,qh1 _ _⟩
theorem K4(ps:List Par)(l:List Int):(zD ps l).length=l.length:=by simp[zD]
theorem JF(ps:List Par)(l:List Int)(k:Nat)(h:k<l.length):(zD ps l).take (k+1)=(zD ps l).take k++[(loadAt (pre Par.mn ps ps.length) l k,loadAt (pre Par.mx ps ps.length) l k)]:=by
 rw[qig];simp[zD,h]
theorem q1e(lo hi:Nat)(pv qv:qgB)(ps:List Par)(lim:Int)(l:List Int)(w:qgx)(hP:qn lo hi w pv ps)(hI:qf lo hi w qv l)(hhi:hi<=w.heap.size)(hok:YOk ps lim)(hp:POk ps lim l) :qhw Ya 35 #[.agg #[pv,lim],qv] w λe w'=>∃v,e=.returned (.tuple #[v,.int .i64 0])/\w.grownBy w' none/\qE w.heap.size w'.heap.size w' v (zD ps l):=by
 obtain⟨i0,k8,h9,h8,g9⟩:=qjj Tp.info26p;obtain⟨yb,yc,rfl,l8,-⟩:=hP.cell;obtain⟨base,cap,rfl,m4,-⟩:=hI.cell;obtain⟨A,w1,hA,c8,b8,d6⟩:=zr w (.cells #[.slice yb ps.length yc,lim] 24);have k6:w1.heap.size=A+1:=by rw[c8,qh6,hA]
 have g7:=qgv (hI.kept b8);have g6:=qgv (hP.kept b8);have ⟨HW1,HA,HG1⟩:=z8 c8 hA b8;have q0:=q8 d6 (o:=0) rfl;have q1:=q8 d6 (o:=1) rfl;have m5:hi<=A:=by omega
 have ⟨HY,HPO⟩:=qH hok hp;have k7:l.length<=100:=hp.len;have d8:∀x∈l,0<=x/\x<5:=λx hx=>by have h1:=hp.ok x hx;have h2:=hok.len;omega
 have g5:=qgv d8;clear hP hI hok hp c8 hA b8 d6 d8;go_enter Tp.x35,Tryz.ntmps35;go_upto_region 1 with(fail);rw[<- HA.out,<- HW1.out];go_upto_region 2 with(go_at_call 81;refine(xh lo hi _ _ ps lim l _ g6.out g7.out (by omega) HY.out HPO.out).mono ?_;rintro e w2 ⟨rfl,e8⟩;have HG2:=qgv e8;clear e8);have k5:=HG2.out.size;obtain⟨Y,b6⟩:∃Y,Y=w2.heap.size:=⟨_,rfl⟩;obtain⟨w3,a9⟩:∃w3,w3=w2.alloc (.cells #[.slice yb ps.length yc,lim] 91):=⟨_,rfl⟩;have b7:w2.grownBy w3 none:=by rw[a9];exact qgw _ _ none
 have e9:w3.heap[Y]?=some (.cells #[.slice yb ps.length yc,lim] 91 (0,0)):=by rw[a9,b6];exact qgF _ _
 have k0:w3.heap.size=Y+1:=by rw[a9,qh6,b6]
 rw[<- b6,<- a9];clear q0 q1;have HB3:=qgv e9;have HG3:=qgv ((HG1.out.trans HG2.out).trans b7);have l5:=qgv ((g7.out.kept HG2.out).kept b7);have l4:=qgv ((g6.out.kept HG2.out).kept b7);have m6:A<Y:=by omega
 have a8:hi<=w3.heap.size:=by omega
 have l9:w.heap.size<=w3.heap.size:=HG3.out.size;clear b7 e9 a9 b6 k6 k5 k0;have s0:=q8 HB3.out (o:=0) rfl;have s1:=q8 HB3.out (o:=1) rfl;go_upto_region 5 with(fail);have HT:=qgv (qh1 w3 none);have d7:∀W,w3.grownBy W none->j5 lo hi W (.agg #[.slice yb ps.length yc,lim]) ps lim:=λW h=>⟨_,rfl,l4.out.kept h⟩;have e4:∀W,w3.grownBy W none->qf lo hi W (.slice base l.length cap) l:=λW h=>l5.out.kept h;have d9:∀W,w3.grownBy W none->W.cell? Y=some (.slice yb ps.length yc)/\W.cell? ⟨Y,1,none⟩=some (.int .i64 lim):=λW h=>
  ⟨q8 (bk h HB3.out) rfl,q8 (bk h HB3.out) rfl⟩
 have ⟨HYR,HIR,HSR⟩:=z8 d7 e4 d9;clear d7 e4 d9;have SC:=qgv (HSR.out w3 (qh1 w3 none));obtain⟨gm,d5⟩:∃gm,gm=pre Par.mn ps ps.length:=⟨_,rfl⟩;obtain⟨gx,c9⟩:∃gx,gx=pre Par.mx ps ps.length:=⟨_,rfl⟩;have e6:∀i,0<=gm i/\gm i<=1000:=by rw[d5];exact HY.out.mn
 have e5:∀i,0<=gx i/\gx i<=1000:=by rw[c9];exact HY.out.mx
 have ⟨HGM,HGX,HBM,HBX⟩:=zY d5 c9 e6 e5;clear d5 c9 e6 e5;go_region_held3 (λw'=>w'.cell? Y=some (.slice yb ps.length yc)/\w'.cell? ⟨Y,1,none⟩=some (.int .i64 lim))
  (first | exact SC.out)
  (first
   | (go_at_call 92;refine(Qa lo hi _ ps lim _ (HYR.out _ (by first | exact HT.out | exact HT.out.trans (qc _ _))) (qh0 a8 (by first | exact HT.out.size | exact(HT.out.trans (qc _ none)).size)) HY.out.len).mono ?_;rintro e w5 ⟨rfl,hg⟩;rw[<- HGX.out];replace HT:=qgv (show w3.grownBy w5 none by first | exact HT.out.trans hg | exact(HT.out.trans (qc _ _)).trans hg);replace SC:=qgv (HSR.out w5 HT.out);clear hg)
   | (go_at_call 91;refine(Qx lo hi _ _ l _ _ (HIR.out _ (by first | exact HT.out | exact HT.out.trans (qc _ _))) (qh0 a8 (by first | exact HT.out.size | exact(HT.out.trans (qc _ none)).size)) g5.out (by omega) (by first | exact HBM.out | exact HBX.out) ⟨_,_,rfl⟩).mono ?_;rintro e w5 ⟨lv,rfl,hg,hL⟩;have hc:=hL.cell;rw[ko] at hc;obtain⟨mb,mc,rfl,-,-⟩:=hc;have HM:=qgv hL;replace HT:=qgv (show w3.grownBy w5 none by first | exact HT.out.trans hg | exact(HT.out.trans (qc _ _)).trans hg);replace SC:=qgv (HSR.out w5 HT.out);clear hg hL))
 rename_i wa wm a7
 clear a7 s0 s1;have m7:=qgv HT.out;have s0:=SC.out.1;have s1:=SC.out.2;go_upto_region 6 with(fail);go_region_held3 (λw'=>w'.cell? Y=some (.slice yb ps.length yc)/\w'.cell? ⟨Y,1,none⟩=some (.int .i64 lim))
  (first | exact SC.out)
  (first
   | (go_at_call 93;refine(Qy lo hi _ ps lim _ (HYR.out _ (by first | exact HT.out | exact HT.out.trans (qc _ _))) (qh0 a8 (by first | exact HT.out.size | exact(HT.out.trans (qc _ none)).size)) HY.out.len).mono ?_;rintro e w6 ⟨rfl,hg⟩;rw[<- HGM.out];replace HM:=qgv (HM.out.kept (row:=none) (show World.grownBy _ w6 none by first | exact hg | exact(qc _ _).trans hg) (by simp));replace HT:=qgv (show w3.grownBy w6 none by first | exact HT.out.trans hg | exact(HT.out.trans (qc _ _)).trans hg);replace SC:=qgv (HSR.out w6 HT.out);clear hg)
   | (go_at_call 91;refine(Qx lo hi _ _ l _ _ (HIR.out _ (by first | exact HT.out | exact HT.out.trans (qc _ _))) (qh0 a8 (by first | exact HT.out.size | exact(HT.out.trans (qc _ none)).size)) g5.out (by omega) (by first | exact HBM.out | exact HBX.out) ⟨_,_,rfl⟩).mono ?_;rintro e w6 ⟨lv,rfl,hg,hL⟩;have hc:=hL.cell;rw[ko] at hc;obtain⟨lb,lc,rfl,-,-⟩:=hc;have HL:=qgv hL;replace HM:=qgv (HM.out.kept (row:=none) (show World.grownBy _ w6 none by first | exact hg | exact(qc _ _).trans hg) (by simp));replace HT:=qgv (show w3.grownBy w6 none by first | exact HT.out.trans hg | exact(HT.out.trans (qc _ _)).trans hg);replace SC:=qgv (HSR.out w6 HT.out);clear hg hL))
 rename_i a7
 clear a7 s0 s1;have hcl:=HL.out.cell;have hcm:=HM.out.cell;rw[ko] at hcl hcm;obtain⟨_,_,he,-,hcl⟩:=hcl;cases he;obtain⟨_,_,he,-,hcm⟩:=hcm;cases he;have ⟨HCL,HCM⟩:=qH hcl hcm;have g8:=qgv (HG3.out.trans HT.out);clear hcl hcm;have k9:Hid (∀k,k<l.length->(ji ((zD ps l).take (k+1)))=ji ((zD ps l).take k)++[.int .i64 (loadAt gm l k),.int .i64 (loadAt gx l k)]):=qgv λk hk=>by
  rw[JF ps l k hk,Zr,HGM.out,HGX.out]
 go_wp2;go_loopw [8,32] (λov iv wr=>∃k:Nat,iv=.int .i64 k/\k<=l.length/\w6.grownBy wr none/\wr.ownsRow w6.heap.size 26 2 ov k (ji ((zD ps l).take k))) (λ_ iv _=>(l.length - qi9 iv).toNat)
 case atStart=>exact⟨0,rfl,by omega,qh1 _ _,by simpa[ji] using qjh _ _ _ _⟩
 case round=>
  obtain⟨k,rfl,hk,hG,hO⟩:=hrel;obtain⟨oa,om,oc,rfl⟩:=zt hO;have ⟨HG,HO⟩:=qH hG hO;have m3:=hG.size;by_cases hlt:k<l.length
  ·have c3:ldL gm l≠[]:=by intro e;have:=ko gm l;rw[e] at this;simp at this;omega
   have b9:ldL gx l≠[]:=by intro e;have:=ko gx l;rw[e] at this;simp at this;omega
   obtain⟨LB,lo',rfl,-,-,-,hL4⟩:=HCL.out c3;obtain⟨MB,l7,rfl,-,-,-,e7⟩:=HCM.out b9;have x1:=hG.cl (hL4 k hlt);have x2:=hG.cl (e7 k hlt);rw[Yj gm l k hlt] at x1;rw[Yj gx l k hlt] at x2;have HS:=qgv (k9.out k hlt);generalize loadAt gm l k=p1 at x1 HS;generalize loadAt gx l k=p2 at x2 HS;have l6:(k:Int)<(l.length:Int):=by omega
   clear hL4 e7 c3 b9 hG hO;go_wp2_with (at_builtin;(refine qks _ rfl _ _ 48 rfl w6.heap.size 26 i0 _ 2 16 Tp.und48 k8 h9 h8 g9 rfl (by decide) (.slice oa om oc) k _ rfl (HO.out.alloc _) ⟨wr.heap.size,0,none⟩ 1 1 [.int .i64 p1,.int .i64 p2] rfl rfl (qiw (cs:=#[p1,p2]) (t:=26) (fr:=(0,0)) (qgF wr _)) (by simp[qjk]) (by unfold qkq;omega) (by omega) (by simp;omega) ?_);intro v' w7 a6 b0 _;obtain⟨g',cap',rfl⟩:=ownsRow_succ a6;have HO7:=qgv a6;have HG7:=qgv b0;clear a6 b0);go_roundw
   case rel=>
    refine⟨k+1,by simp,by omega,(HG.out.trans (qgw _ _ none)).andThen HG7.out (λj e=>.inl (HO.out.lt j e).1),?_⟩;rw[HS.out];exact HO7.out
   case measure=>simp[qi9];omega
  ·obtain rfl:k=l.length:=by omega
   clear hG hO;go_wp2;go_ret2;have h0:=HO.out;rw[show(zD ps l).take l.length=zD ps l from qm1 (by simp[zD])] at h0;exact⟨_,rfl,g8.out.trans HG.out,(qE.own h0 (by rw[K4];omega)).mono g8.out.size (qgA _)⟩
def jB(ps:List Par)(l:List Int)(k:Nat):Int:=match l[k]? with
 | some x=>if 0<=x/\x<ps.length then(if x∈l.take k then 4 else 0) else 3
 | none=>0
def QJ(ps:List Par)(lim:Int)(l:List Int):Int:=match (qht l.length).find? (λk=>decide (jB ps l k≠0)) with
 | some k=>jB ps l k
 | none=>q2r ps lim l
theorem ZY{ps:List Par}{lim:Int}{l:List Int}{k:Nat}{e:Int}(hb:∀j,j<k->jB ps l j=0)(hk:k<l.length)(he:jB ps l k=e)(h0:e≠0):QJ ps lim l=e:=by
 unfold QJ;rw[Ym (λk=>decide (jB ps l k≠0)) (qht l.length) k k (ql3 hk) (by simp[he,h0]) (λi y hi hy=>by
  have a6:y=i:=by rw[ql3 (by omega)] at hy;exact(qjF hy).symm
  subst a6;simp[hb y hi])]
 exact he
theorem q2s{ps:List Par}{lim:Int}{l:List Int}(hb:∀j,j<l.length->jB ps l j=0):QJ ps lim l=q2r ps lim l:=by
 unfold QJ;rw[QD _ _ (λi y hy=>by
  have hi:i<l.length:=by have:=(qh9.1 hy).1;simpa using this
  have a6:y=i:=by rw[ql3 hi] at hy;exact(qjF hy).symm
  subst a6;simp[hb y hi])]
theorem Zs{ps:List Par}{l:List Int}{k:Nat}(hb:∀j,j<k->jB ps l j=0)(hk:k<=l.length):∀x∈l.take k,0<=x/\x<ps.length:=λx hx=>by
 obtain⟨j,hj⟩:=List.mem_iff_getElem?.1 hx;have a6:j<k:=by have:=(qh9.1 hj).1;simp at this;omega
 rw[qiz a6] at hj;have h:=hb j a6;unfold jB at h;rw[hj] at h;simp only at h;split at h
 ·assumption
 ·cases h
theorem q6j(lo hi:Nat)(yv pv:qgB)(ps:List Par)(lim:Int)(l:List Int)(w:qgx)(hY:j5 lo hi w yv ps lim)(hI:qf lo hi w pv l)(hhi:hi<=w.heap.size)(h5:ps.length<=5)(ht:∀p∈ps,0<=p.tall/\p.tall<=1000)(hlen:l.length<=1000) :qhw Ya 133 #[yv,pv] w λe w'=>e=.returned (.int .i64 (QJ ps lim l))/\w.grownBy w' none:=by
 have l8:∀(fn:Fn) (first cap:Array qgB) (w:qgx),(qr5 fn first cap).run Ya w=.ok (.func fn first cap) w:=λ_ _ _ _=>rfl;have h9:∀(x:Bool) (w:qgx),(Op.unary .not (.bool x)).run Ya w=.ok (.bool (!x)) w:=λ_ _=>rfl;obtain⟨qv,rfl,hP⟩:=hY;obtain⟨yb,yc,rfl,k7,-⟩:=hP.cell;obtain⟨base,cap,rfl,l9,-⟩:=hI.cell;obtain⟨A,w1,hA,e7,c8,d5,g5,g7⟩:=zp w (.cells #[.slice yb ps.length yc,lim] 91) (.cells #[.int .i64 0] 40);have h8:=qgv (hI.kept c8);have g8:=qgv (hP.kept c8);have ⟨HT,HW1,HA,HG1,HR1⟩:=ZS ht e7 hA c8 g5;have q0:=q8 d5 (o:=0) rfl;have q1:=q8 d5 (o:=1) rfl;clear hI hP ht e7 hA c8 d5 g5;go_enter_defers Tp.x133,Tryz.ntmps133;go_upto_region 4 with(fail);rw[<- HA.out,<- HW1.out];go_wp2;go_loopw [5,6,12] (λmv tv iv wr=>∃k:Nat,iv=.int .i64 k/\k<=l.length/\mv=.int .u8 (zc (l.take k))/\tv=.int .i64 (qK ps (l.take k))/\0<=qK ps (l.take k)/\qK ps (l.take k)<=1000*k/\w1.grownBy wr none/\∀j,j<k->jB ps l j=0) (λ_ _ iv _=>(l.length - qi9 iv).toNat)
 case atStart=>exact⟨0,rfl,by omega,by simp[zc],by simp[qK],by simp[qK],by simp[qK],qh1 _ _,λj hj=>by omega⟩
 case round=>
  obtain⟨k,rfl,hk,rfl,rfl,ht0,ht1,hG,e5⟩:=hrel;have HX:=qgv (Zs e5 (Nat.le_of_lt_succ (Nat.lt_succ_of_le hk)));have HBD:=qgv e5;clear e5;have HG:=qgv hG;have k5:=hG.cl q0;have k0:=hG.cl q1;have k8:=hG.size;clear hG;by_cases hlt:k<l.length
  ·have d7:=h8.out.kept HG.out;have d6:=g8.out.kept HG.out;obtain⟨b1,c1,he,-,hc⟩:=d7.cell;cases he;obtain⟨B,o,rfl,d5,m7,m6,c9⟩:=hc (by intro e;rw[e] at hlt;simp at hlt);have hx:=c9 k hlt;obtain⟨x,a9⟩:∃x,l[k]?=some x:=⟨_,qgG hlt⟩;rw[a9] at hx;simp only[qgH] at hx;have hM:zc (l.take k)<32:=xm _ 5 λy hy=>by have:=HX.out y hy;omega
   by_cases hin:0<=x/\x<ps.length;rotate_left
   ·have HE:=qgv (show QJ ps lim l=3 from ZY HBD.out hlt (by unfold jB;rw[a9];simp only[if_neg hin]) (by decide));have g9:=qgv (show ¬ (0<=x/\x<=(ps.length:Int) - 1) from λh=>hin ⟨h.1,by omega⟩);have a6:=bk HG.out HR1.out;have e9:=q8 (o:=0) a6 rfl;have e8:=qm (o:=0) a6;have b0:=qgv a6;have l4:IntKind.i64.wrap ((ps.length:Int) - 1)=(ps.length:Int) - 1:=qhp _ (by omega);clear d7 d6 hc c9 a6 a9 hin;go_wp2_with (first
     | (go_at_call 110;refine(yK _ _ _ _ g9.out).mono ?_;rintro e w' ⟨rfl,rfl⟩)
     | (go_at_call 162;refine(q2e _ _).mono ?_;rintro e w' ⟨rfl,rfl⟩))
    refine qn7 (f:=161) (args:=#[.pointer (some (A+1:Nat))]) (by simp) (by simp[go_sem]) ?_;refine(QG (A+1) 0 3 [] _ b0.out).mono ?_;rintro e u' d9 ⟨rfl,rfl,rfl⟩;have hh:=HG1.out.trans HG.out;have b6:=qg (o:=0) (v:=.int .i64 3) (qp (p:=.cells #[.int .i64 3] 181) b0.out);simp[Leaves,settle,qjb,qm5,go_sem,qhs,b6,HE.out];exact(hh.trans (qgw _ _ none)).andThen (qe _ _ _ _) (by rintro j e;cases e;exact .inl (by have:=HA.out;omega))
   obtain⟨g6,c3⟩:=hin;have b9:=Jj l k x a9;have b8:=vY ps l k x a9;have b7:jB ps l k=if x∈l.take k then 4 else 0:=by unfold jB;rw[a9];simp only[if_pos (qhb g6 c3)]
   have a7:(zc (l.take k)).testBit x.toNat=decide (x∈l.take k):=by
    rw[Bool.eq_iff_iff,ZM,decide_eq_true_eq];constructor
    ·rintro⟨y,hy,k6⟩;have:=HX.out y hy;obtain rfl:y=x:=by omega
     exact hy
    ·exact λh=>⟨x,h,rfl⟩
   obtain⟨m,rfl⟩:∃m:Nat,x=m:=⟨x.toNat,by omega⟩;obtain⟨b2,c2,he,-,hc⟩:=d6.cell;cases he;obtain⟨YB,yo,rfl,m5,m4,m3,e6⟩:=hc (by intro e;rw[e] at c3;simp at c3;omega);obtain⟨p,hp,p0,p1,p2,p3⟩:=e6 m (by omega);have l5:=HT.out p (qhg hp);rw[show jr ps m=p.tall by unfold jr;simp[hp]] at b8;simp only[Int.toNat_natCast] at a7 b9;have l7:(m:Int)<(ps.length:Int):=c3;have e4:m<5:=by omega
   generalize zc (l.take k)=M at a7 hM b9;generalize qK ps (l.take k)=T at ht0 ht1 b8;by_cases a8:(m:Int)∈l.take k
   ·have HE:=qgv (show QJ ps lim l=4 from ZY HBD.out hlt (by rw[b7,if_pos a8]) (by decide));rw[decide_eq_true a8] at a7;have HBIT:=qgv a7;have a6:=bk HG.out HR1.out;have e9:=q8 (o:=0) a6 rfl;have e8:=qm (o:=0) a6;have b0:=qgv a6;clear d7 d6 hc c9 e6 hp a7 b9 b8 a9 b7 a8 a6;go_upto_region 8 with(first
     | (go_at_call 110;refine(jw _ _ _ _ (by omega) (by omega)).mono ?_;rintro e w' ⟨rfl,rfl⟩)
     | (go_at_call 162;refine(YZ _ _).mono ?_;rintro e w' ⟨rfl,rfl⟩))
    go_wp2_with (first
     | (go_at_call 129;refine(Yl M m _ hM e4).mono ?_;rintro e w' ⟨rfl,rfl⟩;rw[HBIT.out])
     | (go_at_call 162;refine(q2e _ _).mono ?_;rintro e w' ⟨rfl,rfl⟩))
    refine qn7 (f:=161) (args:=#[.pointer (some (A+1:Nat))]) (by simp) (by simp[go_sem]) ?_;refine(QG (A+1) 0 4 [] _ b0.out).mono ?_;rintro e u' d9 ⟨rfl,rfl,rfl⟩;have hh:=HG1.out.trans HG.out;have b6:=qg (o:=0) (v:=.int .i64 4) (qp (p:=.cells #[.int .i64 4] 181) b0.out);simp[Leaves,settle,qjb,qm5,go_sem,qhs,b6,HE.out];exact(hh.trans (qgw _ _ none)).andThen (qe _ _ _ _) (by rintro j e;cases e;exact .inl (by have:=HA.out;omega))
   rw[decide_eq_false a8] at a7;rw[if_neg a8] at b7;have ⟨HBT,HBIT,HMS,HTS,HXE⟩:=ZS b7 a7 b9 b8 a9;clear d7 d6 hc c9 e6 hp a7 b9 b8 a9 b7 a8;go_wp2_with (first
    | (go_at_call 110;refine(jw _ _ _ _ (by omega) (by omega)).mono ?_;rintro e w' ⟨rfl,rfl⟩)
    | (go_at_call 162;refine(YZ _ _).mono ?_;rintro e w' ⟨rfl,rfl⟩)
    | (go_at_call 129;refine(Yl M m _ hM e4).mono ?_;rintro e w' ⟨rfl,rfl⟩;rw[HBIT.out])
    | (go_at_call 151;refine(Zu M m _ hM e4).mono ?_;rintro e w' ⟨rfl,rfl⟩)
    | (go_at_call 145;refine(Yx _ _ _ T p.tall _ (by exact qf.laid _ [T,p.tall] 2 rfl (by simp)) (by omega) (by omega)).mono ?_;rintro e w' ⟨rfl,rfl⟩))
   go_roundw
   case rel=>
    refine⟨k+1,by simp,by omega,by rw[HMS.out],by rw[HTS.out],by rw[HTS.out];omega,by rw[HTS.out];omega,HG.out.trans (qgw _ _ _),λj hj=>by
     by_cases e:j=k
     ·rw[e];exact HBT.out
     ·exact HBD.out j (by omega)⟩
   case measure=>simp[qi9];omega
  ·obtain rfl:k=l.length:=by omega
   rw[qis] at ht0 ht1;rw[qis];have HZ:=qgv (show QJ ps lim l=if qK ps l<=lim then 0 else 10 from q2s HBD.out);generalize qK ps l=T at ht0 ht1 HZ;generalize zc l=M;have a6:=bk HG.out HR1.out;have e9:=q8 (o:=0) a6 rfl;have e8:=qm (o:=0) a6;have b0:=qgv a6;have k9:=g7;clear a6;by_cases d8:T<=lim
   ·have HC:=qgv (HZ.out.trans (if_pos d8));go_wp2_with (go_at_call 162;refine(YZ _ _).mono ?_;rintro e w' ⟨rfl,rfl⟩);refine qn7 (f:=161) (args:=#[.pointer (some (A+1:Nat))]) (by simp) (by simp[go_sem]) ?_;refine(Kw ⟨A+1,0,none⟩ _).mono ?_;rintro e u' d9 ⟨rfl,rfl,rfl⟩;have b6:(((wr.setCell (A+1:Nat) (.int .i64 0)).alloc (.cells #[.int .i64 0] 181)).heap[A+1]?=some (.cells #[.int .i64 0] 40 (0,0))):=qp (by rw[qg b0.out];rfl);refine⟨.int .i64 0,?_,by rw[HC.out],?_⟩
    ·simp[qjb,qm5,go_sem,qhs,b6]
    ·have hh:=HG1.out.trans HG.out;exact(hh.andThen (qe _ _ _ _) (by rintro j e;cases e;exact .inl (by have:=HA.out;omega))).trans (qgw _ _ _)
   ·have HC:=qgv (HZ.out.trans (if_neg d8));have l6:decide (T<=lim)=false:=by simp;omega
    go_wp2_with (go_at_call 162;refine(q2e _ _).mono ?_;rintro e w' ⟨rfl,rfl⟩);refine qn7 (f:=161) (args:=#[.pointer (some (A+1:Nat))]) (by simp) (by simp[go_sem]) ?_;refine(QG (A+1) 0 10 [] _ b0.out).mono ?_;rintro e u' d9 ⟨rfl,rfl,rfl⟩;have hh:=HG1.out.trans HG.out;have b6:=qg (o:=0) (v:=.int .i64 10) (qp (p:=.cells #[.int .i64 10] 181) b0.out);simp[Leaves,settle,qjb,qm5,go_sem,qhs,b6,HC.out];exact(hh.trans (qgw _ _ none)).andThen (qe _ _ _ _) (by rintro j e;cases e;exact .inl (by have:=HA.out;omega))
theorem q53{ps:List Par}{lim:Int}(h:jz ps lim=0):YOk ps lim:=by
 unfold jz at h;by_cases h5:5<ps.length
 ·rw[if_pos h5] at h;cases h
 ·rw[if_neg h5] at h;cases hf:ps.find? (λp=>decide (xK p≠0)) with
  | some p=>
   rw[hf] at h;have:=List.find?_some hf;simp at this;exact absurd h this
  | none=>
   rw[hf] at h;simp only at h;have hl:1<=lim/\lim<=12:=qhF λhn=>by rw[if_neg hn] at h;cases h
   refine⟨by omega,λp hp=>?_,hl.1,hl.2⟩;have h0:=qlk.1 hf p hp;simp only[decide_eq_true_eq,ne_eq,Decidable.not_not] at h0;unfold xK at h0;split at h0
   ·split at h0
    ·split at h0
     ·cases h0
     ·split at h0
      ·split at h0
       ·omega
       ·cases h0
      ·cases h0
    ·cases h0
   ·cases h0
theorem q8d(lo hi:Nat)(pv qv:qgB)(ps:List Par)(lim:Int)(l:List Int)(w:qgx)(hP:qn lo hi w pv ps)(hI:qf lo hi w qv l)(hhi:hi<=w.heap.size)(hok:YOk ps lim)(hlen:l.length<=1000) :qhw Ya 81 #[.agg #[pv,lim],qv] w λe w'=>e=.returned (.tuple #[.agg #[pv,lim],(QJ ps lim l)])/\w.grownBy w' none:=by
 obtain⟨yb,yc,rfl,e5,-⟩:=hP.cell;obtain⟨base,cap,rfl,e9,-⟩:=hI.cell;obtain⟨A,w1,hA,b8,b0,b7,c8,e8⟩:=zp w (.cells #[.slice yb ps.length yc,lim] 24) (.cells #[.slice none 0 0,.int .i64 0] 91);have e4:=qgv (hI.kept b0);have d7:=qgv (hP.kept b0);have ⟨HW1,HA,HG1,HR1,HB1⟩:=ZS b8 hA b0 c8 b7;have q0:=q8 b7 (o:=0) rfl;have q1:=q8 b7 (o:=1) rfl;have g5:hi<=A:=by omega
 have HY:=qgv hok;clear hP hI hok b8 hA b0 c8 b7;go_enter Tp.x81,qqi;go_upto_region 1 with(fail);rw[<- HA.out,<- HW1.out];go_upto_region 4 with(go_at_call 52;refine(QF lo hi _ ps lim _ ⟨_,rfl,d7.out⟩ (by omega)).mono ?_;rintro e w2 ⟨rfl,d6⟩;rw[HY.out.chk];have HG2:=qgv d6;clear d6);have p0:=HG2.out.cl q0;have p1:=HG2.out.cl q1;have e7:=HG2.out.size;clear q0 q1;go_upto_region 5 with(fail);obtain⟨Y,a8⟩:∃Y,Y=w2.heap.size:=⟨_,rfl⟩;obtain⟨w3,a6⟩:∃w3,w3=w2.alloc (.cells #[.slice yb ps.length yc,lim] 91):=⟨_,rfl⟩;have a7:w2.grownBy w3 none:=by rw[a6];exact qgw _ _ none
 have b6:w3.heap[Y]?=some (.cells #[.slice yb ps.length yc,lim] 91 (0,0)):=by rw[a6,a8];exact qgF _ _
 have e6:w3.heap.size=Y+1:=by rw[a6,qh6,a8]
 rw[<- a8,<- a6];have q0:=q8 b6 (o:=0) rfl;have q1:=q8 b6 (o:=1) rfl;have HR3:=qgv (bk a7 (blk HG2.out (by simp) HR1.out));have HB3:=qgv b6;have HG3:=qgv ((HG1.out.trans HG2.out).trans a7);have d9:=qgv ((e4.out.kept HG2.out).kept a7);have d8:=qgv ((d7.out.kept HG2.out).kept a7);have g6:A+1<Y:=by omega
 clear a7 b6 a6 a8 p0 p1;go_region_law
  (first
   | (go_simp;go_at_call 133;refine(q6j lo hi _ _ ps lim l _ ⟨_,rfl,d8.out.kept (qc _ none)⟩ (d9.out.kept (qc _ none)) (by simp;omega) HY.out.len (λp hp=>by have:=HY.out.each p hp;omega) hlen).mono ?_;rintro e w4 ⟨rfl,d5⟩;have HG4:=qgv ((qc w3 none).trans d5);have r0:=q8 (o:=0) (bk HG4.out HB3.out) rfl;have r1:=q8 (o:=1) (bk HG4.out HB3.out) rfl;have s0:=q8 (o:=0) (bk HG4.out HR3.out) rfl;have s1:=q8 (o:=1) (bk HG4.out HR3.out) rfl;have f0:=qm (o:=0) (bk HG4.out HR3.out);have f1:=qm (o:=1) (bk HG4.out HR3.out);clear d5))
 all_goals
  have b9:=bk HG4.out HR3.out;obtain⟨W,a9⟩:∃W,W=(w4.setCell (A+1:Nat) (.slice yb ps.length yc)).setCell ⟨A+1,1,none⟩ (.int .i64 lim):=⟨_,rfl⟩;have c3:W.heap[A+1]?=some (.cells #[.slice yb ps.length yc,lim] 91 (0,0)):=by rw[a9,qg (qg b9)];rfl
  have c9:w.grownBy W none:=(HG3.out.trans HG4.out).andThen (row':=some (A+1)) (by rw[a9];exact(qe _ _ _ _).trans (qe _ _ _ _)) (by rintro j e;cases e;exact .inl (by have:=HA.out;omega));have ⟨HRW,HGW,HWe⟩:=z8 c3 c9 a9;clear b9 c3 c9 a9;go_wp2;rw[<- HWe.out];exact qj8 (v:=.tuple #[.agg #[.slice yb ps.length yc,lim],(QJ ps lim l)]) (by simp[qjb,qpk,go_sem,qhs,HRW.out]) rfl ⟨rfl,HGW.out⟩
def kP(ps:List Par)(lim:Int)(l:List Int):Int:=if jz ps lim=0 then QJ ps lim l else jz ps lim
theorem q3C(lo hi:Nat)(pv qv:qgB)(ps:List Par)(lim:Int)(l:List Int)(w:qgx)(hP:qn lo hi w pv ps)(hI:qf lo hi w qv l)(hhi:hi<=w.heap.size)(hlen:l.length<=1000) :qhw Ya 81 #[.agg #[pv,lim],qv] w λe w'=>∃a n c b,e=.returned (.tuple #[.agg #[.slice a n c,.int .i64 b],(kP ps lim l)])/\w.grownBy w' none/\(jz ps lim=0->.slice a n c=pv/\b=lim):=by
 by_cases hc:jz ps lim=0
 ·have:=q8d lo hi pv qv ps lim l w hP hI hhi (q53 hc) hlen;unfold kP;rw[if_pos hc];refine this.mono ?_;rintro e w' ⟨rfl,hg⟩;obtain⟨yb,yc,rfl,-,-⟩:=hP.cell;exact⟨_,_,_,_,rfl,hg,λ_=>⟨rfl,rfl⟩⟩
 ·have hcc:kP ps lim l=jz ps lim:=if_neg hc;rw[hcc];obtain⟨yb,yc,rfl,d5,-⟩:=hP.cell;obtain⟨base,cap,rfl,d6,-⟩:=hI.cell;obtain⟨A,w1,hA,b0,a6,a9,b6,-⟩:=zp w (.cells #[.slice yb ps.length yc,lim] 24) (.cells #[.slice none 0 0,.int .i64 0] 91);have c8:=qgv (hP.kept a6);have ⟨HW1,HA,HG1,HR1⟩:=zY b0 hA a6 b6;have q0:=q8 a9 (o:=0) rfl;have q1:=q8 a9 (o:=1) rfl;have b8:hi<=w1.heap.size:=qh0 hhi a6.size;clear hP hI b0 hA a6 b6 a9 hcc;obtain⟨c,a7⟩:∃c,c=jz ps lim:=⟨_,rfl⟩;rw[<- a7] at hc ⊢;have c9:=qgv a7;have hc0:(c == 0)=false:=by rw[beq_eq_false_iff_ne];exact hc
  have HC:=qgv hc;clear a7 hc;go_enter Tp.x81,qqi;go_upto_region 1 with(fail);rw[<- HA.out,<- HW1.out];go_upto_region 2 with(go_at_call 52;refine(QF lo hi _ ps lim _ ⟨_,rfl,c8.out⟩ b8).mono ?_;rintro e w2 ⟨rfl,b7⟩;rw[<- c9.out];have HG2:=qgv b7;clear b7);have HR2:=qgv (bk HG2.out HR1.out);have r0:=q8 (o:=0) HR2.out rfl;have r1:=q8 (o:=1) HR2.out rfl;have f0:=qm (o:=0) HR2.out;have f1:=qm (o:=1) HR2.out;go_wp2;obtain⟨W,a8⟩:∃W,W=(w2.setCell (A+1:Nat) (.slice none 0 0)).setCell ⟨A+1,1,none⟩ (.int .i64 0):=⟨_,rfl⟩;have b9:W.heap[A+1]?=some (.cells #[.slice none 0 0,.int .i64 0] 91 (0,0)):=by rw[a8,qg (qg HR2.out)];rfl
  have c3:w.grownBy W none:=(HG1.out.trans HG2.out).andThen (row':=some (A+1)) (by rw[a8];exact(qe _ _ _ _).trans (qe _ _ _ _)) (by rintro j e;cases e;exact .inl (by have:=HA.out;omega));rw[<- a8];exact qj8 (v:=.tuple #[.agg #[.slice none 0 0,.int .i64 0],.int .i64 c]) (by simp[qjb,qpk,go_sem,qhs,b9]) rfl ⟨_,_,_,_,rfl,c3,λh=>absurd h HC.out⟩
theorem q07(pv qv:qgB)(ps:List Par)(lim:Int)(l:List Int)(w:qgx)(hP:qn 0 w.heap.size w pv ps)(hI:qf 0 w.heap.size w qv l)(hlen:l.length<=1000) :qhw Ya 49 #[.agg #[pv,lim],qv] w λe w'=>e=.returned (.int .i64 (kP ps lim l))/\w.grownBy w' none:=by
 obtain⟨yb,yc,rfl,a8,-⟩:=hP.cell;obtain⟨base,cap,rfl,a9,-⟩:=hI.cell;have a6:=qgw w (.cells #[.slice yb ps.length yc,lim] 24) none;have HO:=qgv (q3C 0 w.heap.size _ _ ps lim l _ (hP.kept a6) (hI.kept a6) a6.size hlen);have HG:=qgv a6;generalize kP ps lim l=c at HO ⊢;clear a6 hP hI;go_enter Tp.x49,Tryz.ntmps49;go_wp2_with (go_at_call 81;refine HO.out.mono ?_;rintro e w2 ⟨ya,yn,yk,yl,rfl,a7,-⟩;have HG2:=qgv (HG.out.trans a7);clear a7);go_ret;exact⟨rfl,HG2.out.trans (qgw _ _ none)⟩
end
end Go.Proofs.YtidgnkmjgioapaaGreat
