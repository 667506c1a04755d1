/-
  Part 3 of the proof. gladstonelaw04.PileCounts answers true for every yard, parcel and list of numbers that the statement takes, and leaves its arguments as they were. No conditions.
-/
import Derived.Test.YtidgnkmjgioapaaGreatChecked
import Derived.KernelRfl
import Derived.WalkKit
import Derived.WalkSpells
import Derived.WalkLawsBesides
import GoSem.Step
import Derived.RegionTactic
import Derived.ChangeAlike
import Derived.Deep.QuietTactic
import Derived.BigQuiet
import Derived.OneCell
import Derived.Maps.AppendAt
import Derived.Lib.Hide
import Derived.Maps.Range
import Derived.Deep.AppendLies
import Derived.Deep.RegionHeld3
import Derived.Deep.RegionLawGrows
import Derived.LoopTactic
import Derived.Deep.DeepCutAuto
import Derived.LoopIn
import Derived.LoopNIn
import Derived.BigRegion
import Derived.Deep.RegionLaw
import Derived.Recover
import Derived.Defers
import Derived.Deep.OwnRows
import Derived.StillTail
import Derived.Maps.RangeWalk
import Derived.OrdersHeld
import Derived.RangeFuncNested
import Derived.RangeFuncBound
import Derived.RangeFuncCalls
import Derived.RangeFuncLeaves
import Derived.RangeFuncFrom
import Derived.OrdersIn
import Derived.TacticsIn
import Derived.Conc.WgGenN3
import Derived.Laws.StructEq
import Derived.RangeFuncBox
set_option maxRecDepth 100000
set_option maxHeartbeats 8000000
set_option linter.all false
open And renaming intro->qi8
open Array renaming all_eq_true_iff_forall_mem->qju,getElem?_eq_some_iff->qhs,getElem?_modify->qmi,getElem?_setIfInBounds->qiC,getElem?_setIfInBounds_ne->qjb,getElem?_setIfInBounds_self_of_lt->ql3,mem_of_getElem?->qjB,mem_toList_iff->qko,replicate->qiE,replicate_succ->qie,replicate_zero->qif
open Bool renaming and_eq_true->qic,eq_false_iff->qm2,false_eq_true->qiv,not_eq_true'->qkz,not_true->qnD,or_eq_true->qkt
open Classical renaming byContradiction->qj6
open Go renaming Addr->qiG,Calls->qis,Code->qkh,Oper->qjn,Operand->qiy,PanicEntry->qn0,Program->qhF,TypeId->qi4,TypeInfo->qlD,Value->qhu,World->qhr,bodyPost_ret->qka,bytes->qon,callsIn_wide->qjA,execOp->qkA,grownBy_putObj'->ql8,heap_alloc_new->qhA,info_parts->qjx,leaves_cons->qob,madeCells->qoB,maxLen->qlg,ownsRow_succ->qn6,results->qke,results_cell_tmp->qpy,typeInfo->qlx,undef->qhx,underlying->qle,wpAny_of_seq->qrg,wpS_region->qq2,yielded->qjt,zeroValue->qmy
open Go.Addr renaming block->qph
open Go.Builtin renaming append_->ql7,zeroCells->qki
open Go.Calls renaming quiet_of_same->qk0
open Go.Instr renaming endRound->qkE,index->qo9,makeFunc->qs1,typeAssert->qlz
open Go.IntWalk renaming i64_in->qin
open Go.Lib renaming hid->qhp
open Go.Proofs.Tryz renaming f11->qol,f136->qoA,f137->qqp,f54->qnE,f82->qqh,f85->qly,ntmps109->qnF,ntmps110->qqE,ntmps161->qpr,ntmps81->qrf,prog->qi2,results133->qn9,results161->qrF,results81->qqi,underlying3->qmD
open Go.Region renaming Mode->qlv,binds->qj0,chainB->qps,free->qrC,noSelect->qq7,ready->qia,seqB->qmH,sinkB->qq3,wanted->qip
open Go.Result renaming andThen->qnr,andThen_ok->qjl
open Go.RowKit renaming intOf->qiF
open Go.RowKit.Below renaming heap_setCell->qj4,refl->qns
open Go.Sem renaming run_bind->qjo,run_pure->qmo
open Go.Value renaming int->qid,oneCell'->qjD,ownBlock->qix,slice->qjc
open Go.World renaming alloc_heap_new->qqj,cell?->qiq,cell?_setCell_other->qjz,cell?_setCell_same->qmw,frozen?->qlt,grownBy_alloc->qhq,news_of_block->qje,ownsRow_nil->qjF,putObj_heap_other->qmC,putObj_heap_same->qn5,setCell->qk2,size_alloc->qhH
open Go.World.grownBy renaming refl->qhD
open List renaming all_eq_true->qiB,append_toArray->ql1,cons_append->qi7,drop_eq_getElem_cons->qkd,drop_eq_nil_of_le->qkr,drop_succ_cons->qig,drop_zero->qit,eq_nil_of_length_eq_zero->qja,ext_getElem?->qnj,find?_eq_none->qn3,flatMap_cons->qkl,foldl_cons->qln,getElem?_append_left->qir,getElem?_append_right->qjv,getElem?_drop->qlA,getElem?_eq_getElem->qhz,getElem?_eq_none->qjp,getElem?_eq_some_iff->qi3,getElem?_map->qjE,getElem?_of_mem->qp2,getElem?_range->qm5,getElem?_set_ne->qls,getElem?_set_self->qn4,getElem?_take->qn2,getElem?_take_of_lt->qk4,getElem?_toArray->qou,getElem_mem->qmB,length_append->qj1,length_cons->qhE,length_drop->qlc,length_map->qkk,length_nil->qi1,length_set->qo1,map_cons->qll,map_nil->qmq,map_toArray->qmc,mem_append->qku,mem_cons->qjr,mem_iff_getElem?->qot,mem_map->qlp,mem_of_getElem?->qi9,mem_of_mem_take->qmp,mem_range->qjC,mem_singleton->ql4,nil_append->qii,not_mem_nil->qjG,push_toArray->qio,range->qil,range'->qmG,range_succ->qlo,size_toArray->qim,take_add_one->qj7,take_length->qjs,take_of_length_le->qom
open Nat renaming add_assoc->qnb,add_mul->qoc,le_refl->qhv,le_trans->qhB,lt_of_lt_of_le->qi0,lt_or_ge->qjy,reduceAdd->qib,reduceSub->qiA,zero_add->qi6
open Option renaming getD_some->qhC,map_some->qjh
open Option.some renaming inj->qkD,injEq->qiD
namespace Go.Proofs
section
open Go Go.RowKit
def qg3{Y:Type}(p q:qhF)(w:qhr)(r:Unsupported):(unsupported r:Sem Y).run p w=(unsupported r:Sem Y).run q w:=by unfold unsupported;rfl
section
variable(p q:qhF)(h:p.toTables=q.toTables)(w:qhr)(t:qi4)
include h
theorem q35:p.info? t=q.info? t:=congrArg (λT=>Tables.info? T t) h
theorem qcy:p.underlying t=q.underlying t:=by
 unfold Program.underlying;simp only[q35 p q h]
theorem qcz:(qlx t).run p w=(qlx t).run q w:=by
 unfold qlx;show(match p.info? t with | some i=>(pure i:Sem qlD) | none=>stuck "no such type").run p w=(match q.info? t with | some i=>(pure i:Sem qlD) | none=>stuck "no such type").run q w;rw[q35 p q h];cases q.info? t<;>rfl
theorem qeF:(qle t).run p w=(qle t).run q w:=by
 unfold qle;show(match p.underlying t with | some i=>(pure i:Sem TypeDesc) | none=>stuck "no such type").run p w=(match q.underlying t with | some i=>(pure i:Sem TypeDesc) | none=>stuck "no such type").run q w;rw[qcy p q h];cases q.underlying t<;>rfl
theorem qeq:(sizeOf t).run p w=(sizeOf t).run q w:=by
 unfold sizeOf;simp only[qjo,qcz p q h];cases(qlx t).run q w<;>rfl
theorem qep:(qmy t).run p w=(qmy t).run q w:=by
 unfold qmy;simp only[qjo,qcz p q h];cases hh:(qlx t).run q w with
 | ok i w'=>
  simp only[qjl];split
  ·rfl
  ·exact qg3 p q w' _
 | _=>simp only[qnr]
theorem qg4:(isAgg t).run p w=(isAgg t).run q w:=by
 unfold isAgg;simp only[qjo,qeF p q h];cases hh:(qle t).run q w with
 | ok i w'=>
  simp only[qjl];split<;>simp only[qmo]
 | _=>simp only[qnr]
end
noncomputable def Ya:qhF:={ qi2 with funcs:=Tryz.prog.funcs.setIfInBounds 85 { qly with body:=some (.exit 0) } }
section
variable(w:qhr)(t:qi4)
@[simp] theorem Tp.tables:Ya.toTables=Tryz.prog.toTables:=rfl
@[simp] theorem Tp.und:Ya.underlying t=Tryz.prog.underlying t:=qcy _ _ Tp.tables t
@[simp] theorem Tp.rTypeInfo:(qlx t).run Ya w=(qlx t).run qi2 w:=qcz _ _ Tp.tables w t
@[simp] theorem Tp.rUnder:(qle t).run Ya w=(qle t).run qi2 w:=qeF _ _ Tp.tables w t
@[simp] theorem Tp.rSizeOf:(sizeOf t).run Ya w=(sizeOf t).run qi2 w:=qeq _ _ Tp.tables w t
@[simp] theorem Tp.rIsAgg:(isAgg t).run Ya w=(isAgg t).run qi2 w:=qg4 _ _ Tp.tables w t
@[simp] theorem Tp.rZero:(qmy t).run Ya w=(qmy t).run qi2 w:=qep _ _ Tp.tables w t
end
end
section
open Go Go.RowKit
abbrev Yc (f:Nat)(g:Func):Prop:=Ya.funcs[f]?=some g
abbrev Ye (f:Nat):Prop:=∀(a:Array qhu) (w:qhr),(callFunc f a).run Ya w=.ok (.enter f a) w
def Yf(f:Nat)(h:(match Ya.funcs[f]? with | some g=>!(g.name == "runtime.NumGoroutine") && g.body.isSome | none=>false)=true:=by kernel_rfl):Ye f:=by
 intro a w;cases e:Ya.funcs[f]? with
 | none=>rw[e] at h;cases h
 | some g=>
  rw[e] at h;simp only[qic,qkz] at h;have d:g.name ≠ "runtime.NumGoroutine" := λb=>by rw[b] at h;exact absurd h.1 (by decide)
  have c:g.body≠none:=λb=>by rw[b] at h;cases h.2
  simp[callFunc,go_sem,e,d,c]
def Yd{f:Nat}{g:Func}(h:Ya.funcs[f]?=some g:=by kernel_rfl):Yc f g:=h
def Tp.x11:Yc 11 qol:=Yd
def Tp.x23:Yc 23 Tryz.f23:=Yd
def Tp.x24:Yc 24 Tryz.f24:=Yd
def Tp.x25:Yc 25 Tryz.f25:=Yd
def Tp.x27:Yc 27 Tryz.f27:=Yd
def Tp.x29:Yc 29 Tryz.f29:=Yd
def Tp.x31:Yc 31 Tryz.f31:=Yd
def Tp.x32:Yc 32 Tryz.f32:=Yd
def Tp.x33:Yc 33 Tryz.f33:=Yd
def Tp.x35:Yc 35 Tryz.f35:=Yd
def Tp.x36:Yc 36 Tryz.f36:=Yd
def Tp.x37:Yc 37 Tryz.f37:=Yd
def Tp.x38:Yc 38 Tryz.f38:=Yd
def Tp.x39:Yc 39 Tryz.f39:=Yd
def Tp.x44:Yc 44 Tryz.f44:=Yd
def Tp.x51:Yc 51 Tryz.f51:=Yd
def Tp.x52:Yc 52 Tryz.f52:=Yd
def Tp.x53:Yc 53 Tryz.f53:=Yd
def Tp.x54:Yc 54 qnE:=Yd
def Tp.x59:Yc 59 Tryz.f59:=Yd
def Tp.x60:Yc 60 Tryz.f60:=Yd
def Tp.x61:Yc 61 Tryz.f61:=Yd
def Tp.x62:Yc 62 Tryz.f62:=Yd
def Tp.x63:Yc 63 Tryz.f63:=Yd
def Tp.x65:Yc 65 Tryz.f65:=Yd
def Tp.x68:Yc 68 Tryz.f68:=Yd
def Tp.x70:Yc 70 Tryz.f70:=Yd
def Tp.x80:Yc 80 Tryz.f80:=Yd
def Tp.x81:Yc 81 Tryz.f81:=Yd
def Tp.x82:Yc 82 qqh:=Yd
def Tp.x83:Yc 83 Tryz.f83:=Yd
def Tp.x84:Yc 84 Tryz.f84:=Yd
def Tp.x86:Yc 86 Tryz.f86:=Yd
def Tp.x87:Yc 87 Tryz.f87:=Yd
def Tp.x89:Yc 89 Tryz.f89:=Yd
def Tp.x90:Yc 90 Tryz.f90:=Yd
def Tp.x91:Yc 91 Tryz.f91:=Yd
def Tp.x92:Yc 92 Tryz.f92:=Yd
def Tp.x93:Yc 93 Tryz.f93:=Yd
def Tp.x94:Yc 94 Tryz.f94:=Yd
def Tp.x95:Yc 95 Tryz.f95:=Yd
def Tp.x96:Yc 96 Tryz.f96:=Yd
def Tp.x98:Yc 98 Tryz.f98:=Yd
def Tp.x99:Yc 99 Tryz.f99:=Yd
def Tp.x100:Yc 100 Tryz.f100:=Yd
def Tp.x101:Yc 101 Tryz.f101:=Yd
def Tp.x102:Yc 102 Tryz.f102:=Yd
def Tp.x103:Yc 103 Tryz.f103:=Yd
def Tp.x105:Yc 105 Tryz.f105:=Yd
def Tp.x106:Yc 106 Tryz.f106:=Yd
def Tp.x108:Yc 108 Tryz.f108:=Yd
def Tp.x109:Yc 109 Tryz.f109:=Yd
def Tp.x110:Yc 110 Tryz.f110:=Yd
def Tp.x111:Yc 111 Tryz.f111:=Yd
def Tp.x112:Yc 112 Tryz.f112:=Yd
def Tp.x113:Yc 113 Tryz.f113:=Yd
def Tp.x114:Yc 114 Tryz.f114:=Yd
def Tp.x115:Yc 115 Tryz.f115:=Yd
def Tp.x117:Yc 117 Tryz.f117:=Yd
def Tp.x118:Yc 118 Tryz.f118:=Yd
def Tp.x119:Yc 119 Tryz.f119:=Yd
def Tp.x120:Yc 120 Tryz.f120:=Yd
def Tp.x121:Yc 121 Tryz.f121:=Yd
def Tp.x122:Yc 122 Tryz.f122:=Yd
def Tp.x123:Yc 123 Tryz.f123:=Yd
def Tp.x125:Yc 125 Tryz.f125:=Yd
def Tp.x126:Yc 126 Tryz.f126:=Yd
def Tp.x129:Yc 129 Tryz.f129:=Yd
def Tp.x130:Yc 130 Tryz.f130:=Yd
def Tp.x131:Yc 131 Tryz.f131:=Yd
def Tp.x132:Yc 132 Tryz.f132:=Yd
def Tp.x133:Yc 133 Tryz.f133:=Yd
def Tp.x134:Yc 134 Tryz.f134:=Yd
def Tp.x135:Yc 135 Tryz.f135:=Yd
def Tp.x136:Yc 136 qoA:=Yd
def Tp.x137:Yc 137 qqp:=Yd
def Tp.x145:Yc 145 Tryz.f145:=Yd
def Tp.x147:Yc 147 Tryz.f147:=Yd
def Tp.x148:Yc 148 Tryz.f148:=Yd
def Tp.x149:Yc 149 Tryz.f149:=Yd
def Tp.x150:Yc 150 Tryz.f150:=Yd
def Tp.x151:Yc 151 Tryz.f151:=Yd
def Tp.x152:Yc 152 Tryz.f152:=Yd
def Tp.x153:Yc 153 Tryz.f153:=Yd
def Tp.x154:Yc 154 Tryz.f154:=Yd
def Tp.x155:Yc 155 Tryz.f155:=Yd
def Tp.x156:Yc 156 Tryz.f156:=Yd
def Tp.x157:Yc 157 Tryz.f157:=Yd
def Tp.x158:Yc 158 Tryz.f158:=Yd
def Tp.x160:Yc 160 Tryz.f160:=Yd
def Tp.x161:Yc 161 Tryz.f161:=Yd
def Tp.x162:Yc 162 Tryz.f162:=Yd
def Tp.x163:Yc 163 Tryz.f163:=Yd
def Tp.x164:Yc 164 Tryz.f164:=Yd
def Tp.x165:Yc 165 Tryz.f165:=Yd
def Tp.x188:Yc 188 Tryz.f188:=Yd
def Tp.x197:Yc 197 Tryz.f197:=Yd
def Tp.x198:Yc 198 Tryz.f198:=Yd
def Tp.x199:Yc 199 Tryz.f199:=Yd
@[simp] theorem Tp.callPf:Ye 24/\Ye 25/\Ye 27/\Ye 31/\Ye 32/\Ye 33/\Ye 35/\Ye 36/\Ye 37/\Ye 38/\Ye 39/\Ye 44/\Ye 51/\Ye 52/\Ye 53/\Ye 54/\Ye 59/\Ye 60/\Ye 61/\Ye 62/\Ye 63/\Ye 65/\Ye 68/\Ye 70/\Ye 80/\Ye 81/\Ye 82/\Ye 84/\Ye 86/\Ye 87/\Ye 89/\Ye 90/\Ye 91/\Ye 92/\Ye 93/\Ye 94/\Ye 95/\Ye 96/\Ye 98/\Ye 99/\Ye 100/\Ye 102/\Ye 103/\Ye 105/\Ye 106/\Ye 108/\Ye 109/\Ye 110/\Ye 111/\Ye 112/\Ye 113/\Ye 114/\Ye 115/\Ye 117/\Ye 118/\Ye 119/\Ye 121/\Ye 122/\Ye 123/\Ye 125/\Ye 126/\Ye 129/\Ye 130/\Ye 131/\Ye 132/\Ye 133/\Ye 134/\Ye 135/\Ye 136/\Ye 145/\Ye 147/\Ye 148/\Ye 150/\Ye 151/\Ye 152/\Ye 153/\Ye 154/\Ye 155/\Ye 156/\Ye 157/\Ye 158/\Ye 160/\Ye 161/\Ye 162/\Ye 163/\Ye 164/\Ye 188/\Ye 197/\Ye 198/\Ye 199:=⟨Yf 24,Yf 25,Yf 27,Yf 31,Yf 32,Yf 33,Yf 35,Yf 36,Yf 37,Yf 38,Yf 39,Yf 44,Yf 51,Yf 52,Yf 53,Yf 54,Yf 59,Yf 60,Yf 61,Yf 62,Yf 63,Yf 65,Yf 68,Yf 70,Yf 80,Yf 81,Yf 82,Yf 84,Yf 86,Yf 87,Yf 89,Yf 90,Yf 91,Yf 92,Yf 93,Yf 94,Yf 95,Yf 96,Yf 98,Yf 99,Yf 100,Yf 102,Yf 103,Yf 105,Yf 106,Yf 108,Yf 109,Yf 110,Yf 111,Yf 112,Yf 113,Yf 114,Yf 115,Yf 117,Yf 118,Yf 119,Yf 121,Yf 122,Yf 123,Yf 125,Yf 126,Yf 129,Yf 130,Yf 131,Yf 132,Yf 133,Yf 134,Yf 135,Yf 136,Yf 145,Yf 147,Yf 148,Yf 150,Yf 151,Yf 152,Yf 153,Yf 154,Yf 155,Yf 156,Yf 157,Yf 158,Yf 160,Yf 161,Yf 162,Yf 163,Yf 164,Yf 188,Yf 197,Yf 198,Yf 199⟩
end
end Go.Proofs
namespace Go
section
instance:Coe Nat qiG:=⟨λx=>⟨x,0,none⟩⟩
instance:Coe Int qhu:=⟨λx=>.int .i64 x⟩
instance:Coe Nat qhu:=⟨λx=>.int .i64 x⟩
end
end Go
namespace Go.Proofs.YtidgnkmjgioapaaGreat
section
open Go.RowKit
theorem _root_.Go.World.grownBy.t{w u v:qhr}{r:Option Nat}(h:w.grownBy u r)(d:u.grownBy v r):w.grownBy v r:=h.trans d
abbrev _root_.Go.World.gb:=World.grownBy
theorem _root_.Eq.t{Y:Type}{a b c:Y}(h:a=b)(d:b=c):a=c:=h.trans d
theorem _root_.List.Perm.t{Y:Type}{a b c:List Y}(h:a.Perm b)(d:b.Perm c):a.Perm c:=h.trans d
theorem _root_.List.Sublist.t{Y:Type}{a b c:List Y}(h:a.Sublist b)(d:b.Sublist c):a.Sublist c:=h.trans d
theorem _root_.Go.RowKit.Below.t{n:Nat}{a b c:qhr}(h:Below n a b)(d:Below n b c):Below n a c:=h.trans d
def qi{w:qhr}{b:Nat}{a:Array qhu}{e:qi4}{o:Nat}{v:qhu}(h:w.heap[b]?=some (.cells a e (0,0))) :(w.setCell ⟨b,o,none⟩ v).heap[b]?=some (.cells (a.setIfInBounds o v) e (0,0)):=by
 simp[qk2,qmi,h]
def qh(w:qhr)(b o:Nat)(v:qhu):w.gb (w.setCell ⟨b,o,none⟩ v) (some b) :=
 ⟨rfl,rfl,rfl,by simp[qk2],λk _ a=>qj4 _ _ _ _ (λe=>a (by rw[e]))⟩
def qk(w:qhr)(n:Nat)(a:Option Nat):w.gb (w.drewN n) a:=⟨rfl,rfl,rfl,qhv _,λ_ _ _=>rfl⟩
def qe(w:qhr)(a:Option Nat):w.gb w.drew a:=⟨rfl,rfl,rfl,qhv _,λ_ _ _=>rfl⟩
def blk{w c:qhr}{a:Option Nat}{X:Nat}{o:Obj}(d:w.gb c a)(b:some X≠a)(h:w.heap[X]?=some o):c.heap[X]?=some o :=
 (d.block X (qhs.1 h).1 b).trans h
def bk{w c:qhr}{a:Option Nat}{X:Nat}{o:Obj}(d:w.gb c a)(h:w.heap[X]?=some o)(b:some X≠a:=by simp):c.heap[X]?=some o:=blk d b h
def _root_.Go.World.grownBy.cl{w d:qhr}{b:Option Nat}(e:w.grownBy d b){a:qiG}{v:qhu}(h:w.cell? a=some v)(c:some a.block≠b:=by simp):d.cell? a=some v:=e.cell h c
def qE{b a:Prop}(d:b)(c:a):Hid b/\Hid a:=⟨qhp d,qhp c⟩
def ze{c b a:Prop}(f:c)(e:b)(d:a):Hid c/\Hid b/\Hid a:=⟨qhp f,qhp e,qhp d⟩
def j8{d c b a:Prop}(h:d)(g:c)(f:b)(e:a):Hid d/\Hid c/\Hid b/\Hid a:=⟨qhp h,qhp g,qhp f,qhp e⟩
def ZW{e d c b a:Prop}(j:e)(i:d)(h:c)(g:b)(f:a):Hid e/\Hid d/\Hid c/\Hid b/\Hid a:=⟨qhp j,qhp i,qhp h,qhp g,qhp f⟩
def Kq{f e d c b a:Prop}(l:f)(k:e)(j:d)(i:c)(h:b)(g:a):Hid f/\Hid e/\Hid d/\Hid c/\Hid b/\Hid a:=⟨qhp l,qhp k,qhp j,qhp i,qhp h,qhp g⟩
def q6k{g f e d c b a:Prop}(o:g)(n:f)(l:e)(k:d)(j:c)(i:b)(h:a):Hid g/\Hid f/\Hid e/\Hid d/\Hid c/\Hid b/\Hid a:=⟨qhp o,qhp n,qhp l,qhp k,qhp j,qhp i,qhp h⟩
def qbB{h g f e d c b a:Prop}(q:h)(p:g)(o:f)(n:e)(l:d)(k:c)(j:b)(i:a):Hid h/\Hid g/\Hid f/\Hid e/\Hid d/\Hid c/\Hid b/\Hid a:=⟨qhp q,qhp p,qhp o,qhp n,qhp l,qhp k,qhp j,qhp i⟩
def qq{w:qhr}{X:Nat}{o p:Obj}(h:w.heap[X]?=some o):(w.alloc p).heap[X]?=some o:=blk (qhq w p none) (by simp) h
def zo(w:qhr)(a:Obj):∃A b,A=w.heap.size/\b=w.alloc a/\w.gb b none/\b.heap[A]?=some a:=⟨_,_,rfl,rfl,qhq _ _ none,qhA w _⟩
def zy(w:qhr)(a b:Obj):∃A c,A=w.heap.size/\c=(w.alloc a).alloc b/\w.gb c none/\c.heap[A]?=some a/\c.heap[A+1]?=some b/\c.heap.size=A+2:=⟨_,_,rfl,rfl,(qhq _ _ none).t (qhq _ _ none),qq (qhA w _),by
 have:=qhA (w.alloc a) b
 rwa [qhH] at this,by rw[qhH,qhH]⟩
def q8{w:qhr}{Q o b:Nat}{a:Array qhu}{d:Nat × Nat}{v:qhu}(h:w.heap[Q]?=some (.cells a b d))(c:a[o]?=some v):w.cell? ⟨Q,o,none⟩=some v:=by simp[qiq,h,c]
def qn{w:qhr}{Q o a:Nat}{b:Array qhu}(h:w.heap[Q]?=some (.cells b a (0,0))):w.frozen? ⟨Q,o,none⟩=false:=by simp[qlt,h]
def kS(w:qhr)(a:Array qhu)(b:qi4)(k:Nat):(w.alloc (.cells a b)).cell? ⟨w.heap.size,k,none⟩=a[k]?:=by
 unfold qiq;rw[show(w.alloc (.cells a b)).heap[(⟨w.heap.size,k,none⟩:qiG).block]?=some (.cells a b) from qhA w _];simp
def qg(c d:Nat)(w:qhr)(v:qhu)(l:List Int):Prop :=
 ∃base a,v=.slice base l.length a/\(l.length:Int)<=1000000 /\
  (l≠[]->∃B o b e,base=some ⟨B,o,none⟩/\c<=B/\B<d/\w.heap[B]?=some (.cells b 3 e)/\∀i,i<l.length->b[o+i]?=some (.int .i64 (l[i]?.getD 0)))
def qg.nil(a b:Nat)(w:qhr):qg a b w (.slice none 0 0) []:=⟨none,0,rfl,by decide,λh=>absurd rfl h⟩
def qg.mono{e f a b:Nat}{w:qhr}{v:qhu}{l:List Int}(h:qg e f w v l)(s:a<=e)(r:f<=b):qg a b w v l:=by
 obtain⟨base,d,rfl,i,g⟩:=h;refine⟨base,d,rfl,i,λc=>?_⟩;have⟨B,o,q,j,p,u,t,n,k⟩:=g c;exact⟨B,o,q,j,p,by omega,by omega,n,k⟩
def qg.kept{a g:Nat}{w w':qhr}{v:qhu}{l:List Int}{row:Option Nat}(h:qg a g w v l)(p:w.gb w' row)(j:∀R,row=some R->R<a\/g<=R:=by simp):qg a g w' v l:=by
 obtain⟨base,i,rfl,k,d⟩:=h;refine⟨base,i,rfl,k,λf=>?_⟩;have⟨B,o,y,q,x,u,t,s,r⟩:=d f;exact⟨B,o,y,q,x,u,t,blk p (λe=>by have:=j B e.symm;omega) s,r⟩
def qg.alloc{a b:Nat}{w:qhr}{v:qhu}{l:List Int}(h:qg a b w v l)(o:Obj):qg a b (w.alloc o) v l:=h.kept (qhq w o none) (by simp)
def qg.own{d n:Nat}{w:qhr}{v:qhu}{l:List Int}(h:w.ownsRow d 3 1 v n (l.map (qid .i64)))(e:(l.length:Int)<=1000000):qg d w.heap.size w v l:=by
 obtain⟨t,s⟩:=h;have q:l.length=n:=by simpa using t
 subst q;rcases s with⟨rfl,o⟩ | ⟨g,c,a,rfl,r,j,x,hm,u,p⟩
 ·exact⟨none,0,by rw[o],e,λb=>absurd (qja o) b⟩
 ·refine⟨_,c,rfl,e,λ_=>⟨g,0,a,(0,0),rfl,r,(qhs.1 j).1,j,λi f=>?_⟩⟩;have k:(a.toList.take (l.length*1))[i]?=some (.int .i64 (l[i]?.getD 0)):=by
   rw[p];simp[qhz f]
  rw[qn2] at k;simpa[f] using k
def qg.cell{e b:Nat}{w:qhr}{v:qhu}{l:List Int}(h:qg e b w v l):∃base a,v=.slice base l.length a/\(l.length:Int)<=1000000 /\(l≠[]->∃B o,base=some ⟨B,o,none⟩/\e<=B/\B<b/\B<w.heap.size/\∀i,i<l.length->w.cell? ⟨B,o+i,none⟩=some (.int .i64 (l[i]?.getD 0))):=by
 obtain⟨base,a,rfl,g,c⟩:=h;refine⟨base,a,rfl,g,λd=>?_⟩;have⟨B,o,s,r,q,n,k,f,j⟩:=c d;exact⟨B,o,q,n,k,(qhs.1 f).1,λi b=>by simp[qiq,f,j i b]⟩
def qI(g:Nat->Int):Obj:=.cells #[(g 0),(g 1),(g 2),(g 3),(g 4)] 101 (0,0)
def Qi{w:qhr}{A:Nat}{g:Nat->Int}{e:Nat}{v:Int}(h:w.heap[A]?=some (qI g))(a:e<5):(w.setCell ⟨A,e,none⟩ (.int .i64 v)).heap[A]?=some (qI λd=>if d=e then v else g d):=by
 unfold qI at h ⊢;rw[qi h];obtain rfl | rfl | rfl | rfl | rfl:e=0\/e=1\/e=2\/e=3\/e=4:=by omega
 all_goals simp
def qp{w:qhr}{A:Nat}{g:Nat->Int}{e:Nat}(h:w.heap[A]?=some (qI g))(a:e<5):w.cell? ⟨A,e,none⟩=some (.int .i64 (g e)):=by
 unfold qI at h;obtain rfl | rfl | rfl | rfl | rfl:e=0\/e=1\/e=2\/e=3\/e=4:=by omega
 all_goals simp[qiq,h]
def jw{w:qhr}{A:Nat}{g:Nat->Int}(h:w.heap[A]?=some (qI g))(e:Nat):w.frozen? ⟨A,e,none⟩=false:=by
 unfold qI at h;simp[qlt,h]
def yF{g a:Nat->Int}(h:∀d,d<5->g d=a d):qI g=qI a:=by
 unfold qI;rw[h 0 (by omega),h 1 (by omega),h 2 (by omega),h 3 (by omega),h 4 (by omega)]
structure Par where
 mn:Int
 mx:Int
 bears:Int
 tall:Int
deriving DecidableEq
def qr(d e:Nat)(w:qhr)(v:qhu)(a:List Par):Prop :=
 ∃base c,v=.slice base a.length c/\(a.length:Int)<=1000000 /\
  (a≠[]->∃B o b f,base=some ⟨B,o,none⟩/\d<=B/\B<e/\w.heap[B]?=some (.cells b 28 f) /\
   ∀i,i<a.length->∃p,a[i]?=some p/\b[o+i*4]?=some (.int .i64 p.mn)/\b[o+(i*4+1)]?=some (.int .i64 p.mx)/\b[o+(i*4+2)]?=some (.int .i64 p.bears)/\b[o+(i*4+3)]?=some (.int .i64 p.tall))
def qr.kept{a g:Nat}{w w':qhr}{v:qhu}{j:List Par}{row:Option Nat}(h:qr a g w v j)(p:w.gb w' row)(k:∀R,row=some R->R<a\/g<=R:=by simp):qr a g w' v j:=by
 obtain⟨base,i,rfl,l,d⟩:=h;refine⟨base,i,rfl,l,λf=>?_⟩;have⟨B,o,y,q,x,u,t,s,r⟩:=d f;exact⟨B,o,y,q,x,u,t,blk p (λe=>by have:=k B e.symm;omega) s,r⟩
def qr.alloc{b c:Nat}{w:qhr}{v:qhu}{a:List Par}(h:qr b c w v a)(o:Obj):qr b c (w.alloc o) v a:=h.kept (qhq w o none) (by simp)
def qr.mono{f g a b:Nat}{w:qhr}{v:qhu}{e:List Par}(h:qr f g w v e)(s:a<=f)(r:g<=b):qr a b w v e:=by
 obtain⟨base,d,rfl,j,i⟩:=h;refine⟨base,d,rfl,j,λc=>?_⟩;have⟨B,o,q,k,p,u,t,n,l⟩:=i c;exact⟨B,o,q,k,p,by omega,by omega,n,l⟩
def qr.cell{g d:Nat}{w:qhr}{v:qhu}{b:List Par}(h:qr g d w v b):∃base a,v=.slice base b.length a/\(b.length:Int)<=1000000 /\(b≠[]->∃B o,base=some ⟨B,o,none⟩/\g<=B/\B<d/\B<w.heap.size/\∀i,i<b.length->∃p,b[i]?=some p/\w.cell? ⟨B,o+i*4,none⟩=some (.int .i64 p.mn)/\w.cell? ⟨B,o+i*4+1,none⟩=some (.int .i64 p.mx)/\w.cell? ⟨B,o+i*4+2,none⟩=some (.int .i64 p.bears)/\w.cell? ⟨B,o+i*4+3,none⟩=some (.int .i64 p.tall)):=by
 obtain⟨base,a,rfl,j,e⟩:=h;refine⟨base,a,rfl,j,λf=>?_⟩;have⟨B,o,z,y,x,u,t,c,s⟩:=e f;refine⟨B,o,x,u,t,(qhs.1 c).1,λi d=>?_⟩;have⟨p,r,q,n,l,k⟩:=s i d;exact⟨p,r,by simp[qiq,c,q],by simp[qiq,c,qnb,n],by simp[qiq,c,qnb,l],by simp[qiq,c,qnb,k]⟩
def jf(d e:Nat)(w:qhr)(v:qhu)(c:List Par)(a:Int):Prop:=∃b,v=.agg #[b,a]/\qr d e w b c
def wts(g:Nat->Int):qhu:=.agg #[(g 0),(g 1),(g 2),(g 3),(g 4)]
def J9(l:List Int):Int:=l.foldl (·+·) 0
def q0D(l:List Int)(k:Nat)(x:Int)(h:l[k]?=some x):J9 (l.take (k+1))=J9 (l.take k)+x:=by
 rw[qj7,h];simp[J9]
def qd6(u y:Nat)(v:qhu)(l:List Int)(w:qhr)(q:qg u y w v l)(n:∀k,k<=l.length->-1000000000<=J9 (l.take k)/\J9 (l.take k)<=1000000000) :qis Ya 145 #[v] w λe t=>e=.returned (.int .i64 (J9 l))/\w=t:=by
 obtain⟨base,F,rfl,H,p⟩:=q.cell;have⟨G,r⟩:=qE p n;clear p n q;go_enter Tp.x145,Tryz.ntmps145;go_wp2;go_loopw [3,8] (λa i wr=>∃k:Nat,i=.int .i64 k/\k<=l.length/\a=.int .i64 (J9 (l.take k))/\w=wr) (λ_ i _=>(l.length - qiF i).toNat)
 case atStart=>exact⟨0,rfl,by omega,by simp[J9],rfl⟩
 case round=>
  obtain⟨k,rfl,I,rfl,rfl⟩:=hrel;by_cases c:k<l.length
  ·obtain⟨B,o,rfl,C,A,z,d⟩:=G.out (by intro e;rw[e] at c;simp at c);have g:=d k c;have D:=r.out k (by omega);have h:=r.out (k+1) (by omega);have f:l[k]?=some (l[k]?.getD 0):=by simp[qhz c]
   rw[q0D l k _ f] at h;have b:=q0D l k _ f;generalize l[k]?.getD 0=x at g h b;generalize J9 (l.take k)=s at D h b;have j:=qhp b;clear d f b;go_wp2;go_roundw
   case rel=>exact⟨k+1,by simp,by omega,by rw[j],by first | rfl | trivial⟩
   case measure=>simp[qiF];omega
  ·obtain rfl:k=l.length:=by omega
   go_wp2;go_ret;exact⟨by simp,rfl⟩
def pre(f:Par->Int)(a:List Par)(k:Nat):Nat->Int:=λi=>if i<k then(match a[i]? with | some p=>f p | none=>0) else 0
def q41(f:Par->Int)(a:List Par)(k:Nat)(p:Par)(h:a[k]?=some p)(d:Nat):pre f a (k+1) d=if d=k then f p else pre f a k d:=by
 unfold pre;by_cases e:d=k
 ·subst e;simp[h]
 ·by_cases b:d<k
  ·rw[if_pos (by omega),if_neg e,if_pos b]
  ·rw[if_neg (by omega),if_neg e,if_neg b]
def QN(lo L:Nat)(v:qhu)(a:List Par)(b:Int)(w:qhr)(M:jf lo L w v a b)(c3:L<=w.heap.size)(h5:a.length<=5) :qis Ya 93 #[v] w λe w'=>e=.returned (wts (pre Par.mn a a.length))/\w.gb w' none:=by
 obtain⟨pv,rfl,P⟩:=M;obtain⟨base,c,rfl,hl,-⟩:=P.cell;obtain⟨A,u⟩:∃A,A=w.heap.size:=⟨_,rfl⟩;have HP:=qhp P;clear P;go_enter Tp.x93,Tryz.ntmps93;go_upto_region 2 with(fail);have h:w.gb (((w.alloc (.cells #[.slice base a.length c,b] 91)).alloc (qI λ_=>0)).alloc (qI λ_=>0)) none:=((qhq _ _ none).t (qhq _ _ none)).t (qhq _ _ none);have M:(((w.alloc (.cells #[.slice base a.length c,b] 91)).alloc (qI λ_=>0)).alloc (qI λ_=>0)).cell? A=some (.slice base a.length c):=q8 (qq (qq (by rw[u];exact qhA w _))) rfl;have N:(((w.alloc (.cells #[.slice base a.length c,b] 91)).alloc (qI λ_=>0)).alloc (qI λ_=>0)).heap[A+1]?=some (qI λ_=>0):=qq (by
  have:=qhA (w.alloc (.cells #[.slice base a.length c,b] 91)) (qI λ_=>0);rw[qhH,<- u] at this;exact this)
 have x:(((w.alloc (.cells #[.slice base a.length c,b] 91)).alloc (qI λ_=>0)).alloc (qI λ_=>0)).heap[A+2]?=some (qI λ_=>0):=by
  have:=qhA ((w.alloc (.cells #[.slice base a.length c,b] 91)).alloc (qI λ_=>0)) (qI λ_=>0);rw[qhH,qhH,<- u] at this;exact this
 rw[<- u];show Code.wp _ _ _ _ (((w.alloc (.cells #[.slice base a.length c,b] 91)).alloc (qI λ_=>0)).alloc (qI λ_=>0));have H:A+2<(((w.alloc (.cells #[.slice base a.length c,b] 91)).alloc (qI λ_=>0)).alloc (qI λ_=>0)).heap.size:=(qhs.1 x).1;generalize (((w.alloc (.cells #[.slice base a.length c,b] 91)).alloc (qI λ_=>0)).alloc (qI λ_=>0))=w1 at h M N x H ⊢;have c8:L<=A:=by omega
 obtain⟨D,S⟩:∃D,D=A+2:=⟨_,rfl⟩;obtain⟨R,r⟩:∃R,R=A+1:=⟨_,rfl⟩;rw[show A+1+1=A+2 from rfl,<- S,<- r];rw[<- S] at x H;rw[<- r] at N;have Z:=qhp (HP.kept h);have⟨HG,HR,HW⟩:=ze h N x;have b9:¬ R=D:=by omega
 have e5:¬ A=D:=by omega
 have e4:A<=R/\A<=D:=by omega
 have HA:=qhp u;have F:L<=D:=by omega
 clear h N x u HP S r;go_wp2;go_loopw [10] (λi wr=>∃k:Nat,i=.int .i64 k/\k<=a.length/\w1.gb wr (some D)/\wr.heap[D]?=some (qI (pre Par.mn a k))) (λi _=>(a.length - qiF i).toNat)
 case atStart=>exact⟨0,rfl,by omega,qhD _ _,by rw[HW];congr 1⟩
 case round=>
  obtain⟨k,rfl,hk,h,l⟩:=hrel;have d6:D<wr.heap.size:=(qhs.1 l).1;have s:=Z.out.kept h (by rintro R e;cases e;exact .inr F);have d5:=h.cell M (by simp;omega);have⟨I,HB⟩:=qE h l;by_cases n:k<a.length
  ·obtain⟨T,a8,he,-,g⟩:=s.cell;cases he;obtain⟨B,o,rfl,d9,d8,d7,G⟩:=g (by intro e;rw[e] at n;simp at n);have⟨p,hp,q0,q1,q2,q3⟩:=G k n;have Q:=qp l (show k<5 by omega);have e6:=jw l k;have Y:=qhp hp;have O:k<5:=by omega
   generalize pre Par.mn a k k=y at Q;clear G g s h l hp;go_wp2;go_roundw
   case rel=>
    refine⟨k+1,by simp,by omega,(I.t (qh _ _ _ _)).t (qhq _ _ _),?_⟩;rw[qq (Qi HB O)]
    congr 1
    exact yF λd _=>(q41 _ _ _ _ Y d).symm
   case measure=>simp[qiF];omega
  ·obtain rfl:k=a.length:=by omega
   have f:=blk h (by simp;omega) HR;have a0:=qp l (show 0<5 by omega);have a1:=qp l (show 1<5 by omega);have a2:=qp l (show 2<5 by omega);have a3:=qp l (show 3<5 by omega);have a4:=qp l (show 4<5 by omega);have b0:=qp f (show 0<5 by omega);have b1:=qp f (show 1<5 by omega);have b2:=qp f (show 2<5 by omega);have b3:=qp f (show 3<5 by omega);have b4:=qp f (show 4<5 by omega);have fz:=jw f;have e8:=qhp f;have V:=qhp (show wts (pre Par.mn a a.length)=.agg #[(pre Par.mn a a.length 0),(pre Par.mn a a.length 1),(pre Par.mn a a.length 2),(pre Par.mn a a.length 3),(pre Par.mn a a.length 4)] from rfl);generalize pre Par.mn a a.length 0=g0 at *
   generalize pre Par.mn a a.length 1=g1 at *
   generalize pre Par.mn a a.length 2=g2 at *
   generalize pre Par.mn a a.length 3=g3 at *
   generalize pre Par.mn a a.length 4=g4 at *
   obtain⟨W,q⟩:∃W,W=((((wr.setCell R (.int .i64 g0)).setCell ⟨R,1,none⟩ (.int .i64 g1)).setCell ⟨R,2,none⟩ (.int .i64 g2)).setCell ⟨R,3,none⟩ (.int .i64 g3)).setCell ⟨R,4,none⟩ (.int .i64 g4):=⟨_,rfl⟩;have z:W.heap[R]?=some (.cells #[g0,g1,g2,g3,g4] 101 (0,0)):=by
    rw[q,qi (qi (qi (qi (qi f))))];rfl
   have C:w.gb W none:=(HG.andThen I (by rintro j e;cases e;exact .inl (by have:=HA.out;omega))).andThen (row':=some R)
    (by rw[q];exact((((qh _ _ _ _).t (qh _ _ _ _)).t (qh _ _ _ _)).t (qh _ _ _ _)).t (qh _ _ _ _)) (by rintro j e;cases e;exact .inl (by have:=HA.out;omega))
   have⟨X,a6,U⟩:=ze z C q;clear f h l s n z C q;go_wp2;rw[<- U,V];exact qka (v:=.agg #[g0,g1,g2,g3,g4]) (by simp[qke,Tryz.results93,go_sem,qiq,X.out]) rfl ⟨rfl,a6⟩
def Qo(lo L:Nat)(v:qhu)(a:List Par)(b:Int)(w:qhr)(M:jf lo L w v a b)(c3:L<=w.heap.size)(h5:a.length<=5) :qis Ya 92 #[v] w λe w'=>e=.returned (wts (pre Par.mx a a.length))/\w.gb w' none:=by
 obtain⟨pv,rfl,P⟩:=M;obtain⟨base,c,rfl,hl,-⟩:=P.cell;obtain⟨A,u⟩:∃A,A=w.heap.size:=⟨_,rfl⟩;have HP:=qhp P;clear P;go_enter Tp.x92,Tryz.ntmps92;go_upto_region 2 with(fail);have h:w.gb (((w.alloc (.cells #[.slice base a.length c,b] 91)).alloc (qI λ_=>0)).alloc (qI λ_=>0)) none:=((qhq _ _ none).t (qhq _ _ none)).t (qhq _ _ none);have M:(((w.alloc (.cells #[.slice base a.length c,b] 91)).alloc (qI λ_=>0)).alloc (qI λ_=>0)).cell? A=some (.slice base a.length c):=q8 (qq (qq (by rw[u];exact qhA w _))) rfl;have N:(((w.alloc (.cells #[.slice base a.length c,b] 91)).alloc (qI λ_=>0)).alloc (qI λ_=>0)).heap[A+1]?=some (qI λ_=>0):=qq (by
  have:=qhA (w.alloc (.cells #[.slice base a.length c,b] 91)) (qI λ_=>0);rw[qhH,<- u] at this;exact this)
 have x:(((w.alloc (.cells #[.slice base a.length c,b] 91)).alloc (qI λ_=>0)).alloc (qI λ_=>0)).heap[A+2]?=some (qI λ_=>0):=by
  have:=qhA ((w.alloc (.cells #[.slice base a.length c,b] 91)).alloc (qI λ_=>0)) (qI λ_=>0);rw[qhH,qhH,<- u] at this;exact this
 rw[<- u];show Code.wp _ _ _ _ (((w.alloc (.cells #[.slice base a.length c,b] 91)).alloc (qI λ_=>0)).alloc (qI λ_=>0));have H:A+2<(((w.alloc (.cells #[.slice base a.length c,b] 91)).alloc (qI λ_=>0)).alloc (qI λ_=>0)).heap.size:=(qhs.1 x).1;generalize (((w.alloc (.cells #[.slice base a.length c,b] 91)).alloc (qI λ_=>0)).alloc (qI λ_=>0))=w1 at h M N x H ⊢;have c8:L<=A:=by omega
 obtain⟨D,S⟩:∃D,D=A+2:=⟨_,rfl⟩;obtain⟨R,r⟩:∃R,R=A+1:=⟨_,rfl⟩;rw[show A+1+1=A+2 from rfl,<- S,<- r];rw[<- S] at x H;rw[<- r] at N;have Z:=qhp (HP.kept h);have⟨HG,HR,HW⟩:=ze h N x;have b9:¬ R=D:=by omega
 have e5:¬ A=D:=by omega
 have e4:A<=R/\A<=D:=by omega
 have HA:=qhp u;have F:L<=D:=by omega
 clear h N x u HP S r;go_wp2;go_loopw [10] (λi wr=>∃k:Nat,i=.int .i64 k/\k<=a.length/\w1.gb wr (some D)/\wr.heap[D]?=some (qI (pre Par.mx a k))) (λi _=>(a.length - qiF i).toNat)
 case atStart=>exact⟨0,rfl,by omega,qhD _ _,by rw[HW];congr 1⟩
 case round=>
  obtain⟨k,rfl,hk,h,l⟩:=hrel;have d6:D<wr.heap.size:=(qhs.1 l).1;have s:=Z.out.kept h (by rintro R e;cases e;exact .inr F);have d5:=h.cell M (by simp;omega);have⟨I,HB⟩:=qE h l;by_cases n:k<a.length
  ·obtain⟨T,a8,he,-,g⟩:=s.cell;cases he;obtain⟨B,o,rfl,d9,d8,d7,G⟩:=g (by intro e;rw[e] at n;simp at n);have⟨p,hp,q0,q1,q2,q3⟩:=G k n;have Q:=qp l (show k<5 by omega);have e6:=jw l k;have Y:=qhp hp;have O:k<5:=by omega
   generalize pre Par.mx a k k=y at Q;clear G g s h l hp;go_wp2;go_roundw
   case rel=>
    refine⟨k+1,by simp,by omega,(I.t (qh _ _ _ _)).t (qhq _ _ _),?_⟩;rw[qq (Qi HB O)]
    congr 1
    exact yF λd _=>(q41 _ _ _ _ Y d).symm
   case measure=>simp[qiF];omega
  ·obtain rfl:k=a.length:=by omega
   have f:=blk h (by simp;omega) HR;have a0:=qp l (show 0<5 by omega);have a1:=qp l (show 1<5 by omega);have a2:=qp l (show 2<5 by omega);have a3:=qp l (show 3<5 by omega);have a4:=qp l (show 4<5 by omega);have b0:=qp f (show 0<5 by omega);have b1:=qp f (show 1<5 by omega);have b2:=qp f (show 2<5 by omega);have b3:=qp f (show 3<5 by omega);have b4:=qp f (show 4<5 by omega);have fz:=jw f;have e8:=qhp f;have V:=qhp (show wts (pre Par.mx a a.length)=.agg #[(pre Par.mx a a.length 0),(pre Par.mx a a.length 1),(pre Par.mx a a.length 2),(pre Par.mx a a.length 3),(pre Par.mx a a.length 4)] from rfl);generalize pre Par.mx a a.length 0=g0 at *
   generalize pre Par.mx a a.length 1=g1 at *
   generalize pre Par.mx a a.length 2=g2 at *
   generalize pre Par.mx a a.length 3=g3 at *
   generalize pre Par.mx a a.length 4=g4 at *
   obtain⟨W,q⟩:∃W,W=((((wr.setCell R (.int .i64 g0)).setCell ⟨R,1,none⟩ (.int .i64 g1)).setCell ⟨R,2,none⟩ (.int .i64 g2)).setCell ⟨R,3,none⟩ (.int .i64 g3)).setCell ⟨R,4,none⟩ (.int .i64 g4):=⟨_,rfl⟩;have z:W.heap[R]?=some (.cells #[g0,g1,g2,g3,g4] 101 (0,0)):=by
    rw[q,qi (qi (qi (qi (qi f))))];rfl
   have C:w.gb W none:=(HG.andThen I (by rintro j e;cases e;exact .inl (by have:=HA.out;omega))).andThen (row':=some R)
    (by rw[q];exact((((qh _ _ _ _).t (qh _ _ _ _)).t (qh _ _ _ _)).t (qh _ _ _ _)).t (qh _ _ _ _)) (by rintro j e;cases e;exact .inl (by have:=HA.out;omega))
   have⟨X,a6,U⟩:=ze z C q;clear f h l s n z C q;go_wp2;rw[<- U,V];exact qka (v:=.agg #[g0,g1,g2,g3,g4]) (by simp[qke,Tryz.results92,go_sem,qiq,X.out]) rfl ⟨rfl,a6⟩
def q6q(p:Par)(load:Int)(w:qhr) :qis Ya 160 #[.agg #[p.mn,p.mx,p.bears,p.tall],load] w λe a=>e=.returned (if p.bears<load then .iface 170 (.agg #[]) else .iface 171 (.agg #[]))/\w.gb a none:=by
 go_enter Tp.x160,Tryz.ntmps160;by_cases h:p.bears<load
 ·go_wp2;go_ret;exact⟨rfl,qhq _ _ _⟩
 ·go_wp2;go_ret;exact⟨rfl,qhq _ _ _⟩
def tot:List Int->Int
 | []=>0
 | a::t=>tot t+a
def loadAt(g:Nat->Int)(l:List Int)(i:Nat):Int:=tot ((l.drop (i+1)).map λx=>g x.toNat)
def q4i(g:Nat->Int)(l:List Int)(i:Nat)(h:l.length<=i+1):loadAt g l i=0:=by
 unfold loadAt;rw[qkr h];rfl
def q4h(g:Nat->Int)(l:List Int)(i:Nat)(x:Int)(h:l[i+1]?=some x):loadAt g l i=loadAt g l (i+1)+g x.toNat:=by
 unfold loadAt;have a:=(qi3.1 h).1;rw[qkd a];have:l[i+1]=x:=(qi3.1 h).2;simp[tot,this]
def qf8(l:List Int)(h:∀x∈l,0<=x/\x<=1000):0<=tot l/\tot l<=1000*l.length:=by
 induction l with
 | nil=>simp[tot]
 | cons a t b=>
  have e:=b λx c=>h x (by simp[c]);have d:=h a (by simp);simp only[tot,qhE];omega
def q1r(g:Nat->Int)(l:List Int)(i:Nat)(a:∀i,0<=g i/\g i<=1000)(b:l.length<=1000):0<=loadAt g l i/\loadAt g l i<=1000000:=by
 have:=qf8 ((l.drop (i+1)).map λx=>g x.toNat) (by simp only[qlp];rintro x ⟨y,-,rfl⟩;exact a _);simp only[qkk,qlc] at this;unfold loadAt;omega
def ldL(g:Nat->Int)(l:List Int):List Int:=(qil l.length).map (loadAt g l)
def kW(w:qhr)(O n:Nat)(f:Nat->Int):Prop:=∃a,w.heap[O]?=some (.cells a 3 (0,0))/\a.size=n/\∀i,i<n->a[i]?=some (.int .i64 (f i))
def kW.lt{w:qhr}{O n:Nat}{f:Nat->Int}(h:kW w O n f):O<w.heap.size:=by
 obtain⟨a,h,-⟩:=h;exact(qhs.1 h).1
def kW.cell{w:qhr}{O n i:Nat}{f:Nat->Int}(h:kW w O n f)(a:i<n):w.cell? ⟨O,i,none⟩=some (.int .i64 (f i)):=by
 obtain⟨c,h,-,b⟩:=h;simp[qiq,h,b i a]
def kW.thaw{w:qhr}{O n:Nat}{f:Nat->Int}(h:kW w O n f)(i:Nat):w.frozen? ⟨O,i,none⟩=false:=by
 obtain⟨a,h,-⟩:=h;simp[qlt,h]
def kW.congr{w:qhr}{O n:Nat}{f g:Nat->Int}(h:kW w O n f)(e:∀i,i<n->f i=g i):kW w O n g:=by
 obtain⟨d,h,b,c⟩:=h;exact⟨d,h,b,λi a=>by rw[c i a,e i a]⟩
def kW.set{w:qhr}{O n i:Nat}{f:Nat->Int}{x:Int}(h:kW w O n f)(d:i<n):kW (w.setCell ⟨O,i,none⟩ (.int .i64 x)) O n λj=>if j=i then x else f j:=by
 obtain⟨g,h,a,c⟩:=h;refine⟨_,qi h,by simp[a],λj b=>?_⟩;by_cases e:j=i
 ·subst e;simp[a,b]
 ·rw[qiC,if_neg (by omega),c j b];show _=some (qid .i64 (if j=i then x else f j));rw[if_neg e]
def kW.kept{w w':qhr}{O n:Nat}{f:Nat->Int}{row:Option Nat}(h:kW w O n f)(e:w.gb w' row)(a:some O≠row:=by simp):kW w' O n f:=by
 obtain⟨i,h,d,g⟩:=h;exact⟨i,blk e a h,d,g⟩
def kW.made(w:qhr)(n:Nat):kW (w.alloc (.cells (qoB #[.int .i64 0] n) 3)) w.heap.size n λ_=>0:=by
 refine⟨_,qhA w _,size_madeCells _ _,λi a=>?_⟩;unfold qoB;simp[a,Nat.mod_one]
def kW.ints{w:qhr}{O n b a:Nat}{f:Nat->Int}{l:List Int}(h:kW w O n f)(k:b<=O)(j:O<a)(d:l.length=n)(q:n<=1000000)(e:∀i,i<n->l[i]?=some (f i)):qg b a w (.slice (some O) n n) l:=by
 obtain⟨o,h,p,g⟩:=h;subst d;exact⟨_,_,rfl,by omega,λ_=>⟨O,0,o,_,rfl,k,j,h,λi a=>by rw[qi6,g i a,e i a];rfl⟩⟩
def qg.laid(w:qhr)(l:List Int)(n:Nat)(c:n=l.length)(d:l.length<=1000)(b:Nat × Nat:=(0,0))(a:Nat:=w.heap.size+1)(hhi:w.heap.size<a:=by omega) :qg w.heap.size a (w.alloc (.cells (l.map (qid .i64)).toArray 3 b)) (.slice (some w.heap.size) n n) l:=by
 subst c;refine⟨_,_,rfl,by omega,λ_=>⟨w.heap.size,0,_,b,rfl,qhv _,hhi,qhA w _,λi a=>?_⟩⟩;simp[qhz a]
def Kl{w:qhr}{D n:Nat}{x v:qhu}{o:Obj}{a:qiG}(h:w.cell? a=some v)(b:a≠⟨D,n,none⟩):((w.setCell ⟨D,n,none⟩ x).alloc o).drew.cell? a=some v:=by
 have c:(w.setCell ⟨D,n,none⟩ x).cell? a=some v:=by rw[qjz _ _ _ _ (Ne.symm b)];exact h
 exact(qe _ none).cl ((qhq _ o none).cell c (by simp))
def qd7{q r:Int}(h:0<=q/\q<=1000000)(b:0<=r/\r<=1000000):∀k,k<=[q,r].length->-1000000000<=J9 ([q,r].take k)/\J9 ([q,r].take k)<=1000000000:=by
 intro k a;obtain rfl | rfl | rfl:k=0\/k=1\/k=2:=by simp at a;omega
 all_goals simp[J9]
 all_goals omega
def YH(b c:Nat)(v:qhu)(q r:Int)(w:qhr)(d:qg b c w v [q,r])(h:0<=q/\q<=1000000)(f:0<=r/\r<=1000000) :qis Ya 145 #[v] w λe a=>e=.returned (.int .i64 (q+r))/\w=a:=by
 refine(qd6 b c v [q,r] w d (qd7 h f)).mono ?_;rintro e a ⟨rfl,rfl⟩;exact⟨by simp[J9],rfl⟩
def QM(lo H:Nat)(yv pv:qhu)(l:List Int)(g:Nat->Int)(w:qhr)(hI:qg lo H w pv l)(k6:H<=w.heap.size)(y:∀x∈l,0<=x/\x<5)(hl:l.length<=1000)(hg:∀i,0<=g i/\g i<=1000)(Z:∃a b,yv=.agg #[a,b]) :qis Ya 91 #[yv,pv,wts g] w λe v=>∃v',e=.returned v'/\w.gb v none/\qg w.heap.size v.heap.size v v' (ldL g l):=by
 obtain⟨u,s,rfl⟩:=Z;obtain⟨base,l8,rfl,g9,hc⟩:=hI.cell;have L:∀w,(Instr.makeSlice 29 (.int .i64 l.length) (.int .i64 l.length)).run Ya w=.ok (.slice (some ⟨w.heap.size,0,none⟩) l.length l.length) (w.alloc (.cells (qoB #[.int .i64 0] l.length) 3)):=λw=>by
  have:=run_make (P:=Ya) w 29 3 Tryz.t3 (.int .i64 0) (by rw[Tp.und];exact Tryz.underlying29) (by rw[q35 _ _ Tp.tables];exact Tryz.type3) rfl .i64 .i64 l.length l.length (by omega) (by omega) (by simp[Tryz.t3];omega) (by omega);simpa[Value.cells,Tryz.t3] using this
 have Q:=qhp L;unfold wts;go_enter Tp.x91,Tryz.ntmps91;go_upto_region 3 with(first | rw[Q]);obtain⟨A,O⟩:∃A,A=w.heap.size:=⟨_,rfl⟩;have f:w.gb (((w.alloc (.cells #[u,s] 91)).alloc (qI g)).alloc (.cells (qoB #[.int .i64 0] l.length) 3)) none:=((qhq _ _ none).t (qhq _ _ none)).t (qhq _ _ none);have U:(((w.alloc (.cells #[u,s] 91)).alloc (qI g)).alloc (.cells (qoB #[.int .i64 0] l.length) 3)).heap[A+1]?=some (qI g):=qq (by
  have:=qhA (w.alloc (.cells #[u,s] 91)) (qI g);rw[qhH,<- O] at this;exact this)
 have W:kW (((w.alloc (.cells #[u,s] 91)).alloc (qI g)).alloc (.cells (qoB #[.int .i64 0] l.length) 3)) (A+2) l.length λ_=>0:=by
  have:=kW.made ((w.alloc (.cells #[u,s] 91)).alloc (qI g)) l.length;rw[qhH,qhH,<- O] at this;exact this
 rw[<- O];show Code.wp _ _ _ _ (((w.alloc (.cells #[u,s] 91)).alloc (qI g)).alloc (.cells (qoB #[.int .i64 0] l.length) 3));generalize ((w.alloc (.cells #[u,s] 91)).alloc (qI g)).alloc (.cells (qoB #[.int .i64 0] l.length) 3)=w1 at f U W ⊢;obtain⟨D,X⟩:∃D,D=A+2:=⟨_,rfl⟩;obtain⟨V,hV⟩:∃V,V=A+1:=⟨_,rfl⟩;rw[show A+1+1=A+2 from rfl,<- X,<- hV];rw[<- X] at W;rw[<- hV] at U;have d5:=qhp (hI.kept f);have⟨HG,HW,HR,HA,HX,T⟩:=Kq f U W O y hg;have b7:¬ V=D:=by omega
 have a8:H<=D/\A<=D:=by omega
 clear f U W O X hV hc hI y hg Q L;go_wp2;go_loopw [8] (λi wr=>∃k:Int,i=.int .i64 k/\-2<=k/\k<l.length/\(0<=k->k+1<l.length)/\w1.gb wr (some D)/\kW wr D l.length λj=>if k<(j:Int) then loadAt g l j else 0) (λi _=>(qiF i+1).toNat)
 case atStart=>
  refine⟨(l.length:Int) - 2,rfl,by omega,by omega,by omega,qhD _ _,HR.congr λi H=>?_⟩;by_cases e:(l.length:Int) - 2<i
  ·rw[if_pos e,q4i g l i (by omega)]
  ·rw[if_neg e]
 case round=>
  obtain⟨k,rfl,k5,k0,h9,f,p⟩:=hrel;by_cases g8:0<=k
  ·obtain⟨n,rfl⟩:∃n:Nat,k=n:=⟨k.toNat,by omega⟩;have I:n+1<l.length:=by omega
   have S:=d5.out.kept f (by rintro R e;cases e;exact .inr a8.1);obtain⟨c8,e6,he,-,d⟩:=S.cell;cases he;obtain⟨B,o,rfl,l7,l6,l5,N⟩:=d (by intro e;rw[e] at I;simp at I);have hp:=N (n+1) I;obtain⟨x,y⟩:∃x,l[n+1]?=some x:=⟨_,qhz I⟩;have⟨e9,e8⟩:=HX.out x (qi9 y);rw[y] at hp;simp only[qhC] at hp;obtain⟨m,rfl⟩:∃m:Nat,x=m:=⟨x.toNat,by omega⟩;have a7:m<5:=by omega
   have F:=blk f (by simp;omega) HW;have M:=qp F a7;have C:=p.cell (i:=n+1) I;have c:=q4h g l n m y;rw[if_pos (by omega)] at C;have b6:=q1r g l (n+1) T hl;have b0:=T.out m;simp only[Int.toNat_natCast] at c;have a9:=p.cell (i:=n) (by omega);have fz:=p.thaw n;have l4:=p.lt;have c3:¬ B=D:=by omega
   have k9:V<wr.heap.size:=(qhs.1 F).1;generalize loadAt g l (n+1)=q at C c b6;generalize g m=r at M c b0;have⟨c9,G,Y⟩:=ze c f p;generalize (if(n:Int)<(n:Int) then loadAt g l n else 0)=z at a9;clear f p F N d S y c;have g7:(n:Int)+1<(l.length:Int):=by omega
   have d9:0<=(n:Int)+1:=by omega
   have g5:IntKind.i64.wrap ((n:Int)+1)=(n:Int)+1:=qin _ (by omega);have g6:((n:Int)+1).toNat=n+1:=by omega
   have h:=qhp (qi8 C (qi8 hp M));go_upto_region 5 with(fail);go_region_held3 (λv=>v.cell? ⟨D,n+1,none⟩=some (.int .i64 q)/\v.cell? ⟨B,o+(n+1),none⟩=some (.int .i64 m)/\v.cell? ⟨V,m,none⟩=some (.int .i64 r))
    (first | exact h | exact⟨Kl h.1 (by simp),Kl h.2.1 (λe=>c3 (congrArg qph e)),Kl h.2.2 (λe=>b7 (congrArg qph e))⟩ | go_keep)
    (first
     | (go_at_call 145;refine(YH _ _ _ q r _ (by exact qg.laid _ [q,r] 2 rfl (by simp)) (by omega) (by omega)).mono ?_;rintro e w2 ⟨rfl,rfl⟩))
   go_wp2;go_roundw
   case rel=>
    refine⟨(n:Int) - 1,rfl,by omega,by omega,by omega,((G.t (qh _ _ _ _)).t (qhq _ _ _)).t (qe _ _),?_⟩;refine((Y.set (i:=n) (x:=q+r) (by omega)).kept ((qhq _ _ none).t (qe _ _))).congr λj hj=>?_;have c:=c9.out;show(if j=n then q+r else if(n:Int)<(j:Int) then loadAt g l j else 0)=if(n:Int) - 1<(j:Int) then loadAt g l j else 0;by_cases e:j=n
    ·subst e;rw[if_pos rfl,if_pos (by omega),c]
    ·by_cases e2:(n:Int)<j
     ·rw[if_neg e,if_pos e2,if_pos (by omega)]
     ·rw[if_neg e,if_neg e2,if_neg (by omega)]
   case measure=>simp[qiF]
  ·have G:=qhp f;have Y:=qhp p;clear f p;go_wp2;go_ret;have X:=HA.out;refine⟨_,rfl,HG.andThen G (by rintro j e;cases e;exact .inl (by omega)),Y.ints (by omega) Y.lt (by simp[ldL]) (by omega) λi H=>?_⟩;rw[if_pos (by omega)];simp[ldL,H]
def zB{w:qhr}{base b n:Nat}{e:qi4}{v:qhu}{d:List qhu}(h:w.ownsRow base e b v n d):∃a m c,v=.slice a m c:=by
 rcases h.2 with⟨rfl,_⟩ | ⟨g,i,f,rfl,_⟩<;>exact⟨_,_,_,rfl⟩
def Tp.info141p:(Ya.info? 141).map (λi=>(i.zero,i.size,i.bytes))=some (some .nilIface,1,16):=by kernel_rfl
def Tp.und138:Ya.underlying 138=some (.slice 141):=by rw[Tp.und];exact Tryz.underlying138
def kv(g:Nat->Int)(l:List Int):(ldL g l).length=l.length:=by simp[ldL]
def Yr(g:Nat->Int)(l:List Int)(i:Nat)(h:i<l.length):(ldL g l)[i]?.getD 0=loadAt g l i:=by simp[ldL,h]
def Ku(p:Par)(load:Int):qi4:=if p.bears<load then 170 else 171
def qc0(p:Par)(load:Int):(if p.bears<load then Value.iface 170 (.agg #[]) else .iface 171 (.agg #[]))=.iface (Ku p load) (.agg #[]):=by unfold Ku;split<;>rfl
def Kt(p:Par)(load:Int):qhu:=.iface (Ku p load) (.agg #[])
def K4{w:qhr}{b j a n:Nat}{e:qi4}{v:qhu}{i:List qhu}(h:w.ownsRow b e a v n i)(k:j<=b):w.ownsRow j e a v n i:=by
 obtain⟨l,c⟩:=h;refine⟨l,?_⟩;rcases c with c | ⟨g,f,d,q,p,o⟩
 ·exact .inl c
 ·exact .inr ⟨g,f,d,q,qhB k p,o⟩
def Kv(a:List Par)(g:Nat->Int)(l:List Int)(i:Nat):qhu:=match a[(l[i]?.getD 0).toNat]? with | some p=>Kt p (loadAt g l i) | none=>.nilIface
def kQ(a:List Par)(g:Nat->Int)(l:List Int):List qhu:=(qil l.length).map (Kv a g l)
def q4x(a:List Par)(g:Nat->Int)(l:List Int)(k:Nat)(h:k<l.length):(kQ a g l).take (k+1)=(kQ a g l).take k++[Kv a g l k]:=by
 rw[qj7];simp[kQ,h]
def q9h(lo I:Nat)(yv pv:qhu)(b:List Par)(y:Int)(l:List Int)(g:Nat->Int)(w:qhr)(hY:jf lo I w yv b y)(hI:qg lo I w pv l)(n9:I<=w.heap.size)(h5:b.length<=5)(C:∀x∈l,0<=x/\x<b.length)(hl:l.length<=1000)(hg:∀i,0<=g i/\g i<=1000) :qis Ya 126 #[yv,pv,wts g] w λe w'=>∃v',e=.returned v'/\w.gb w' none/\w'.ownsRow w.heap.size 141 1 v' l.length (kQ b g l):=by
 have⟨i0,b7,b6,b0,a9⟩:=qjx Tp.info141p;obtain⟨qv,rfl,hP⟩:=hY;obtain⟨yb,yc,rfl,m8,-⟩:=hP.cell;obtain⟨base,d5,rfl,n7,-⟩:=hI.cell;have⟨A,w1,hA,G,u,n,c,n4⟩:=zy w (.cells #[.slice yb b.length yc,y] 91) (qI g);have S:=qhp (hI.kept u);have d7:=qhp (hP.kept u);have⟨HX,e4,d6,HA,U,q7⟩:=Kq C hg G hA u n;have q0:=q8 n (o:=0) rfl;have q1:=q8 n (o:=1) rfl;have r0:=qp c (show 0<5 by omega);have r1:=qp c (show 1<5 by omega);have r2:=qp c (show 2<5 by omega);have r3:=qp c (show 3<5 by omega);have r4:=qp c (show 4<5 by omega);have p4:I<=A:=by omega
 clear hI hP C hg G hA u n c;unfold wts;go_enter Tp.x126,Tryz.ntmps126;go_upto_region 2 with(fail);rw[<- HA,show(w.alloc (.cells #[.slice yb b.length yc,y] 91)).alloc (.cells #[(g 0),(g 1),(g 2),(g 3),(g 4)] 101)=w1 from d6.symm];go_wp2_with (go_at_call 91;(refine(QM lo I _ _ l g _ S (by omega) (by intro x C;have:=HX.out x C;omega) hl e4 ⟨_,_,rfl⟩).mono ?_);rintro e V ⟨lv,rfl,O,s⟩;have h:=s.cell;rw[kv] at h;obtain⟨lb,lc,rfl,-,h⟩:=h;have e7:=qhp h;clear h;have q:=qhp O;have q5:=qhp s;clear O s);have Z:=q.out.cl q0;have n3:=q.out.size;clear r0 r1 r2 r3 r4 q0 q1;go_loopw [7,15] (λov iv wr=>∃k:Nat,iv=.int .i64 k/\k<=l.length/\V.gb wr none/\wr.ownsRow V.heap.size 141 1 ov k ((kQ b g l).take k)) (λ_ iv _=>(l.length - qiF iv).toNat)
 case atStart=>exact⟨0,rfl,by omega,qhD _ _,qjF _ _ _ _⟩
 case round=>
  obtain⟨k,rfl,hk,F,X⟩:=hrel;obtain⟨oa,om,oc,rfl⟩:=zB X;have⟨HG,HO⟩:=qE F X;have m4:=F.cl Z;have n2:=F.size;by_cases a:k<l.length
  ·have R:=(S.kept q).kept F;have Q:=(d7.kept q).kept F;obtain⟨b1,c1,he,-,W⟩:=R.cell;cases he;obtain⟨B,o,rfl,n,q4,q3,P⟩:=W (by intro e;rw[e] at a;simp at a);have C:=P k a;obtain⟨x,r⟩:∃x,l[k]?=some x:=⟨_,qhz a⟩;have⟨m9,z⟩:=HX.out x (qi9 r);rw[r] at C;simp only[qhC] at C;obtain⟨m,rfl⟩:∃m:Nat,x=m:=⟨x.toNat,by omega⟩;obtain⟨b2,c2,he,-,W⟩:=Q.cell;cases he;obtain⟨YB,yo,rfl,p7,p6,p5,M⟩:=W (by intro e;rw[e] at z;simp at z;omega);have⟨p,hp,p0,p1,p2,p3⟩:=M m (by omega);obtain⟨LB,m6,rfl,q2,s,p9,N⟩:=e7.out (by intro e;have:=kv g l;rw[e] at this;simp at this;omega);have H:=HG.out.cl (N k a);rw[Yr g l k a] at H;have L:Hid (Kv b g l k=Kt p (loadAt g l k)):=qhp (by unfold Kv;rw[r];simp[hp]);have n6:(m:Int)<(b.length:Int):=z;generalize loadAt g l k=ld at H L;clear F X R Q W P M N r hp;go_wp2;go_region_law
    (first
     | (go_simp;go_at_call 160;refine(q6q p ld _).mono ?_;rintro e Y ⟨rfl,D⟩;rw[qc0];have a8:=D.size;have T:=qhp ((qe wr none).t D);clear D)
     | (refine step_append_lies _ (by rfl) _ _ _ (by rfl) V.heap.size 141 i0 _ 1 16 Tp.und138 b7 b6 b0 a9 rfl (by omega) (.slice oa om oc) k ((kQ b g l).take k) (by rfl) (by exact(HO.kept T (by cases(qjc oa om oc).ownBlock<;>simp)).alloc _) ⟨Y.heap.size,0,none⟩ 1 1 [.iface (Ku p ld) (.agg #[])] (by rfl) (by rfl) (qje (cs:=#[.iface (Ku p ld) (.agg #[])]) (t:=141) (fr:=(0,0)) (qhA Y _)) (by simp[qjD]) (by omega) (by unfold qlg;omega) (by omega) (by simp at a8 ⊢;omega) (Y.heap.size+1) (by simp) ?_;intro gg d5 w5 d f c3 b8;have d8:=qhp d;have e5:=qhp f;clear d f c3 b8))
   all_goals
    have v:V.gb w5 none:=((HG.t T).t (qhq _ _ none)).andThen e5 (λj e=>.inl (HO.lt j e).1);have HF:=qhp v;clear v;go_wp2;go_roundw
    case rel=>
     refine⟨k+1,by simp,by omega,HF,?_⟩;rw[q4x b g l k a,L];exact d8
    case measure=>simp[qiF];omega
  ·obtain rfl:k=l.length:=by omega
   clear F X;go_wp2;go_ret;have h0:=HO.out;rw[show(kQ b g l).take l.length=kQ b g l from qom (by simp[kQ])] at h0;refine⟨_,rfl,(U.t q).t HG,?_⟩;exact K4 h0 (by have:=U.out.size;omega)
def kA{w:qhr}{base n:Nat}{e:qi4}{v:qhu}{b:List qhu}(h:w.ownsRow base e 1 v n b) :∃a c,v=.slice a n c/\(0<n->∃g,a=some ⟨g,0,none⟩/\base<=g/\g<w.heap.size/\∀i,i<n->w.cell? ⟨g,i,none⟩=b[i]?):=by
 rcases h.2 with⟨rfl,j⟩ | ⟨g,l,k,rfl,f,d,o⟩
 ·exact⟨_,_,by rw[j],λp=>by omega⟩
 ·exact⟨_,_,rfl,λ_=>⟨g,rfl,f,(qhs.1 d).1,λi q=>h.cellAt i (by omega)⟩⟩
@[simp] theorem ta170(w:qhr):(qlz (.iface 170 (.agg #[])) 141 170 true).run Ya w=.ok (.tuple #[.agg #[],.bool true]) w:=by kernel_rfl
@[simp] theorem qho(w:qhr):(qlz (.iface 171 (.agg #[])) 141 170 true).run Ya w=.ok (.tuple #[.agg #[],.bool false]) w:=by kernel_rfl
@[simp] theorem ta171(w:qhr):(qlz (.iface 171 (.agg #[])) 141 171 true).run Ya w=.ok (.tuple #[.agg #[],.bool true]) w:=by kernel_rfl
def yV(a:List Par)(g:Nat->Int)(l:List Int)(i:Nat):Bool:=match a[(l[i]?.getD 0).toNat]? with | some p=>decide (loadAt g l i<=p.bears) | none=>false
def qx(a:List Par)(g:Nat->Int)(l:List Int):Bool:=(qil l.length).all (yV a g l)
def kF(H j:Nat)(W Y:qhu)(a:List Par)(c:Int)(l:List Int)(g:Nat->Int)(w:qhr)(hY:jf H j w W a c)(Q:qg H j w Y l)(e4:j<=w.heap.size)(h5:a.length<=5)(Z:∀x∈l,0<=x/\x<a.length)(hl:l.length<=1000)(hg:∀i,0<=g i/\g i<=1000) :qis Ya 96 #[W,Y,wts g] w λe w'=>e=.returned (.bool (qx a g l))/\w.gb w' none:=by
 obtain⟨qv,rfl,P⟩:=hY;obtain⟨N,M,rfl,c9,-⟩:=P.cell;obtain⟨base,e9,rfl,d8,-⟩:=Q.cell;have⟨A,X,hA,y,q,v,d,d7⟩:=zy w (.cells #[.slice N a.length M,c] 91) (qI g);have T:=qhp (Q.kept q);have R:=qhp (show jf H j X (.agg #[.slice N a.length M,c]) a c from⟨_,rfl,P.kept q⟩);have⟨HX,U,S,HA,G⟩:=ZW Z hg y hA q;have q0:=q8 v (o:=0) rfl;have q1:=q8 v (o:=1) rfl;have r0:=qp d (show 0<5 by omega);have r1:=qp d (show 1<5 by omega);have r2:=qp d (show 2<5 by omega);have r3:=qp d (show 3<5 by omega);have r4:=qp d (show 4<5 by omega);have e5:j<=A:=by omega
 clear Q P Z hg y hA q v d;unfold wts;go_enter Tp.x96,Tryz.ntmps96;go_upto_region 1 with(fail);rw[<- HA,show(w.alloc (.cells #[.slice N a.length M,c] 91)).alloc (.cells #[(g 0),(g 1),(g 2),(g 3),(g 4)] 101)=X from S.symm];go_wp2_with (go_at_call 126;refine(q9h H j _ _ a c l g _ R T (by omega) h5 HX hl U).mono ?_;rintro e w2 ⟨lv,rfl,C,u⟩;obtain⟨lb,lc,rfl,B⟩:=kA u;have F:=qhp C;have V:=qhp B;clear C u B);clear r0 r1 r2 r3 r4 q0 q1;go_loopw [14] (λO wr=>∃k:Nat,O=.int .i64 k/\k<=l.length/\(∀i,i<k->yV a g l i=true)/\w2=wr) (λO _=>(l.length - qiF O).toNat)
 case atStart=>exact⟨0,rfl,by omega,λi j=>absurd j (by omega),rfl⟩
 case round=>
  obtain⟨k,rfl,hk,b,rfl⟩:=hrel;have D:=qhp b;clear b;by_cases n:k<l.length
  ·obtain⟨LB,rfl,e7,u,s⟩:=V.out (by omega);have r:=s k n;obtain⟨x,f⟩:∃x,l[k]?=some x:=⟨_,qhz n⟩;have⟨d6,d5⟩:=HX.out x (qi9 f);obtain⟨p,I⟩:∃p,a[x.toNat]?=some p:=⟨_,qhz (by omega)⟩;have b:yV a g l k=decide (loadAt g l k<=p.bears):=by unfold yV;rw[f];simp[I]
   rw[show(kQ a g l)[k]?=some (Kt p (loadAt g l k)) by simp only[kQ,qjE,qm5 n,qjh,Kv,f,qhC,I]] at r;by_cases L:p.bears<loadAt g l k
   ·rw[show Kt p (loadAt g l k)=.iface 170 (.agg #[]) by simp[Kt,Ku,L]] at r;have z:Hid (qx a g l=false):=qhp (by
     have:yV a g l k=false:=by rw[b];simp;omega
     unfold qx;rw[qm2];intro h;rw[qiB] at h;have:=h k (by simp[n])
     simp_all)
    clear s b I f L;go_wp2;go_ret;exact⟨by rw[z];rfl,G.t F⟩
   ·rw[show Kt p (loadAt g l k)=.iface 171 (.agg #[]) by simp[Kt,Ku,L]] at r;have z:Hid (yV a g l k=true):=qhp (by rw[b];simp;omega);clear s b I f L;go_wp2;go_roundw
    case rel=>
     refine⟨k+1,by simp,by omega,λi j=>?_,by first | rfl | trivial⟩;by_cases e:i=k
     ·rw[e];exact z
     ·exact D i (by omega)
    case measure=>simp[qiF];omega
  ·obtain rfl:k=l.length:=by omega
   have z:Hid (qx a g l=true):=qhp (by
    unfold qx;rw[qiB];intro i j;exact D i (by simpa using j))
   go_wp2;go_ret;exact⟨by rw[z];rfl,G.t F⟩
def jF(x a b:Int)(w:qhr)(f:a<=x)(d:x<=b) :qis Ya 110 #[x,a,b] w λe c=>e=.returned (.bool true)/\w=c:=by
 go_enter Tp.x110,qqE;go_wp2;go_ret;exact⟨rfl,rfl⟩
def yR(x a b:Int)(w:qhr)(c:¬ (a<=x/\x<=b)) :qis Ya 110 #[x,a,b] w λe d=>e=.returned (.bool false)/\w=d:=by
 by_cases f:a<=x
 ·have g:¬ x<=b:=λh=>c ⟨f,h⟩;clear c;go_enter Tp.x110,qqE;go_wp2;go_ret;exact⟨rfl,rfl⟩
 ·clear c;go_enter Tp.x110,qqE;go_wp2;go_ret;exact⟨rfl,rfl⟩
def Q1(p:Par):Int:=if 1<=p.mn/\p.mn<=12 then if 1<=p.mx/\p.mx<=12 then if p.mx<p.mn then 5 else if 0<=p.bears/\p.bears<=30 then if 1<=p.tall/\p.tall<=3 then 0 else 1 else 1 else 1 else 1
def q30(a b c d:Int)(w:qhr)(h:¬ (1<=a/\a<=12)) :qis Ya 109 #[.agg #[a,b,c,d]] w λe f=>e=.returned (.int .i64 1)/\w.gb f none:=by
 have g:=qhp h;clear h;go_enter Tp.x109,qnF;go_wp2_with (first
  | (go_at_call 110;refine(jF _ _ _ _ (by have:=g.out;omega) (by have:=g.out;omega)).mono ?_;rintro e f ⟨rfl,rfl⟩)
  | (go_at_call 110;(refine(yR _ _ _ _ (by have:=g.out;omega)).mono ?_);rintro e f ⟨rfl,rfl⟩))
 go_ret;exact⟨rfl,qhq _ _ _⟩
def q2H(a b c d:Int)(w:qhr)(i:1<=a/\a<=12)(h:¬ (1<=b/\b<=12)) :qis Ya 109 #[.agg #[a,b,c,d]] w λe f=>e=.returned (.int .i64 1)/\w.gb f none:=by
 have g:=qhp (qi8 i h);clear i h;go_enter Tp.x109,qnF;go_wp2_with (first
  | (go_at_call 110;refine(jF _ _ _ _ (by have:=g.out;omega) (by have:=g.out;omega)).mono ?_;rintro e f ⟨rfl,rfl⟩)
  | (go_at_call 110;(refine(yR _ _ _ _ (by have:=g.out;omega)).mono ?_);rintro e f ⟨rfl,rfl⟩))
 go_ret;exact⟨rfl,qhq _ _ _⟩
def q2G(a b c d:Int)(w:qhr)(i:1<=a/\a<=12)(h:1<=b/\b<=12)(j:b<a) :qis Ya 109 #[.agg #[a,b,c,d]] w λe f=>e=.returned (.int .i64 5)/\w.gb f none:=by
 have g:=qhp (qi8 i (qi8 h j));clear i h;go_enter Tp.x109,qnF;go_wp2_with (first
  | (go_at_call 110;refine(jF _ _ _ _ (by have:=g.out;omega) (by have:=g.out;omega)).mono ?_;rintro e f ⟨rfl,rfl⟩)
  | (go_at_call 110;(refine(yR _ _ _ _ (by have:=g.out;omega)).mono ?_);rintro e f ⟨rfl,rfl⟩))
 go_ret;exact⟨rfl,qhq _ _ _⟩
def q2F(a b c d:Int)(w:qhr)(j:1<=a/\a<=12)(i:1<=b/\b<=12)(k:¬ b<a)(h:¬ (0<=c/\c<=30)) :qis Ya 109 #[.agg #[a,b,c,d]] w λe f=>e=.returned (.int .i64 1)/\w.gb f none:=by
 have g:=qhp (qi8 j (qi8 i (qi8 k h)));clear j i h;go_enter Tp.x109,qnF;go_wp2_with (first
  | (go_at_call 110;refine(jF _ _ _ _ (by have:=g.out;omega) (by have:=g.out;omega)).mono ?_;rintro e f ⟨rfl,rfl⟩)
  | (go_at_call 110;(refine(yR _ _ _ _ (by have:=g.out;omega)).mono ?_);rintro e f ⟨rfl,rfl⟩))
 go_ret;exact⟨rfl,qhq _ _ _⟩
def q2E(a b c d:Int)(w:qhr)(k:1<=a/\a<=12)(j:1<=b/\b<=12)(l:¬ b<a)(i:0<=c/\c<=30)(h:¬ (1<=d/\d<=3)) :qis Ya 109 #[.agg #[a,b,c,d]] w λe f=>e=.returned (.int .i64 1)/\w.gb f none:=by
 have g:=qhp (qi8 k (qi8 j (qi8 l (qi8 i h))));clear k j i h;go_enter Tp.x109,qnF;go_wp2_with (first
  | (go_at_call 110;refine(jF _ _ _ _ (by have:=g.out;omega) (by have:=g.out;omega)).mono ?_;rintro e f ⟨rfl,rfl⟩)
  | (go_at_call 110;(refine(yR _ _ _ _ (by have:=g.out;omega)).mono ?_);rintro e f ⟨rfl,rfl⟩))
 go_ret;exact⟨rfl,qhq _ _ _⟩
def q2D(a b c d:Int)(w:qhr)(k:1<=a/\a<=12)(j:1<=b/\b<=12)(l:¬ b<a)(i:0<=c/\c<=30)(h:1<=d/\d<=3) :qis Ya 109 #[.agg #[a,b,c,d]] w λe f=>e=.returned (.int .i64 0)/\w.gb f none:=by
 have g:=qhp (qi8 k (qi8 j (qi8 l (qi8 i h))));clear k j i h;go_enter Tp.x109,qnF;go_wp2_with (first
  | (go_at_call 110;refine(jF _ _ _ _ (by have:=g.out;omega) (by have:=g.out;omega)).mono ?_;rintro e f ⟨rfl,rfl⟩)
  | (go_at_call 110;(refine(yR _ _ _ _ (by have:=g.out;omega)).mono ?_);rintro e f ⟨rfl,rfl⟩))
 go_ret;exact⟨rfl,qhq _ _ _⟩
def xX(p:Par)(w:qhr):qis Ya 109 #[.agg #[p.mn,p.mx,p.bears,p.tall]] w λe g=>e=.returned (.int .i64 (Q1 p))/\w.gb g none:=by
 unfold Q1;by_cases a:1<=p.mn/\p.mn<=12
 ·by_cases b:1<=p.mx/\p.mx<=12
  ·by_cases c:p.mx<p.mn
   ·rw[if_pos a,if_pos b,if_pos c];exact q2G _ _ _ _ w a b c
   ·by_cases d:0<=p.bears/\p.bears<=30
    ·by_cases f:1<=p.tall/\p.tall<=3
     ·rw[if_pos a,if_pos b,if_neg c,if_pos d,if_pos f];exact q2D _ _ _ _ w a b c d f
     ·rw[if_pos a,if_pos b,if_neg c,if_pos d,if_neg f];exact q2E _ _ _ _ w a b c d f
    ·rw[if_pos a,if_pos b,if_neg c,if_neg d];exact q2F _ _ _ _ w a b c d
  ·rw[if_pos a,if_neg b];exact q2H _ _ _ _ w a b
 ·rw[if_neg a];exact q30 _ _ _ _ w a
def zt(b:List Par)(a:Int):Int:=if 5<b.length then 6 else match b.find? (λp=>decide (Q1 p≠0)) with
 | some p=>Q1 p
 | none=>if 1<=a/\a<=12 then 0 else 1
def Yu{Y:Type}(q:Y->Bool)(l:List Y)(k:Nat)(x:Y)(h:l[k]?=some x)(e:q x=true)(b:∀(i:Nat) (y:Y),i<k->l[i]?=some y->q y=false):l.find? q=some x:=by
 induction l generalizing k with
 | nil=>simp at h
 | cons a t c=>
  cases k with
  | zero=>simp at h;subst h;simp[e]
  | succ k=>
   rw[List.find?_cons_of_neg (by rw[b 0 a (by omega) (by simp)];simp)];exact c k (by simpa using h) (λi y f d=>b (i+1) y (by omega) (by simpa using d))
def QR{Y:Type}(q:Y->Bool)(l:List Y)(c:∀(i:Nat) (y:Y),l[i]?=some y->q y=false):l.find? q=none:=by
 rw[qn3];intro x a;have⟨i,b⟩:=qp2 a;rw[c i x b];simp
def Jw(lo j:Nat)(T:qhu)(b:List Par)(a:Int)(w:qhr)(hY:jf lo j w T b a)(b8:j<=w.heap.size) :qis Ya 52 #[T] w λe N=>e=.returned (.int .i64 (zt b a))/\w.gb N none:=by
 obtain⟨qv,rfl,I⟩:=hY;obtain⟨Y,X,rfl,b7,-⟩:=I.cell;by_cases L:5<b.length
 ·have f:=qhp (show zt b a=6 by unfold zt;rw[if_pos L]);have Q:(5:Int)<b.length:=by omega
  clear I;go_enter Tp.x52,Tryz.ntmps52;go_wp2;go_ret;exact⟨by rw[f];rfl,qhq _ _ _⟩
 ·have⟨A,w1,W,v,l,n⟩:=zo w (.cells #[.slice Y b.length X,a] 24);have S:=qhp (I.kept l);have⟨R,HA,s⟩:=ze v W l;have q0:=q8 n (o:=0) rfl;have q1:=q8 n (o:=1) rfl;have Q:¬ (5:Int)<b.length:=by omega
  clear I v W l n;go_enter Tp.x52,Tryz.ntmps52;go_upto_region 1 with(fail);rw[<- HA,<- R];go_wp2;go_loopw [13] (λO wr=>∃k:Nat,O=.int .i64 k/\k<=b.length/\(∀i p,i<k->b[i]?=some p->Q1 p=0)/\w1.gb wr none) (λO _=>(b.length - qiF O).toNat)
  case atStart=>exact⟨0,rfl,by omega,λi p j=>absurd j (by omega),qhD _ _⟩
  case round=>
   obtain⟨k,rfl,hk,x,D⟩:=hrel;have⟨d,M⟩:=qE x D;have F:=S.out.kept D;have a9:=D.cl q0;have a7:=D.cl q1;clear x D;by_cases B:k<b.length
   ·obtain⟨b2,c2,he,-,V⟩:=F.cell;cases he;obtain⟨YB,yo,rfl,c9,c8,c3,C⟩:=V (by intro e;rw[e] at B;simp at B);have⟨p,U,p0,p1,p2,p3⟩:=C k (by omega);have G:=qhp U;clear V C U F;by_cases H:Q1 p=0
    ·go_wp2_with (go_at_call 109;refine(xX p _).mono ?_;rintro e Z ⟨rfl,c⟩;rw[H];have r:=qhp c;clear c);go_roundw
     case rel=>
      refine⟨k+1,by simp,by omega,λi q j P=>?_,(M.t (qhq _ _ _)).t r⟩;by_cases e:i=k
      ·subst e;rw[G] at P;cases P;exact H
      ·exact d i q (by omega) P
     case measure=>simp[qiF];omega
    ·have f:=qhp (show zt b a=Q1 p by
      unfold zt;rw[if_neg L,Yu _ b k p G (by simp[H]) (λi y j h=>by simp[d.out i y j h])])
     obtain⟨z,g⟩:∃z,Q1 p=z:=⟨_,rfl⟩;rw[g] at H f;have HZ:=qhp g;clear g;go_wp2_with (go_at_call 109;refine(xX p _).mono ?_;rintro e Z ⟨rfl,c⟩;rw[HZ];have r:=qhp c;clear c);go_ret;exact⟨by rw[f];rfl,((s.t M).t (qhq _ _ _)).t r⟩
   ·obtain rfl:k=b.length:=by omega
    by_cases u:1<=a/\a<=12
    ·have f:=qhp (show zt b a=0 by
      unfold zt;rw[if_neg L,QR _ b (λi y h=>by simp[d.out i y (qi3.1 h).1 h])];exact if_pos u)
     go_wp2_with (go_at_call 110;refine(jF _ _ _ _ u.1 u.2).mono ?_;rintro e N ⟨rfl,rfl⟩);go_ret;exact⟨by rw[f];rfl,s.t M⟩
    ·have f:=qhp (show zt b a=1 by
      unfold zt;rw[if_neg L,QR _ b (λi y h=>by simp[d.out i y (qi3.1 h).1 h])];exact if_neg u)
     have HL:=qhp u;clear u;go_wp2_with (go_at_call 110;refine(yR _ _ _ _ HL).mono ?_;rintro e N ⟨rfl,rfl⟩);go_ret;exact⟨by rw[f];rfl,s.t M⟩
def qcp:∀m:Fin 32,∀n:Fin 5,(bits .and .u8 (m.1:Int) ((2 ^ n.1:Nat):Int) != 0)=m.1.testBit n.1:=by decide
def qel:∀m:Fin 32,∀n:Fin 5,bits .or .u8 (m.1:Int) ((2 ^ n.1:Nat):Int)=((m.1 ||| 2 ^ n.1:Nat):Int):=by decide
@[simp] theorem qhn(w:qhr):(qo9 205 (.agg #[.int .u8 1,.int .u8 2,.int .u8 4,.int .u8 8,.int .u8 16]) (.int .i64 0)).run Ya w=.ok (.int .u8 1) w:=by kernel_rfl
@[simp] theorem qhm(w:qhr):(qo9 205 (.agg #[.int .u8 1,.int .u8 2,.int .u8 4,.int .u8 8,.int .u8 16]) (.int .i64 1)).run Ya w=.ok (.int .u8 2) w:=by kernel_rfl
@[simp] theorem qhl(w:qhr):(qo9 205 (.agg #[.int .u8 1,.int .u8 2,.int .u8 4,.int .u8 8,.int .u8 16]) (.int .i64 2)).run Ya w=.ok (.int .u8 4) w:=by kernel_rfl
@[simp] theorem qhk(w:qhr):(qo9 205 (.agg #[.int .u8 1,.int .u8 2,.int .u8 4,.int .u8 8,.int .u8 16]) (.int .i64 3)).run Ya w=.ok (.int .u8 8) w:=by kernel_rfl
@[simp] theorem qhj(w:qhr):(qo9 205 (.agg #[.int .u8 1,.int .u8 2,.int .u8 4,.int .u8 8,.int .u8 16]) (.int .i64 4)).run Ya w=.ok (.int .u8 16) w:=by kernel_rfl
def xO(n:Nat)(w:qhr)(h:n<5):qis Ya 153 #[n] w λe a=>e=.returned (.int .u8 ((2 ^ n:Nat):Int))/\w=a:=by
 obtain rfl | rfl | rfl | rfl | rfl:n=0\/n=1\/n=2\/n=3\/n=4:=by omega
 all_goals
  go_enter Tp.x153,Tryz.ntmps153;go_wp2;go_ret;exact⟨rfl,rfl⟩
def Yt(m n:Nat)(w:qhr)(hm:m<32)(h:n<5):qis Ya 129 #[.int .u8 m,n] w λe b=>e=.returned (.bool (m.testBit n))/\w=b:=by
 have a:=qcp ⟨m,hm⟩ ⟨n,h⟩;simp only at a;have f:=qhp a;clear a;obtain⟨z,c⟩:∃z:Int,((2 ^ n:Nat):Int)=z:=⟨_,rfl⟩;have d:=qhp c;clear c;go_enter Tp.x129,Tryz.ntmps129;go_wp2_with (go_at_call 153;refine(xO n _ h).mono ?_;rintro e b ⟨rfl,rfl⟩;rw[d]);go_ret;exact⟨by rw[<- f,d];rfl,rfl⟩
def Zz(m n:Nat)(w:qhr)(hm:m<32)(h:n<5):qis Ya 151 #[.int .u8 m,n] w λe b=>e=.returned (.int .u8 ((m ||| 2 ^ n:Nat):Int))/\w=b:=by
 have a:=qel ⟨m,hm⟩ ⟨n,h⟩;simp only at a;have f:=qhp a;clear a;obtain⟨z,c⟩:∃z:Int,((2 ^ n:Nat):Int)=z:=⟨_,rfl⟩;have d:=qhp c;clear c;go_enter Tp.x151,Tryz.ntmps151;go_wp2_with (go_at_call 153;refine(xO n _ h).mono ?_;rintro e b ⟨rfl,rfl⟩;rw[d]);go_ret;exact⟨by rw[<- f,d];rfl,rfl⟩
def Ka(k:Int)(w:qhr):qis Ya 162 #[.bool true,k] w λe a=>e=.returned (.tuple #[])/\w=a:=by
 go_enter Tp.x162,Tryz.ntmps162;go_wp2;go_end0;exact⟨rfl,rfl⟩
def KJ(p:qiG)(w:qhr) :CallsD Ya 161 #[.pointer (some p)] .returning w λe d c=>e=.returned (.tuple #[])/\d=.returning/\c=w.alloc (.cells #[.int .i64 0] 181):=by
 have a:∀w,(qlz .nilIface 20 181 true).run Ya w=.ok (.tuple #[.agg #[.int .i64 0],.bool false]) w:=λw=>by kernel_rfl
 refine callsD_of_wpS Tp.x161 rfl λc₀ f b=>?_;apply wpS_seq;apply qq2;simp[wpOpsS,go_sem,recoverD,b,qpr,Exit.thenS,a];apply wpS_seq;apply qq2;simp[wpOpsS,go_sem,recoverD,b,qpr,Exit.thenS];refine wpS_cond (t:=false) (by simp[Act.eval,qiE]) ?_;simp only[qiv,if_false];refine wpS_of_wp (wp_skip ?_);cases c₀
 simp_all [bodyPostS,qke,qrF]
def QT(B:Nat)(x k:Int)(a:List qn0)(w:qhr)(d:w.heap[B]?=some (.cells #[x] 40 (0,0))) :CallsD Ya 161 #[.pointer (some B)] (.panicking ({ v:=.iface 181 (.agg #[k]),recovered:=false }::a)) w λe g f =>e=.returned (.tuple #[])/\g=.panicking ({ v:=.iface 181 (.agg #[k]),recovered:=true }::a)/\f=(w.alloc (.cells #[k] 181)).setCell B (.int .i64 k):=by
 have b:∀w,(qlz (.iface 181 (.agg #[k])) 20 181 true).run Ya w=.ok (.tuple #[.agg #[k],.bool true]) w:=λw=>by kernel_rfl
 have i:=q8 (qq (p:=.cells #[k] 181) d) (o:=0) rfl;have h:=qn (qq (p:=.cells #[k] 181) d) (o:=0);refine callsD_of_wpS Tp.x161 rfl λc₀ j c=>?_;apply wpS_seq;apply qq2;simp[wpOpsS,go_sem,recoverD,c,qpr,Exit.thenS,b];apply wpS_seq;apply qq2;simp[wpOpsS,go_sem,recoverD,c,qpr,Exit.thenS];refine wpS_cond (t:=true) (by simp[Act.eval,qiE]) ?_;simp only[if_true];apply qq2;simp[wpOpsS,go_sem,i,h,bodyPostS,qke,qrF]
def q2q(k:Int)(w:qhr):qis Ya 162 #[.bool false,k] w λe b=>e=.panicked [{ v:=.iface 181 (.agg #[k]),recovered:=false }]/\w=b:=by
 have a:∀(x:Bool) (w:qhr),(Op.unary .not (.bool x)).run Ya w=.ok (.bool (!x)) w:=λ_ _=>rfl;go_enter Tp.x162,Tryz.ntmps162;go_wp2;exact⟨rfl,rfl,rfl⟩
def zj(l:List Int):Nat:=l.foldl (λm x=>m ||| 2 ^ x.toNat) 0
def Jn(l:List Int)(k:Nat)(x:Int)(h:l[k]?=some x):zj (l.take (k+1))=zj (l.take k) ||| 2 ^ x.toNat:=by
 rw[qj7,h];simp[zj]
def xE(l:List Int)(n:Nat)(h:∀x∈l,x.toNat<n):zj l<2 ^ n:=by
 unfold zj;have b:∀(l:List Int) (m:Nat),m<2 ^ n->(∀x∈l,x.toNat<n)->l.foldl (λm x=>m ||| 2 ^ x.toNat) m<2 ^ n:=by
  intro l;induction l with
  | nil=>exact λm hm _=>hm
  | cons a t e=>exact λm hm d=>e _ (Nat.or_lt_two_pow hm (Nat.pow_lt_pow_right (by omega) (d a (by simp)))) λx c=>d x (by simp[c])
 exact b l 0 (Nat.two_pow_pos n) h
def ZQ(l:List Int)(b:Nat):(zj l).testBit b=true↔∃x∈l,x.toNat=b:=by
 unfold zj;have c:∀(l:List Int) (m:Nat),(l.foldl (λm x=>m ||| 2 ^ x.toNat) m).testBit b=true↔m.testBit b=true\/∃x∈l,x.toNat=b:=by
  intro l;induction l with
  | nil=>simp
  | cons a t d=>
   intro m;simp only[qln,d,Nat.testBit_or,qkt,Nat.testBit_two_pow,decide_eq_true_eq,qjr,exists_eq_or_imp];constructor
   ·rintro((h | h) | h)
    ·exact .inl h
    ·exact .inr (.inl h)
    ·exact .inr (.inr h)
   ·rintro(h | h | h)
    ·exact .inl (.inl h)
    ·exact .inl (.inr h)
    ·exact .inr h
 rw[c l 0];simp
def yA(a:List Par)(x:Int):Int:=match a[x.toNat]? with | some p=>p.tall | none=>0
def qS(a:List Par)(l:List Int):Int:=(l.map (yA a)).foldl (·+·) 0
def xk(a:List Par)(l:List Int)(k:Nat)(x:Int)(h:l[k]?=some x):qS a (l.take (k+1))=qS a (l.take k)+yA a x:=by
 rw[qj7,h];simp[qS]
def q57(b:List Par)(a:Int)(l:List Int):Int:=if qS b l<=a then 0 else 10
def vB(lo hi:Nat)(yv pv:qhu)(a:List Par)(b:Int)(l:List Int)(w:qhr)(hY:jf lo hi w yv a b)(hI:qg lo hi w pv l)(n7:hi<=w.heap.size)(h5:a.length<=5)(P:∀x∈l,0<=x/\x<a.length)(G:l.Nodup)(ht:∀p∈a,0<=p.tall/\p.tall<=1000)(k0:l.length<=100) :qis Ya 133 #[yv,pv] w λe u=>e=.returned (.int .i64 (q57 a b l))/\w.gb u none:=by
 have n4:∀(fn:Fn) (first I:Array qhu) (w:qhr),(qs1 fn first I).run Ya w=.ok (.func fn first I) w:=λ_ _ _ _=>rfl;have h9:∀(x:Bool) (w:qhr),(Op.unary .not (.bool x)).run Ya w=.ok (.bool (!x)) w:=λ_ _=>rfl;obtain⟨qv,rfl,hP⟩:=hY;obtain⟨yb,yc,rfl,m5,-⟩:=hP.cell;obtain⟨base,I,rfl,n6,-⟩:=hI.cell;have⟨A,w1,hA,Q,r,s,V,b8⟩:=zy w (.cells #[.slice yb a.length yc,b] 91) (.cells #[.int .i64 0] 40);have e9:=qhp (hI.kept r);have e6:=qhp (hP.kept r);have⟨HX,e7,HT,e4,HA,a6,e5⟩:=q6k P G ht Q hA r V;have q0:=q8 s (o:=0) rfl;have q1:=q8 s (o:=1) rfl;clear hI hP P G ht Q hA r s V;go_enter_defers Tp.x133,Tryz.ntmps133;go_upto_region 4 with(fail);rw[<- HA,<- e4];go_wp2;go_loopw [5,6,12] (λmv tv iv wr=>∃k:Nat,iv=.int .i64 k/\k<=l.length/\mv=.int .u8 (zj (l.take k))/\tv=.int .i64 (qS a (l.take k))/\0<=qS a (l.take k)/\qS a (l.take k)<=1000*k/\w1.gb wr none) (λ_ _ iv _=>(l.length - qiF iv).toNat)
 case atStart=>exact⟨0,rfl,by omega,by simp[zj],by simp[qS],by simp[qS],by simp[qS],qhD _ _⟩
 case round=>
  obtain⟨k,rfl,hk,rfl,rfl,F,D,W⟩:=hrel;have O:=qhp W;have l8:=W.cl q0;have l6:=W.cl q1;have m8:=W.size;clear W;by_cases g:k<l.length
  ·have Z:=e9.out.kept O;have Y:=e6.out.kept O;obtain⟨b1,c1,he,-,hc⟩:=Z.cell;cases he;obtain⟨B,o,rfl,s,p9,p8,X⟩:=hc (by intro e;rw[e] at g;simp at g);have P:=X k g;obtain⟨x,c⟩:∃x,l[k]?=some x:=⟨_,qhz g⟩;have⟨m7,C⟩:=HX.out x (qi9 c);rw[c] at P;simp only[qhC] at P;have d:(zj (l.take k)).testBit x.toNat=false:=by
    rw[qm2];intro h;have⟨y,hy,m4⟩:=(ZQ _ _).1 h;have⟨j,hj⟩:=qp2 hy;have S:j<k:=by have:=(qi3.1 hj).1;simp at this;omega
    rw[qk4 S] at hj;have m6:=HX.out y (qi9 hj);obtain rfl:y=x:=by omega
    have⟨h1,h2⟩:=qi3.1 hj;have⟨h3,h4⟩:=qi3.1 c;exact List.pairwise_iff_getElem.1 e7 j k h1 h3 S (h2.t h4.symm)
   have hM:zj (l.take k)<32:=xE _ 5 λy hy=>by have:=HX.out y (qmp hy);omega
   have q:=Jn l k x c;have i:=xk a l k x c;obtain⟨m,rfl⟩:∃m:Nat,x=m:=⟨x.toNat,by omega⟩;obtain⟨b2,c2,he,-,hc⟩:=Y.cell;cases he;obtain⟨YB,yo,rfl,p4,n9,n8,U⟩:=hc (by intro e;rw[e] at C;simp at C;omega);have⟨p,hp,p0,p1,p2,p3⟩:=U m (by omega);have n2:=HT.out p (qi9 hp);rw[show yA a m=p.tall by unfold yA;simp[hp]] at i;simp only[Int.toNat_natCast] at d q;have n3:(m:Int)<(a.length:Int):=C;have R:m<5:=by omega
   generalize zj (l.take k)=M at d hM q;generalize qS a (l.take k)=T at F D i;have⟨a7,e8,L,q6⟩:=j8 d q i c;clear Z Y hc X U hp d q i c;go_wp2_with (first
    | (go_at_call 110;refine(jF _ _ _ _ (by omega) (by omega)).mono ?_;rintro e u ⟨rfl,rfl⟩)
    | (go_at_call 162;refine(Ka _ _).mono ?_;rintro e u ⟨rfl,rfl⟩)
    | (go_at_call 129;refine(Yt M m _ hM R).mono ?_;rintro e u ⟨rfl,rfl⟩;rw[a7])
    | (go_at_call 151;refine(Zz M m _ hM R).mono ?_;rintro e u ⟨rfl,rfl⟩)
    | (go_at_call 145;refine(YH _ _ _ T p.tall _ (by exact qg.laid _ [T,p.tall] 2 rfl (by simp)) (by omega) (by omega)).mono ?_;rintro e u ⟨rfl,rfl⟩))
   go_roundw
   case rel=>
    refine⟨k+1,by simp,by omega,by rw[e8],by rw[L],by rw[L];omega,by rw[L];omega,O.t (qhq _ _ _)⟩
   case measure=>simp[qiF];omega
  ·obtain rfl:k=l.length:=by omega
   rw[qjs] at F D;rw[qjs];have HZ:=qhp (show q57 a b l=if qS a l<=b then 0 else 10 from rfl);generalize qS a l=T at F D HZ;generalize zj l=M;have n:=bk O e5;have p7:=q8 (o:=0) n rfl;have p6:=qn (o:=0) n;have N:=qhp n;have m9:=b8;clear n;by_cases z:T<=b
   ·have HC:=qhp (HZ.t (if_pos z));go_wp2_with (go_at_call 162;refine(Ka _ _).mono ?_;rintro e u ⟨rfl,rfl⟩);refine qob (f:=161) (args:=#[.pointer (some (A+1:Nat))]) (by simp) (by simp[go_sem]) ?_;refine(KJ ⟨A+1,0,none⟩ _).mono ?_;rintro e u' b0 ⟨rfl,rfl,rfl⟩;have H:(((wr.setCell (A+1:Nat) (.int .i64 0)).alloc (.cells #[.int .i64 0] 181)).heap[A+1]?=some (.cells #[.int .i64 0] 40 (0,0))):=qq (by rw[qi N];rfl);refine⟨.int .i64 0,?_,by rw[HC],?_⟩
    ·simp[qke,qn9,go_sem,qiq,H]
    ·have hh:=a6.out.t O;exact(hh.andThen (qh _ _ _ _) (by rintro j e;cases e;exact .inl (by have:=HA.out;omega))).t (qhq _ _ _)
   ·have HC:=qhp (HZ.t (if_neg z));have G:decide (T<=b)=false:=by simp;omega
    go_wp2_with (go_at_call 162;refine(q2q _ _).mono ?_;rintro e u ⟨rfl,rfl⟩);refine qob (f:=161) (args:=#[.pointer (some (A+1:Nat))]) (by simp) (by simp[go_sem]) ?_;refine(QT (A+1) 0 10 [] _ N).mono ?_;rintro e u' b0 ⟨rfl,rfl,rfl⟩;have hh:=a6.out.t O;have H:=qi (o:=0) (v:=.int .i64 10) (qq (p:=.cells #[.int .i64 10] 181) N);simp[Leaves,settle,qke,qn9,go_sem,qiq,H,HC.out];exact(hh.t (qhq _ _ none)).andThen (qh _ _ _ _) (by rintro j e;cases e;exact .inl (by have:=HA.out;omega))
structure YOk(ps:List Par)(lim:Int):Prop where
 len:ps.length<=5
 each:∀p∈ps,1<=p.mn/\p.mn<=p.mx/\p.mx<=12/\0<=p.bears/\p.bears<=30/\1<=p.tall/\p.tall<=3
 l1:1<=lim
 l2:lim<=12
def YOk.chk{b:List Par}{a:Int}(h:YOk b a):zt b a=0:=by
 have e:=h.len;unfold zt;rw[if_neg (by omega),QR _ b (λi y d=>by
  have:=h.each y (qi9 d);have c:Q1 y=0:=by unfold Q1;rw[if_pos (by omega),if_pos (by omega),if_neg (by omega),if_pos (by omega),if_pos (by omega)]
  simp[c])]
 exact if_pos ⟨h.l1,h.l2⟩
structure POk(ps:List Par)(lim:Int)(l:List Int):Prop where
 ok:∀x∈l,0<=x/\x<ps.length
 nd:l.Nodup
 tall:qS ps l<=lim
 len:l.length<=100
structure PIn(ps:List Par)(l:List Int):Prop where
 ok:∀x∈l,0<=x/\x<ps.length
 nd:l.Nodup
 len:l.length<=100
def POk.pin{b:List Par}{a:Int}{l:List Int}(h:POk b a l):PIn b l:=⟨h.ok,h.nd,h.len⟩
def POk.chk{b:List Par}{a:Int}{l:List Int}(h:POk b a l):q57 b a l=0:=if_pos h.tall
def qbe(O z:Nat)(T qv:qhu)(d:List Par)(a:Int)(l:List Int)(w:qhr)(U:qr O z w T d)(V:qg O z w qv l)(e7:z<=w.heap.size)(C:YOk d a)(P:PIn d l) :qis Ya 81 #[.agg #[T,a],qv] w λe w'=>e=.returned (.tuple #[.agg #[T,a],(q57 d a l)])/\w.gb w' none:=by
 obtain⟨x,u,rfl,d8,-⟩:=U.cell;obtain⟨base,g5,rfl,e6,-⟩:=V.cell;have⟨A,w1,hA,B,n,r,G,e5⟩:=zy w (.cells #[.slice x d.length u,a] 24) (.cells #[.slice none 0 0,.int .i64 0] 91);have b6:=qhp (V.kept n);have M:=qhp (U.kept n);have⟨a6,HA,b9,a8,g6⟩:=ZW B hA n G r;have S:=q8 r (o:=0) rfl;have R:=q8 r (o:=1) rfl;have e8:z<=A:=by omega
 have⟨X,s⟩:=qE C P;clear U V C P B hA n G r;go_enter Tp.x81,qrf;go_upto_region 1 with(fail);rw[<- HA,<- a6];go_upto_region 4 with(go_at_call 52;refine(Jw O z _ d a _ ⟨_,rfl,M⟩ (by omega)).mono ?_;rintro e Q ⟨rfl,L⟩;rw[X.chk];have c:=qhp L;clear L);have p0:=c.out.cl S;have p1:=c.out.cl R;have e4:=c.out.size;clear S R;go_upto_region 5 with(fail);obtain⟨Y,i⟩:∃Y,Y=Q.heap.size:=⟨_,rfl⟩;obtain⟨y,f⟩:∃y,y=Q.alloc (.cells #[.slice x d.length u,a] 91):=⟨_,rfl⟩;have g:Q.gb y none:=by rw[f];exact qhq _ _ none
 have q:y.heap[Y]?=some (.cells #[.slice x d.length u,a] 91 (0,0)):=by rw[f,i];exact qhA _ _
 have d9:y.heap.size=Y+1:=by rw[f,qhH,i]
 rw[<- i,<- f];have S:=q8 q (o:=0) rfl;have R:=q8 q (o:=1) rfl;have h:=qhp (bk g (blk c (by simp) a8));have N:=qhp q;have b8:=qhp ((b9.t c).t g);have b0:=qhp ((b6.kept c).kept g);have a9:=qhp ((M.kept c).kept g);have e9:A+1<Y:=by omega
 clear g q f i p0 p1;go_region_law
  (first
   | (go_simp;go_at_call 133;refine(vB O z _ _ d a l _ ⟨_,rfl,a9.kept (qe _ none)⟩ (b0.kept (qe _ none)) (by simp;omega) X.len s.ok s.nd (λp P=>by have:=X.out.each p P;omega) s.len).mono ?_;rintro e w4 ⟨rfl,I⟩;have b:=qhp ((qe y none).t I);have r0:=q8 (o:=0) (bk b N) rfl;have r1:=q8 (o:=1) (bk b N) rfl;have s0:=q8 (o:=0) (bk b h) rfl;have s1:=q8 (o:=1) (bk b h) rfl;have f0:=qn (o:=0) (bk b h);have f1:=qn (o:=1) (bk b h);clear I))
 all_goals
  have D:=bk b h;obtain⟨W,k⟩:∃W,W=(w4.setCell (A+1:Nat) (.slice x d.length u)).setCell ⟨A+1,1,none⟩ (.int .i64 a):=⟨_,rfl⟩;have F:W.heap[A+1]?=some (.cells #[.slice x d.length u,a] 91 (0,0)):=by rw[k,qi (qi D)];rfl
  have H:w.gb W none:=(b8.t b).andThen (row':=some (A+1)) (by rw[k];exact(qh _ _ _ _).t (qh _ _ _ _)) (by rintro j e;cases e;exact .inl (by have:=HA.out;omega));have⟨a7,b7,Z⟩:=ze F H k;clear D F H k;go_wp2;rw[<- Z];exact qka (v:=.tuple #[.agg #[.slice x d.length u,a],(q57 d a l)]) (by simp[qke,qqi,go_sem,qiq,a7.out]) rfl ⟨rfl,b7⟩
def vg(f d:Nat)(b qv:qhu)(c:List Par)(a:Int)(l:List Int)(w:qhr)(n:qr f d w b c)(o:qg f d w qv l)(i:d<=w.heap.size)(g:YOk c a)(j:POk c a l) :qis Ya 81 #[.agg #[b,a],qv] w λe k=>e=.returned (.tuple #[.agg #[b,a],.int .i64 0])/\w.gb k none:=by
 have h:=qbe f d b qv c a l w n o i g j.pin
 rwa [j.chk] at h
def q3c(a b:Bool):Int:=if a != b then 3 else if a then 1 else 2
def q3b(a b:Bool)(w:qhr):qis Ya 95 #[.bool a,.bool b] w λe c=>e=.returned (.int .i64 (q3c a b))/\w=c:=by
 cases a<;>cases b;all_goals
  go_enter Tp.x95,Tryz.ntmps95;go_wp2;go_ret;exact⟨rfl,rfl⟩
def q68(a b c d:Int)(w:qhr):qis Ya 39 #[a,b,c,d] w λe y=>e=.returned (.agg #[a,b,c,d])/\w.gb y none:=by
 obtain⟨A,n⟩:∃A,A=w.heap.size:=⟨_,rfl⟩;obtain⟨i,f⟩:∃i,i=w.alloc (.cells #[.int .i64 0,.int .i64 0,.int .i64 0,.int .i64 0] 28):=⟨_,rfl⟩;have h:i.heap[A]?=some (.cells #[.int .i64 0,.int .i64 0,.int .i64 0,.int .i64 0] 28 (0,0)):=by rw[f,n];exact qhA w _
 have u:w.gb i none:=by rw[f];exact qhq _ _ none
 have⟨x,q,z,B⟩:=j8 n f h u;have r0:=q8 (o:=0) h rfl;have F:=q8 (o:=1) h rfl;have D:=q8 (o:=2) h rfl;have C:=q8 (o:=3) h rfl;have G:∀o,i.frozen? ⟨A,o,none⟩=false:=λo=>qn h;clear n f h u;go_enter Tp.x39,Tryz.ntmps39;go_upto_region 1 with(fail);rw[<- x,<- q];obtain⟨W,g⟩:∃W,W=(((i.setCell A (.int .i64 a)).setCell ⟨A,1,none⟩ (.int .i64 b)).setCell ⟨A,2,none⟩ (.int .i64 c)).setCell ⟨A,3,none⟩ (.int .i64 d):=⟨_,rfl⟩;have k:W.heap[A]?=some (.cells #[a,b,c,d] 28 (0,0)):=by rw[g,qi (qi (qi (qi z)))];rfl
 have l:w.gb W none:=B.out.andThen (row':=some A) (by rw[g];exact(((qh _ _ _ _).t (qh _ _ _ _)).t (qh _ _ _ _)).t (qh _ _ _ _)) (by rintro j e;cases e;exact .inl (by have:=x.out;omega));have⟨r,s,p⟩:=ze k l g;clear k l g;go_wp2;rw[<- p];exact qka (v:=.agg #[a,b,c,d]) (by simp[qke,Tryz.results39,go_sem,qiq,r.out]) rfl ⟨rfl,s⟩
def zh(n:Int):List Par:=[⟨8,10,n,2⟩,⟨4,6,6,2⟩,⟨2,3,3,1⟩,⟨5,5,0,1⟩]
def YOk.mn{a:List Par}{b:Int}(h:YOk a b)(i:Nat):0<=pre Par.mn a a.length i/\pre Par.mn a a.length i<=1000:=by
 unfold pre;split
 ·rename_i c
  rw[qhz c];have:=h.each _ (qmB c);simp only;omega
 ·omega
def YOk.mx{a:List Par}{b:Int}(h:YOk a b)(i:Nat):0<=pre Par.mx a a.length i/\pre Par.mx a a.length i<=1000:=by
 unfold pre;split
 ·rename_i c
  rw[qhz c];have:=h.each _ (qmB c);simp only;omega
 ·omega
def jg(a:List Par)(l:List Int):Int:=q3c (qx a (pre Par.mn a a.length) l) (qx a (pre Par.mx a a.length) l)
def q8c(B k:Nat)(pv qv:qhu)(c:List Par)(a:Int)(l:List Int)(w:qhr)(hP:qr B k w pv c)(hI:qg B k w qv l)(g9:k<=w.heap.size)(O:YOk c a)(hp:POk c a l) :qis Ya 37 #[.agg #[pv,a],qv] w λe Z=>e=.returned (.tuple #[(jg c l),.int .i64 0])/\w.gb Z none:=by
 obtain⟨y,x,rfl,g7,-⟩:=hP.cell;obtain⟨base,b9,rfl,g8,-⟩:=hI.cell;have⟨A,w1,hA,C,s,G⟩:=zo w (.cells #[.slice y c.length x,a] 24);have b0:w1.heap.size=A+1:=by rw[C,qhH,hA]
 have U:=qhp (hI.kept s);have T:=qhp (hP.kept s);have⟨c3,HA,d7⟩:=ze C hA s;have q0:=q8 G (o:=0) rfl;have q1:=q8 G (o:=1) rfl;have h8:k<=A:=by omega
 have⟨M,I⟩:=qE O hp;clear hP hI O hp C hA s G;go_enter Tp.x37,Tryz.ntmps37;go_upto_region 1 with(fail);rw[<- HA,<- c3];go_upto_region 2 with(go_at_call 81;refine(vg B k _ _ c a l _ T U (by omega) M I).mono ?_;rintro e w2 ⟨rfl,S⟩;have v:=qhp S;clear S);have a9:=v.out.size;obtain⟨Y,q⟩:∃Y,Y=w2.heap.size:=⟨_,rfl⟩;obtain⟨g,j⟩:∃g,g=w2.alloc (.cells #[.slice y c.length x,a] 91):=⟨_,rfl⟩;have r:w2.gb g none:=by rw[j];exact qhq _ _ none
 have u:g.heap[Y]?=some (.cells #[.slice y c.length x,a] 91 (0,0)):=by rw[j,q];exact qhA _ _
 have a8:g.heap.size=Y+1:=by rw[j,qhH,q]
 rw[<- q,<- j];clear q0 q1;have s0:=q8 u (o:=0) rfl;have s1:=q8 u (o:=1) rfl;have d:=qhp u;have d6:=qhp ((d7.t v).t r);have d5:=qhp ((U.kept v).kept r);have c8:=qhp ((T.kept v).kept r);have h9:A<Y:=by omega
 have n:k<=g.heap.size:=by omega
 clear r u j q b0 a9 a8;go_upto_region 4 with(fail);have b:=qhp (qhD g none);have N:∀W,g.gb W none->jf B k W (.agg #[.slice y c.length x,a]) c a:=λW h=>⟨_,rfl,c8.kept h⟩;have P:∀W,g.gb W none->qg B k W (.slice base l.length b9) l:=λW h=>d5.kept h;have⟨H,c9⟩:=qE N P;clear N P;have SC:=qhp (qi8 s0 s1);obtain⟨L,F⟩:∃L,L=pre Par.mn c c.length:=⟨_,rfl⟩;obtain⟨gx,D⟩:∃gx,gx=pre Par.mx c c.length:=⟨_,rfl⟩;have R:∀i,0<=L i/\L i<=1000:=by rw[F];exact M.mn
 have Q:∀i,0<=gx i/\gx i<=1000:=by rw[D];exact M.mx
 have⟨X,V,d9,d8⟩:=j8 F D R Q;clear F D R Q;go_region_held3 (λZ=>Z.cell? Y=some (.slice y c.length x)/\Z.cell? ⟨Y,1,none⟩=some (.int .i64 a))
  (first | exact SC)
  (first
   | (go_at_call 93;refine(QN B k _ c a _ (H _ (by first | exact b | exact b.t (qe _ _))) (qhB n (by first | exact b.size | exact(b.t (qe _ none)).size)) M.len).mono ?_;rintro e f ⟨rfl,p⟩;rw[<- X];replace b:=qhp (show g.gb f none by first | exact b.t p | exact(b.t (qe _ _)).t p);replace SC:=qhp (show f.cell? Y=some (.slice y c.length x)/\f.cell? ⟨Y,1,none⟩=some (.int .i64 a) from⟨q8 (bk b d) rfl,q8 (bk b d) rfl⟩);clear p)
   | (go_at_call 92;refine(Qo B k _ c a _ (H _ (by first | exact b | exact b.t (qe _ _))) (qhB n (by first | exact b.size | exact(b.t (qe _ none)).size)) M.len).mono ?_;rintro e f ⟨rfl,p⟩;rw[<- V];replace b:=qhp (show g.gb f none by first | exact b.t p | exact(b.t (qe _ _)).t p);replace SC:=qhp (show f.cell? Y=some (.slice y c.length x)/\f.cell? ⟨Y,1,none⟩=some (.int .i64 a) from⟨q8 (bk b d) rfl,q8 (bk b d) rfl⟩);clear p)
   | (go_at_call 96;refine(kF B k _ _ c a l _ _ (H _ (by first | exact b | exact b.t (qe _ _))) (c9 _ (by first | exact b | exact b.t (qe _ _))) (qhB n (by first | exact b.size | exact(b.t (qe _ none)).size)) M.len I.ok (by have:=I.out.len;omega) (by first | exact d9 | exact d8)).mono ?_;rintro e f ⟨rfl,p⟩;replace b:=qhp (show g.gb f none by first | exact b.t p | exact(b.t (qe _ _)).t p);replace SC:=qhp (show f.cell? Y=some (.slice y c.length x)/\f.cell? ⟨Y,1,none⟩=some (.int .i64 a) from⟨q8 (bk b d) rfl,q8 (bk b d) rfl⟩);clear p)
   | (go_at_call 95;refine(q3b _ _ _).mono ?_;rintro e f ⟨rfl,rfl⟩))
 have HV:=qhp (show jg c l=q3c (qx c L l) (qx c gx l) by rw[X,V];rfl);generalize q3c (qx c L l) (qx c gx l)=z at HV ⊢;go_wp2;go_ret2;exact⟨by rw[HV];rfl,d6.t b⟩
def zY(a:List Par)(g:Nat->Int)(l:List Int):Nat->Int
 | 0=>30
 | k+1=>match a[(l[k]?.getD 0).toNat]? with | some p=>min (zY a g l k) (p.bears - loadAt g l k) | none=>zY a g l k
def q14(S C:Nat)(yv pv:qhu)(c:List Par)(r:Int)(l:List Int)(g:Nat->Int)(w:qhr)(hY:jf S C w yv c r)(Y:qg S C w pv l)(k9:C<=w.heap.size)(h5:c.length<=5)(u:∀x∈l,0<=x/\x<c.length)(hl:l.length<=1000)(hg:∀i,0<=g i/\g i<=1000)(hb:∀p∈c,0<=p.bears/\p.bears<=1000) :qis Ya 94 #[yv,pv,wts g] w λe w'=>e=.returned (.int .i64 (zY c g l l.length))/\w.gb w' none:=by
 obtain⟨qv,rfl,X⟩:=hY;obtain⟨yb,yc,rfl,g9,-⟩:=X.cell;obtain⟨base,m7,rfl,k8,-⟩:=Y.cell;have⟨A,w1,hA,y,q,f,b,k5⟩:=zy w (.cells #[.slice yb c.length yc,r] 91) (qI g);have N:=qhp (Y.kept q);have a6:=qhp (X.kept q);have⟨HX,O,Z,HA,a7,n2⟩:=Kq u hg y hA q f;have q0:=q8 f (o:=0) rfl;have q1:=q8 f (o:=1) rfl;have r0:=qp b (show 0<5 by omega);have r1:=qp b (show 1<5 by omega);have r2:=qp b (show 2<5 by omega);have r3:=qp b (show 3<5 by omega);have r4:=qp b (show 4<5 by omega);have l4:C<=A:=by omega
 clear Y X u hg y hA q f b;unfold wts;go_enter Tp.x94,Tryz.ntmps94;go_upto_region 2 with(fail);rw[<- HA,show(w.alloc (.cells #[.slice yb c.length yc,r] 91)).alloc (.cells #[(g 0),(g 1),(g 2),(g 3),(g 4)] 101)=w1 from Z.symm];go_wp2_with (go_at_call 91;(refine(QM S C _ _ l g _ N (by omega) (by intro x u;have:=HX.out x u;omega) hl O ⟨_,_,rfl⟩).mono ?_);rintro e w2 ⟨lv,rfl,G,n⟩;have d:=n.cell;rw[kv] at d;obtain⟨lb,lc,rfl,-,d⟩:=d;have a9:=qhp d;clear d;have h:=qhp G;have m9:=qhp n;clear G n);have R:=h.out.cl q0;have k0:=h.out.size;clear r0 r1 r2 r3 r4 q0 q1;have b0:=qhp hb;clear hb;go_loopw [7,15] (λnv T wr=>∃k:Nat,T=.int .i64 k/\k<=l.length/\nv=.int .i64 (zY c g l k)/\w2.gb wr none) (λ_ T _=>(l.length - qiF T).toNat)
 case atStart=>exact⟨0,rfl,by omega,rfl,qhD _ _⟩
 case round=>
  obtain⟨k,rfl,hk,rfl,v⟩:=hrel;have HG:=qhp v;have g6:=v.cl R;have h9:=v.size;by_cases a:k<l.length
  ·have L:=(N.kept h).kept v;have I:=(a6.kept h).kept v;obtain⟨b1,c1,W,-,Q⟩:=L.cell;cases W;obtain⟨B,o,rfl,f,m6,m5,H⟩:=Q (by intro e;rw[e] at a;simp at a);have u:=H k a;obtain⟨x,j⟩:∃x,l[k]?=some x:=⟨_,qhz a⟩;have⟨h8,s⟩:=HX.out x (qi9 j);rw[j] at u;simp only[qhC] at u;obtain⟨m,rfl⟩:∃m:Nat,x=m:=⟨x.toNat,by omega⟩;obtain⟨b2,c2,W,-,Q⟩:=I.cell;cases W;obtain⟨YB,yo,rfl,l8,l7,l6,D⟩:=Q (by intro e;rw[e] at s;simp at s;omega);have⟨p,U,p0,p1,p2,p3⟩:=D m (by omega);obtain⟨LB,g8,rfl,m4,n,m3,F⟩:=a9.out (by intro e;have:=kv g l;rw[e] at this;simp at this;omega);have z:=HG.out.cl (F k a);rw[Yr g l k a] at z;have P:zY c g l (k+1)=min (zY c g l k) (p.bears - loadAt g l k):=by simp[zY,j,U]
   have l5:=b0.out p (qi9 U);have V:=q1r g l k O hl;have k7:(m:Int)<(c.length:Int):=s;generalize loadAt g l k=ld at z P V;generalize zY c g l k=S0 at P;obtain⟨M,hM⟩:∃M,min S0 (p.bears - ld)=M:=⟨_,rfl⟩;have k6:(if p.bears - ld<S0 then p.bears - ld else S0)=M:=by rw[<- hM];omega
   have HS:=qhp (P.t hM);clear v L I Q H D F j U P;go_upto_region 5 with(fail);go_quiet (fail);go_wp2;go_roundw
   case rel=>exact⟨k+1,by simp,by omega,by rw[HS],HG.t (qk _ _ _)⟩
   case measure=>simp[qiF];omega
  ·obtain rfl:k=l.length:=by omega
   clear v;go_wp2;go_ret;exact⟨rfl,(a7.t h).t HG⟩
def yj(Q X P W:Nat)(C B:qhu)(a b:List Int)(w:qhr)(F:qg Q X w C a)(D:qg P W w B b) :qis Ya 31 #[C,B] w λe O=>e=.returned (.bool (decide (a=b)))/\w.gb O none:=by
 obtain⟨ba,ca,rfl,T,p⟩:=F.cell;obtain⟨bb,cb,rfl,S,G⟩:=D.cell;have⟨H1,H2⟩:=qE p G;clear p G F D;by_cases c:a.length=b.length
 ·have H:=qhp c;have h:((a.length:Int) != (b.length:Int))=false:=by rw[c];simp
  clear c;go_enter Tp.x31,Tryz.ntmps31;go_wp2;go_loopw [5] (λu wr=>∃k:Nat,u=.int .i64 k/\k<=a.length/\(∀i,i<k->a[i]?=b[i]?)/\w.gb wr none) (λu _=>(a.length - qiF u).toNat)
  case atStart=>exact⟨0,rfl,by omega,λi s=>absurd s (by omega),qhD _ _⟩
  case round=>
   obtain⟨k,rfl,hk,j,l⟩:=hrel;have⟨r,A⟩:=qE j l;clear j;by_cases f:k<a.length
   ·have d:k<b.length:=by have:=H.out;omega
    obtain⟨A1,o1,rfl,a9,a8,a7,o⟩:=H1.out (by intro e;rw[e] at f;simp at f);obtain⟨B1,o2,rfl,a6,Z,Y,n⟩:=H2.out (by intro e;rw[e] at d;simp at d);have N:=l.cl (o k f);have M:=l.cl (n k d);have z:a[k]?=some (a[k]?.getD 0):=by simp[qhz f]
    have v:b[k]?=some (b[k]?.getD 0):=by simp[qhz d]
    generalize a[k]?.getD 0=x at N z;generalize b[k]?.getD 0=y at M v;have U:(k:Int)<(b.length:Int):=by omega
    have V:(k:Int)<(a.length:Int):=by omega
    have⟨L,I⟩:=qE z v;clear o n l z v;by_cases g:x=y
    ·subst g;go_upto_region 6 with(fail);go_quiet (fail);go_wp2;go_roundw
     case rel=>
      refine⟨k+1,by simp,by omega,λi s=>?_,A.t (qk _ _ _)⟩;by_cases e:i=k
      ·rw[e,L,I]
      ·exact r i (by omega)
     case measure=>simp[qiF];omega
    ·have q:=qhp (show decide (a=b)=false by
      rw[decide_eq_false_iff_not];intro e;have p:=L.out;rw[e,I] at p;exact g (by cases p;rfl))
     have R:(x != y)=true:=by simp[g]
     go_upto_region 6 with(fail);go_quiet (fail);go_wp2;go_ret;exact⟨by rw[q];rfl,A.t (qk _ _ _)⟩
   ·obtain rfl:k=a.length:=by omega
    have q:=qhp (show decide (a=b)=true by
     rw[decide_eq_true_eq];refine qnj λi=>?_;by_cases s:i<a.length
     ·exact r i s
     ·rw[qjp (by omega),qjp (by have:=H.out;omega)])
    clear l;go_wp2;go_ret;exact⟨by rw[q];rfl,A⟩
 ·have q:=qhp (show decide (a=b)=false by
   rw[decide_eq_false_iff_not];intro e;exact c (by rw[e]))
  have h:((a.length:Int) != (b.length:Int))=true:=by simp;omega
  clear c;go_enter Tp.x31,Tryz.ntmps31;go_wp2;go_ret;exact⟨by rw[q];rfl,qhD _ _⟩
def zf(w:qhr)(b g:Nat):Prop :=
 ∃(base:Option qiG) (len cap:Nat) (g':Nat) (s:Int),g'<=g/\w.heap[b]?=some (.cells #[.slice base len cap,g',.int .u64 s] 89 (0,0))/\(len:Int)<=9223372036854775807 /\
  (0<len->∃a c,base=some ⟨a,c,none⟩/\a<b/\∀i,i<len->∃x,w.cell? ⟨a,c+i,none⟩=some (.int .i64 x))
def zf.mono{w:qhr}{b g d:Nat}(h:zf w b g)(f:g<=d):zf w b d:=by
 obtain⟨base,a,c,k,s,e,r⟩:=h;exact⟨base,a,c,k,s,by omega,r⟩
def q3n{w:qhr}{b g:Nat}{base:Option qiG}{a d:Nat}{s s':Int}{z:qhu}(q:w.heap[b]?=some (.cells #[.slice base a d,g,.int .u64 s] 89 (0,0)))(n:(a:Int)<=9223372036854775807)(k:0<a->∃f h,base=some ⟨f,h,none⟩/\f<b/\∀i,i<a->∃x,w.cell? ⟨f,h+i,none⟩=some (.int .i64 x))(nq:Nat) :w.gb ((((w.drewN nq).setCell ⟨b,1,none⟩ (.int .i64 (g+1))).setCell ⟨b,2,none⟩ z).setCell ⟨b,2,none⟩ (.int .u64 s')).drew (some b) /\zf ((((w.drewN nq).setCell ⟨b,1,none⟩ (.int .i64 (g+1))).setCell ⟨b,2,none⟩ z).setCell ⟨b,2,none⟩ (.int .u64 s')).drew b (g+1) /\((((w.drewN nq).setCell ⟨b,1,none⟩ (.int .i64 (g+1))).setCell ⟨b,2,none⟩ z).setCell ⟨b,2,none⟩ (.int .u64 s')).drew.heap.size=w.heap.size:=by
 refine⟨((((qk w nq _).t (qh _ b 1 _)).t (qh _ b 2 _)).t (qh _ b 2 _)).t (qe _ _),?_,by simp[qk2,World.drewN,World.drew]⟩;have u:(w.drewN nq).heap[b]?=some (.cells #[.slice base a d,g,.int .u64 s] 89 (0,0)):=q;have r:=qi (o:=2) (v:=.int .u64 s') (qi (o:=2) (v:=z) (qi (o:=1) (v:=.int .i64 (g+1)) u));refine⟨base,a,d,g+1,s',qhv _,by simpa[World.drew] using r,n,λl=>?_⟩;have⟨f,h,B,A,y⟩:=k l;refine⟨f,h,B,A,λi p=>?_⟩;have⟨x,j⟩:=y i p;refine⟨x,?_⟩;have c:∀o,(⟨b,o,none⟩:qiG)≠⟨f,h+i,none⟩:=λo e=>by cases e;omega
 show qiq ((((w.drewN nq).setCell ⟨b,1,none⟩ (.int .i64 (g+1))).setCell ⟨b,2,none⟩ z).setCell ⟨b,2,none⟩ (.int .u64 s')) _=_;rw[qjz _ _ _ _ (c _),qjz _ _ _ _ (c _),qjz _ _ _ _ (c _)];exact j
def zf.lt{w:qhr}{b g:Nat}(h:zf w b g):b<w.heap.size:=by
 obtain⟨_,_,_,_,_,_,a,_⟩:=h;exact(qhs.1 a).1
def zf.kept{w w':qhr}{b g:Nat}{row:Option Nat}(h:zf w b g)(p:w.gb w' row)(o:∀B,row=some B->b<B:=by simp):zf w' b g:=by
 have j:=h.lt;have f:some b≠row:=λe=>by have:=o b e.symm;omega
 obtain⟨base,a,k,D,s,z,C,y,d⟩:=h;refine⟨base,a,k,D,s,z,(p.block b j f).t C,y,λu=>?_⟩;have⟨l,q,H,G,F⟩:=d u;exact⟨l,q,H,G,λi A=>(F i A).imp λx r=>p.cell r (λe=>by have:=o l e.symm;omega)⟩
def zf.alloc{w:qhr}{b g:Nat}(h:zf w b g)(o:Obj):zf (w.alloc o) b g:=h.kept (qhq w o none)
def zf.set{w:qhr}{b g X o:Nat}{v:qhu}(h:zf w b g)(a:b<X):zf (w.setCell ⟨X,o,none⟩ v) b g:=h.kept (qh w X o v) (by rintro B e;cases e;exact a)
def qf9{w d:qhr}{b B e a n:Nat}{v:qhu}{c:List qhu}(f:w.gb d (some b))(h:w.ownsRow B e a v n c)(g:b<B):d.ownsRow B e a v n c :=
 h.kept f (by
  by_cases e:v.ownBlock=some b
  ·have:=(h.lt b e).1;omega
  ·exact .inr e)
def qdz{w d c:qhr}{b:Nat}{a:Option Nat}(h:w.gb d (some b))(k:d.gb c a)(f:∀j,a=some j->w.heap.size<=j):w.gb c (some b) :=
 h.andThen k λj e=>.inl (f j e)
def Tn(b g:Nat)(w a:qhr):Prop:=w.gb a (some b)/\zf a b g
def Z9(k:IntKind)(b g:Nat)(w:qhr)(p:Int->Prop)(e:Ending)(a:qhr):Prop:=∃r,p r/\e=.returned (.int k r)/\Tn b g w a/\a.heap.size=w.heap.size
def qcG(x:Int):0<=IntKind.u64.wrap x/\IntKind.u64.wrap x<18446744073709551616:=by
 have h:IntKind.u64.bits=64:=rfl;have a:IntKind.u64.signed=false:=rfl;simp only[IntKind.wrap,h,a];constructor
 ·simp;omega
 ·simp;omega
def qem(a:BinOp)(x y:Int):0<=bits a .u64 x y/\bits a .u64 x y<18446744073709551616:=by
 unfold bits;exact qcG _
def qgf(x y:Int):0<=bits .xor .u64 x y / 512/\bits .xor .u64 x y / 512<36028797018963968:=by
 have:=qem .xor x y;omega
def qae(b:Nat)(j h:Nat)(a f:Nat)(g:Nat)(s x:Int)(w:qhr)(y:g<4611686018427387904)(c:w.heap[b]?=some (.cells #[.slice (some ⟨j,h,none⟩) a f,g,.int .u64 s] 89 (0,0)))(q:(a:Int)<=9223372036854775807)(p:g<a)(k:0<a->∃d e,(some ⟨j,h,none⟩:Option qiG)=some ⟨d,e,none⟩/\d<b/\∀i,i<a->∃x,w.cell? ⟨d,e+i,none⟩=some (.int .i64 x))(A:w.cell? ⟨j,h+g,none⟩=some (.int .i64 x)) :qis Ya 125 #[.pointer (some b)] w (Z9 .u64 b (g+1) w λu=>0<=u/\u<36028797018963968):=by
 have C:w.cell? b=some (.slice (some ⟨j,h,none⟩) a f):=by simp[qiq,c]
 have B:w.cell? ⟨b,1,none⟩=some (.int .i64 g):=by simp[qiq,c]
 have r:w.cell? ⟨b,2,none⟩=some (.int .u64 s):=by simp[qiq,c]
 have f1:w.frozen? ⟨b,1,none⟩=false:=by simp[qlt,c]
 have f2:w.frozen? ⟨b,2,none⟩=false:=by simp[qlt,c]
 have n:(g:Int)<(a:Int):=by omega
 have t:∀(nq:Nat) (u v z:qhu),((((w.drewN nq).setCell ⟨b,1,none⟩ u).setCell ⟨b,2,none⟩ v).setCell ⟨b,2,none⟩ z).cell? ⟨b,2,none⟩=some z:=by
  intro nq u v z;refine qmw _ _ _ (u:=v) ?_;refine qmw _ _ _ (u:=.int .u64 s) ?_;rw[qjz _ _ _ _ (by simp)];simpa using r
 have o:=λnq z s'=>q3n (z:=z) (s':=s') c q k nq;have⟨l,F,D⟩:=ze o c k;clear o c k;go_enter Tp.x125,Tryz.ntmps125;go_wp2;go_quiet (fail);go_wp2;go_quiet (fail);go_wp2;go_region;all_goals go_wp2
 all_goals go_ret
 all_goals exact⟨_,qgf _ _,rfl,⟨(l _ _ _).1,(l _ _ _).2.1⟩,(l _ _ _).2.2⟩
def qaf(b:Nat)(base:Option qiG)(a f:Nat)(g:Nat)(s:Int)(w:qhr)(r:g<4611686018427387904)(c:w.heap[b]?=some (.cells #[.slice base a f,g,.int .u64 s] 89 (0,0)))(o:(a:Int)<=9223372036854775807)(n:¬ g<a)(h:0<a->∃d e,base=some ⟨d,e,none⟩/\d<b/\∀i,i<a->∃x,w.cell? ⟨d,e+i,none⟩=some (.int .i64 x)) :qis Ya 125 #[.pointer (some b)] w (Z9 .u64 b (g+1) w λu=>0<=u/\u<36028797018963968):=by
 have y:w.cell? b=some (.slice base a f):=by simp[qiq,c]
 have t:w.cell? ⟨b,1,none⟩=some (.int .i64 g):=by simp[qiq,c]
 have p:w.cell? ⟨b,2,none⟩=some (.int .u64 s):=by simp[qiq,c]
 have f1:w.frozen? ⟨b,1,none⟩=false:=by simp[qlt,c]
 have f2:w.frozen? ⟨b,2,none⟩=false:=by simp[qlt,c]
 have k:(a:Int)<=(g:Int):=by omega
 have q:∀(nq:Nat) (u v z:qhu),((((w.drewN nq).setCell ⟨b,1,none⟩ u).setCell ⟨b,2,none⟩ v).setCell ⟨b,2,none⟩ z).cell? ⟨b,2,none⟩=some z:=by
  intro nq u v z;refine qmw _ _ _ (u:=v) ?_;refine qmw _ _ _ (u:=.int .u64 s) ?_;rw[qjz _ _ _ _ (by simp)];simpa using p
 have l:=λnq z s'=>q3n (z:=z) (s':=s') c o h nq;have⟨j,B,A⟩:=ze l c h;clear l c h;go_enter Tp.x125,Tryz.ntmps125;go_wp2;go_quiet (fail);go_wp2;go_region;all_goals go_wp2
 all_goals go_ret
 all_goals exact⟨_,qgf _ _,rfl,⟨(j _ _ _).1,(j _ _ _).2.1⟩,(j _ _ _).2.2⟩
def q0z(b g:Nat)(w:qhr)(q:zf w b g)(B:g<4611686018427387904) :qis Ya 125 #[.pointer (some b)] w (Z9 .u64 b (g+1) w λu=>0<=u/\u<36028797018963968):=by
 obtain⟨base,a,f,d,s,A,k,j,i⟩:=q;have fin:∀e h,Z9 .u64 b (d+1) w (λu=>0<=u/\u<36028797018963968) e h->Z9 .u64 b (g+1) w (λu=>0<=u/\u<36028797018963968) e h:=by
  rintro e h ⟨r,y,v,l,t⟩;exact⟨r,y,v,⟨l.1,l.2.mono (by omega)⟩,t⟩
 by_cases c:d<a
 ·obtain⟨o,n,rfl,C,z⟩:=i (by omega);have⟨x,p⟩:=z d c;exact(qae b o n a f d s x w (by omega) k j c i p).mono fin
 ·exact(qaf b base a f d s w (by omega) k j c i).mono fin
def q9C(b:Nat)(w:qhr)(v:qhu)(l:List Int):Prop :=
 ∃base a,v=.slice base l.length a/\(l.length:Int)<=9223372036854775807/\(l≠[]->∃B o,base=some ⟨B,o,none⟩/\B≠b/\B<w.heap.size/\∀i,i<l.length->w.cell? ⟨B,o+i,none⟩=some (.int .i64 (l[i]?.getD 0)))
def q9C.laid{b:Nat}(w:qhr)(l:List Int)(n:Nat)(c:n=l.length)(f:b<w.heap.size)(e:l.length<=1000)(a:Nat × Nat:=(0,0)) :q9C b (w.alloc (.cells (l.map (qid .i64)).toArray 3 a)) (.slice (some w.heap.size) n n) l:=by
 subst c;refine⟨_,_,rfl,by omega,λ_=>⟨w.heap.size,0,rfl,by omega,by simp,λi d=>?_⟩⟩;have:=qhA w (.cells (l.map (qid .i64)).toArray 3 a);unfold qiq;rw[this];simp[qhz d]
def qdl{u n:Int}(_:0<=u)(a:0<=n):0<=u % (n+1)/\u % (n+1)<=n:=by
 have c:=Int.emod_nonneg u (show n+1≠0 by omega);have b:=Int.emod_lt_of_pos u (show 0<n+1 by omega);omega
def qa5(b g:Nat)(n:Int)(w:qhr)(d:zf w b g)(k:g<4611686018427387904)(p:n<1) :qis Ya 68 #[.pointer (some b),n] w (Z9 .i64 b (g+1) w λr=>r=0):=by
 have l:=qhp d;clear d;go_enter Tp.x68,Tryz.ntmps68;go_wp2_with (go_at_call 125;refine(q0z b g _ l k).mono ?_;rintro e o ⟨u,⟨j,i⟩,rfl,h,f⟩;have c:=qhp h;have a:=qhp f;clear h f);go_ret;exact⟨0,rfl,rfl,c,a⟩
def qa6(b g:Nat)(n:Int)(w:qhr)(f:zf w b g)(k:g<4611686018427387904)(q:1<=n)(hm:n<=1000000000) :qis Ya 68 #[.pointer (some b),n] w (Z9 .i64 b (g+1) w λr=>0<=r/\r<=n):=by
 have o:=qhp f;clear f;go_enter Tp.x68,Tryz.ntmps68;go_wp2_with (go_at_call 125;refine(q0z b g _ o k).mono ?_;rintro e p ⟨u,⟨a,j⟩,rfl,i,h⟩;have d:=qhp i;have c:=qhp h;clear i h);go_ret;have l:=qdl a (show 0<=n by omega);refine⟨_,?_,rfl,d,c⟩;rw[IntWalk.wrap64_in (u % (n+1)) ⟨by omega,by omega⟩];exact l
def QE(b g:Nat)(n:Int)(w:qhr)(c:zf w b g)(d:g<4611686018427387904)(hm:n<=1000000000) :qis Ya 68 #[.pointer (some b),n] w (Z9 .i64 b (g+1) w λr=>0<=r/\(r<=n\/r=0)):=by
 by_cases h:n<1
 ·refine(qa5 b g n w c d h).mono ?_;rintro e f ⟨r,i,a⟩;exact⟨r,by omega,a⟩
 ·refine(qa6 b g n w c d (by omega) hm).mono ?_;rintro e f ⟨r,i,a⟩;exact⟨r,by omega,a⟩
def Q8(b g:Nat)(a c:Int)(w:qhr)(h:zf w b g)(o:g<4611686018427387904)(y:-1000000000<=a)(x:a<=400000000)(v:-400000000<=c)(t:c<=400000000)(s:c - a<=1000000000) :qis Ya 70 #[.pointer (some b),a,c] w (Z9 .i64 b (g+1) w λr=>a<=r/\(r<=c\/r=a)):=by
 have p:=qhp h;clear h;go_enter Tp.x70,Tryz.ntmps70;go_wp2_with (go_at_call 68;refine(QE b g _ _ p o (by omega)).mono ?_;rintro e q ⟨u,⟨n,l⟩,rfl,j,i⟩;have f:=qhp j;have d:=qhp i;clear j i;have k:u<=1400000000:=by omega);go_ret;refine⟨_,?_,rfl,f,d⟩;omega
def Qb(b g:Nat)(v:qhu)(l:List Int)(w:qhr)(h:zf w b g)(A:g<4611686018427387904)(y:q9C b w v l)(a:0<l.length)(hm:l.length<=1000) :qis Ya 90 #[.pointer (some b),v] w (Z9 .i64 b (g+1) w λr=>r∈l):=by
 obtain⟨base,D,rfl,x,i⟩:=y;obtain⟨B,o,rfl,C,I,n⟩:=i (by intro e;rw[e] at a;simp at a);have⟨F,G⟩:=qE h n;clear h n i;go_enter Tp.x90,Tryz.ntmps90;go_wp2_with (go_at_call 68;refine(QE b g _ _ F A (by omega)).mono ?_;rintro e s ⟨u,⟨d,t⟩,rfl,q,p⟩;have c:=qhp q;have f:=qhp p;clear q p;obtain⟨k,rfl⟩:=Int.eq_ofNat_of_zero_le d;(have j:k<l.length:=by omega);(have z:(k:Int)<(l.length:Int):=by omega);(have H:s.cell? ⟨B,o+k,none⟩=some (.int .i64 (l[k]?.getD 0)):=c.out.1.cell (G k j) (λe=>C (by cases e;rfl))));go_ret;refine⟨_,?_,rfl,c,f⟩;simp[qhz j]
def q6d(base:Option qiG)(a c:Nat)(w:qhr)(o:(a:Int)<=9223372036854775807)(k:0<a->∃b d,base=some ⟨b,d,none⟩/\∀i,i<a->∃x,w.cell? ⟨b,d+i,none⟩=some (.int .i64 x)) :qis Ya 24 #[.slice base a c] w λe j=>e=.returned (.pointer (some w.heap.size))/\w.gb j none/\zf j w.heap.size 0:=by
 have q:=qhp k;clear k;go_enter Tp.x24,Tryz.ntmps24;go_wp2;go_ret;refine⟨rfl,qhq _ _ _,base,a,c,0,7640891576956012809,qhv _,qhA _ _,o,λl=>?_⟩;have⟨b,d,e,h⟩:=q.out l;have⟨r,f⟩:=h 0 l;have g:b<w.heap.size:=block_lt_of_cell f;refine⟨b,d,e,g,λi p=>?_⟩;have⟨x,n⟩:=h i p;exact⟨x,(qhq w _ none).cl n⟩
structure q5f(p:Par):Prop where
 a:1<=p.mn
 b:p.mn<=8
 c:p.mn<=p.mx
 d:p.mx<=p.mn+2
 e:0<=p.bears
 f:p.bears<=30
 g:1<=p.tall
 h:p.tall<=2
def qgv(p:Par):qhu:=.agg #[p.mn,p.mx,p.bears,p.tall]
def q2b{w c a:qhr}{b g:Nat}(h:w.gb c (some b))(k:Tn b g c a):w.gb a (some b):=h.t k.1
def q2n(b g:Nat)(w:qhr)(H:zf w b g)(hg:g<1000000):qis Ya 62 #[.pointer (some b)] w λe X=>∃p,q5f p/\e=.returned (qgv p)/\Tn b (g+7) w X:=by
 obtain⟨Z,C⟩:∃Z,Z=w.heap.size:=⟨_,rfl⟩;have I:b<Z:=by rw[C];exact H.lt
 obtain⟨y,n⟩:∃y,y=w.alloc (.cells #[.int .i64 0,.int .i64 0,.int .i64 0,.int .i64 0] 28):=⟨_,rfl⟩;have Q:y.heap[Z]?=some (.cells #[.int .i64 0,.int .i64 0,.int .i64 0,.int .i64 0] 28 (0,0)):=by rw[n,C];exact qhA w _
 have R:w.gb y (some b):=by rw[n];exact qhq _ _ _
 have l:=qhp (show zf y b g by rw[n];exact H.alloc _);have⟨S,M,c,q⟩:=j8 C n Q R;clear C n Q R H;go_enter Tp.x62,Tryz.ntmps62;go_upto_region 1 with(fail);rw[<- S,<- M];go_upto_region 2 with(go_at_call 70;refine(Q8 b g 1 8 _ l (by omega) (by omega) (by omega) (by omega) (by omega) (by omega)).mono ?_;rintro e V ⟨s,a8,rfl,a,-⟩;replace c:=qhp (blk a.1 (by simp;omega) c);replace q:=qhp (q2b q a);replace l:=qhp a.2;clear a);have i:Z≠b:=by omega
 go_wp2_with (fail);refine(Qb b (g+1) _ [0,0,1,2] _ (l.alloc _) (by omega) (q9C.laid _ [0,0,1,2] 4 rfl l.lt (by decide)) (by decide) (by decide)).mono ?_;rintro e w3 ⟨k,P,rfl,a,-⟩;simp only[qjr,qjG,or_false] at P;have d:=qhq V (.cells #[.int .i64 0,.int .i64 0,.int .i64 1,.int .i64 2] 3) (some b);replace c:=qhp (blk a.1 (by simpa using i) (blk d (by simpa using i) c));replace q:=qhp ((q.t d).t a.1);replace l:=qhp a.2;clear a d;have a9:0<=k/\k<=2:=by omega
 clear P;go_wp2_with (go_at_call 68;refine(QE b _ _ _ l (by omega) (by omega)).mono ?_;rintro e U ⟨u,Y,rfl,a,-⟩;replace c:=qhp (blk a.1 (by simpa using i) c);replace q:=qhp (q2b q a);replace l:=qhp a.2;clear a)
 rename_i u1 G wx u2 D wy wz
 refine(Qb b (g+1+1+1+1+1) _ [0,u1,u2,u] _ (l.alloc _) (by omega) (q9C.laid _ [0,u1,u2,u] 4 rfl l.lt (by simp)) (by simp) (by simp)).mono ?_;rintro e w7 ⟨r,O,rfl,a,-⟩;simp only[qjr,qjG,or_false] at O;have d:=qhq U (.cells #[.int .i64 0,u1,u2,u] 3) (some b);replace c:=qhp (blk a.1 (by simpa using i) (blk d (by simpa using i) c));replace q:=qhp ((q.t d).t a.1);replace l:=qhp a.2;clear a d;have a7:0<=r/\r<=30:=by omega
 clear O Y G D;have f:=λ(T:qhr) (h:T.heap[Z]?=some (.cells #[.int .i64 0,.int .i64 0,.int .i64 0,.int .i64 0] 28 (0,0))) (o:Nat)=>qn (o:=o) h;have F:=qhp f;clear f;go_wp2_with (go_at_call 70;refine(Q8 b _ 1 2 _ l (by omega) (by omega) (by omega) (by omega) (by omega) (by omega)).mono ?_;rintro e N ⟨A,a6,rfl,a,-⟩;replace c:=qhp (blk a.1 (by simpa using i) c);replace q:=qhp (q2b q a);replace l:=qhp a.2;clear a;have z0:=q8 (o:=0) c rfl;have z1:=q8 (o:=1) c rfl;have z2:=q8 (o:=2) c rfl;have z3:=q8 (o:=3) c rfl;have t0:=qn (o:=0) c;have t1:=qn (o:=1) c;have t2:=qn (o:=2) c;have t3:=qn (o:=3) c);obtain⟨W,x⟩:∃W,W=(((N.setCell Z (.int .i64 s)).setCell ⟨Z,1,none⟩ (.int .i64 (s+k))).setCell ⟨Z,2,none⟩ (.int .i64 r)).setCell ⟨Z,3,none⟩ (.int .i64 A):=⟨_,rfl⟩;have L:W.heap[Z]?=some (.cells #[s,.int .i64 (s+k),r,A] 28 (0,0)):=by rw[x,qi (qi (qi (qi c)))];rfl
 have z:N.gb W (some Z):=by rw[x];exact(((qh _ _ _ _).t (qh _ _ _ _)).t (qh _ _ _ _)).t (qh _ _ _ _)
 rw[<- x];exact qka (v:=.agg #[s,.int .i64 (s+k),r,A]) (by simp[qke,Tryz.results62,go_sem,qiq,L]) rfl ⟨⟨s,s+k,r,A⟩,⟨by dsimp only;omega,by dsimp only;omega,by dsimp only;omega,by dsimp only;omega,by dsimp only;omega,by dsimp only;omega,by dsimp only;omega,by dsimp only;omega⟩,rfl,qdz q z (by rintro j e;cases e;have:=S.out;omega),l.kept z (by rintro B e;cases e;exact I)⟩
end
end Go.Proofs.YtidgnkmjgioapaaGreat
section
namespace Go
def QQ(z:Array qhu):z=((qil z.size).map λj=>z[j]?.getD qhx).toArray:=by
 apply Array.ext
 ·simp
 ·intro i a b;simp[a]
end Go
namespace Go.Co
open Go
def zx(w:qhr)(B:Nat):Prop:=∃a e f,w.heap[B]?=some (.cells a e f)/\∀(i:Nat) v,a[i]?=some v->∃k m,v=qid k m
def zD(a:List qhu):Prop:=∀v∈a,∃k m,v=qid k m
def zD.app{b a:List qhu}(h:zD b)(d:zD a):zD (b++a):=λv c=>(qku.1 c).elim (h v) (d v)
def q39{z:Array qhu}(c:zD z.toList)(d:0<z.size)(n:Nat):zD (qki z n).toList:=by
 intro v b;simp only[qki,Array.toList_map,qlp] at b;obtain⟨i,_,rfl⟩:=b;have a:i % z.size<z.size:=Nat.mod_lt _ d;rw[getElem!_pos z _ a];exact c _ (Array.getElem_mem_toList a)
def ZV{w:qhr}{B:Nat}{a:Array qhu}{e:qi4}{f:Nat × Nat}(h:w.heap[B]?=some (.cells a e f))(b:zD a.toList):zx w B:=⟨a,e,f,h,λi v c=>b v (qko.2 (qjB c))⟩
def zx.all{w:qhr}{B:Nat}{a:Array qhu}{e:qi4}{f:Nat × Nat}(h:zx w B)(c:w.heap[B]?=some (.cells a e f)):zD a.toList:=by
 obtain⟨n,l,k,b,j⟩:=h;rw[c] at b;cases b;intro v d;have⟨i,g⟩:=qot.1 d;exact j i v (by simpa using g)
def Y4{P:qhF}(w:qhr)(t L:qi4)(base:Nat)(e:qi4)(i:qlD)(z:qhu)(b qon:Nat)(V:P.underlying t=some (.slice e))(Y:P.info? e=some i)(hz:i.zero=some z)(l:i.size=b)(S:i.bytes=qon)(N:z.cells.size=b)(O:0<b)(v:qhu)(n:Nat)(F:List qhu)(h:w.ownsRow base e b v n F)(I:qiG)(m c:Nat)(a:List qhu)(Q:a.length=m*b)(d:∀j u,a[j]?=some u->w.cell? (I.add j)=some u)(h1:∀u∈a,u.oneCell'=true)(hm:0<m)(T:n+m<=qlg)(f:(n+m)*qon<=140737488355328)(C:base<=w.heap.size)(H:Nat)(hH:w.heap.size=H)(hI:∀g,v.ownBlock=some g->zx w g)(B:zD a)(a7:zD z.cells.toList) :∃g r x,(ql7 #[t,t] L #[v,.slice (some I) m c]).run P w=.ok (.slice (some ⟨g,0,none⟩) (n+m) r) x /\x.ownsRow base e b (.slice (some ⟨g,0,none⟩) (n+m) r) (n+m) (F++a)/\w.grownBy x v.ownBlock/\(v.ownBlock=some g\/g=H)/\g<x.heap.size/\zx x g:=by
 have⟨g,r,x,X,h2,h3,h4,h5⟩:=run_append_lies (P:=P) w t L base e i z b qon V Y hz l S N O v n F h I m c a Q d h1 hm T f C H hH;refine⟨g,r,x,X,h2,h3,h4,h5,?_⟩;subst l;subst S;have W:n+m<=9223372036854775807:=by simp only[qlg] at T;omega
 have M:=λk=>q39 (z:=z.cells) a7 (by rw[N];exact O) k;rcases h.2 with⟨rfl,rfl⟩ | ⟨U,q,D,rfl,c3,Z,b8,b9,a9,y⟩
 ·have p:=run_append_nil (P:=P) w t L e i z V Y hz I m c a Q d hm (by omega) (by have hb:=f;simp only[qi6] at hb;omega);have s:=X.symm.trans p;simp only[Result.ok.injEq,Value.slice.injEq,qiD,Addr.mk.injEq] at s;obtain⟨⟨⟨rfl,_⟩,_⟩,rfl⟩:=s;exact ZV (qhA w.drew _) (by simpa using B.app (M _))
 ·by_cases o:n+m<=q
  ·have R:n*i.size+a.length<=D.size:=by rw[Q,a9,<- qoc];exact Nat.mul_le_mul_right _ o
   have p:=run_append_room (P:=P) w t L e i V Y U n q D Z I m c a Q d h1 o R;have s:=X.symm.trans p;simp only[Result.ok.injEq,Value.slice.injEq,qiD,Addr.mk.injEq] at s;obtain⟨⟨⟨rfl,_⟩,_⟩,rfl⟩:=s;have hc:=(hI g rfl).all Z;refine ZV (setRow_heap w g D _ e _ Z) ?_;exact((zD.app (λv G=>hc v (qmp G)) B).app λv G=>hc v (List.mem_of_mem_drop G))
  ·have A:∀j u,F[j]?=some u->w.cell? ((⟨U,0,none⟩:qiG).add j)=some u:=h.cells (g:=U) rfl;have p:=run_append_grow (P:=P) w t L e i z V Y hz ⟨U,0,none⟩ n q F h.1 A I m c a Q d (by omega) (by omega) (growslice_fits (by omega) f);have s:=X.symm.trans p;simp only[Result.ok.injEq,Value.slice.injEq,qiD,Addr.mk.injEq] at s;obtain⟨⟨⟨rfl,_⟩,_⟩,rfl⟩:=s;have hc:=(hI U rfl).all Z;refine ZV (qhA w.drew _) ?_;have hx:zD F:=λv G=>hc v (by rw[<- y] at G;exact qmp G);simpa using(hx.app B).app (M _)
def Q5{P:qhF}{w:qhr}{o:qjn}{a:Act}{K:Act->qhr->Prop}{Q:Exit->Act->qhr->Prop}(s x:qiy)(t:qi4)(k:o.op=.call { callee:=.builtin .append,args:=#[s,x],argTypes:=#[t,t] })(base:Nat)(e:qi4)(i:qlD)(z:qhu)(size qon:Nat)(ht:P.underlying t=some (.slice e))(hi:P.info? e=some i)(hz:i.zero=some z)(hsize:i.size=size)(hby:i.bytes=qon)(hzs:z.cells.size=size)(hsz:0<size)(v:qhu)(n:Nat)(xs:List qhu)(hs:a.eval s=v)(hown:w.ownsRow base e size v n xs)(ad:qiG)(m c:Nat)(news:List qhu)(hx:a.eval x=.slice (some ad) m c)(hl:news.length=m*size)(hnews:∀j u,news[j]?=some u->w.cell? (ad.add j)=some u)(h1:∀u∈news,u.oneCell'=true)(hm:0<m)(h63:n+m<=qlg)(hbytes:(n+m)*qon<=140737488355328)(hbase:base<=w.heap.size)(H:Nat)(hH:w.heap.size=H)(hI:∀g,v.ownBlock=some g->zx w g)(hni:zD news)(hzi:zD z.cells.toList)(h:∀g b d,d.ownsRow base e size (.slice (some ⟨g,0,none⟩) (n+m) b) (n+m) (xs++news)->w.grownBy d v.ownBlock->(v.ownBlock=some g\/g=H)->g<d.heap.size->zx d g->K (a.put o.dst (.slice (some ⟨g,0,none⟩) (n+m) b)) d):o.wp P a w K Q:=by
 have⟨g,b,d,f,y,r,q,p,l⟩:=Y4 (P:=P) w t o.type base e i z size qon ht hi hz hsize hby hzs hsz v n xs hown ad m c news hl hnews h1 hm h63 hbytes hbase H hH hI hni hzi;unfold Oper.wp qkA;simp only[k,resolve,invoke,builtin,qjo,qmo,qjl,qmc,qll,qmq,hs,hx,f];exact h g b d y r q p l
def zx.kept{w w':qhr}{j:Nat}{r:Option Nat}(h:zx w j)(g:w.grownBy w' r)(d:some j≠r:=by simp):zx w' j:=by
 obtain⟨k,e,f,a,i⟩:=h;exact⟨k,e,f,(g.block j (qhs.1 a).1 d).trans a,i⟩
def Jf{P:qhF}{w:qhr}{f:Array qjn}{o:qjn}{a:Act}{K:Act->qhr->Prop}{Q:Exit->Act->qhr->Prop}{E:Prop}(k:o.guard=none)(s x:qiy)(t:qi4)(l:o.op=.call { callee:=.builtin .append,args:=#[s,x],argTypes:=#[t,t] })(base:Nat)(e:qi4)(i:qlD)(z:qhu)(size qon:Nat)(ht:P.underlying t=some (.slice e))(hi:P.info? e=some i)(hz:i.zero=some z)(hsize:i.size=size)(hby:i.bytes=qon)(hzs:z.cells.size=size)(hsz:0<size)(v:qhu)(n:Nat)(xs:List qhu)(hs:a.eval s=v)(hown:w.ownsRow base e size v n xs)(ad:qiG)(m c:Nat)(news:List qhu)(hx:a.eval x=.slice (some ad) m c)(hl:news.length=m*size)(hnews:∀j u,news[j]?=some u->w.cell? (ad.add j)=some u)(h1:∀u∈news,u.oneCell'=true)(hm:0<m)(h63:n+m<=qlg)(hbytes:(n+m)*qon<=140737488355328)(hbase:base<=w.heap.size)(H:Nat)(hH:w.heap.size=H)(hI:∀g,v.ownBlock=some g->zx w g)(hni:zD news)(hzi:zD z.cells.toList)(h:∀g d b,b.ownsRow base e size (.slice (some ⟨g,0,none⟩) (n+m) d) (n+m) (xs++news)->w.grownBy b v.ownBlock->(v.ownBlock=some g\/g=H)->g<b.heap.size->zx b g->K (a.put o.dst (.slice (some ⟨g,0,none⟩) (n+m) d)) b) :if qip o (qjt f a.tmps)=true then Oper.wp P o a w K Q else E:=by
 rw[if_pos (by simp[qip,k])];exact Q5 s x t l base e i z size qon ht hi hz hsize hby hzs hsz v n xs hs hown ad m c news hx hl hnews h1 hm h63 hbytes hbase H hH hI hni hzi h
def Zc{P:qhF}{w:qhr}{k:Array qjn}{d:List qjn}{o:qjn}{a:Act}{Q:Exit->Act->qhr->Prop}(l:o.guard=none)(s x:qiy)(t:qi4)(p:o.op=.call { callee:=.builtin .append,args:=#[s,x],argTypes:=#[t,t] })(base:Nat)(e:qi4)(i:qlD)(z:qhu)(size qon:Nat)(ht:P.underlying t=some (.slice e))(hi:P.info? e=some i)(hz:i.zero=some z)(hsize:i.size=size)(hby:i.bytes=qon)(hzs:z.cells.size=size)(hsz:0<size)(v:qhu)(n:Nat)(xs:List qhu)(hs:a.eval s=v)(hown:w.ownsRow base e size v n xs)(ad:qiG)(m c:Nat)(news:List qhu)(hx:a.eval x=.slice (some ad) m c)(hl:news.length=m*size)(hnews:∀j u,news[j]?=some u->w.cell? (ad.add j)=some u)(h1:∀u∈news,u.oneCell'=true)(hm:0<m)(h63:n+m<=qlg)(hbytes:(n+m)*qon<=140737488355328)(hbase:base<=w.heap.size)(H:Nat)(hH:w.heap.size=H)(hI:∀g,v.ownBlock=some g->zx w g)(hni:zD news)(hzi:zD z.cells.toList)(h:∀g b f,f.ownsRow base e size (.slice (some ⟨g,0,none⟩) (n+m) b) (n+m) (xs++news)->w.grownBy f v.ownBlock->(v.ownBlock=some g\/g=H)->g<f.heap.size->zx f g->wpList P k Q d (a.put o.dst (.slice (some ⟨g,0,none⟩) (n+m) b)) f):wpList P k Q (o::d) a w :=
 wpList_plain l λ_ q=>Q5 s x t p base e i z size qon ht hi hz hsize hby hzs hsz v n xs hs hown ad m c news hx hl hnews h1 hm h63 hbytes hbase H hH hI hni hzi λg b f C B A y r=>q _ _ (h g b f C B A y r)
end Go.Co
end
namespace Go.Proofs.YtidgnkmjgioapaaGreat
section
open Go.RowKit Go.Co
def Tp.und22:Ya.underlying 22=some (.slice 28):=by rw[Tp.und];exact Tryz.underlying22
def Tp.info28p:(Ya.info? 28).map (λi=>(i.zero,i.size,i.bytes))=some (some (.agg #[.int .i64 0,.int .i64 0,.int .i64 0,.int .i64 0]),4,32):=by kernel_rfl
def vz(p:Par):List qhu:=[.int .i64 p.mn,.int .i64 p.mx,.int .i64 p.bears,.int .i64 p.tall]
def yU(a:List Par):List qhu:=a.flatMap vz
def K0(a:List Par)(p:Par):yU (a++[p])=yU a++vz p:=by simp[yU]
def q1b(a:List Par)(i:Nat)(p:Par)(h:a[i]?=some p)(d:Nat)(c:d<4):(yU a)[i*4+d]?=(vz p)[d]?:=by
 induction a generalizing i with
 | nil=>simp at h
 | cons q t b=>
  unfold yU;rw[qkl];cases i with
  | zero=>
   simp at h;subst h;rw[qir (by simp[vz];omega),Nat.zero_mul,qi6]
  | succ i=>
   simp at h;rw[qjv (by simp[vz];omega)];rw[show(i+1)*4+d - (vz q).length=i*4+d from by simp[vz];omega];exact b i h
def qr.own{j n:Nat}{w:qhr}{v:qhu}{a:List Par}(h:w.ownsRow j 28 4 v n (yU a))(z:a.length=n)(p:(a.length:Int)<=1000000):qr j w.heap.size w v a:=by
 subst z;obtain⟨H,D⟩:=h;rcases D with⟨rfl,s⟩ | ⟨g,f,c,rfl,C,q,G,hm,F,y⟩
 ·exact⟨none,0,by rw[s],p,λe=>absurd (qja s) e⟩
 ·refine⟨_,f,rfl,p,λ_=>⟨g,0,c,(0,0),rfl,C,(qhs.1 q).1,q,λi A=>?_⟩⟩;have o:a[i]?=some a[i]:=qhz A;have b:∀d,d<4->c[i*4+d]?=(vz a[i])[d]?:=λd B=>by
   have r:(c.toList.take (a.length*4))[i*4+d]?=(vz a[i])[d]?:=by rw[y];exact q1b a i _ o d B
   rw[qk4 (by omega)] at r;simpa using r
  have k:=b 0 (by omega);have x:=b 1 (by omega);have u:=b 2 (by omega);have t:=b 3 (by omega);rw[Nat.add_zero] at k;refine⟨_,o,?_,?_,?_,?_⟩;all_goals simp only[qi6]
  ·exact k
  ·exact x
  ·exact u
  ·exact t
def q71{P:qhF}{c:qkh}{Q:Exit->Act->qhr->Prop}{a:Act}{w:qhr}(F:qhr->Prop)(b:F w)(h:∀u,F u->c.wp P Q a u):c.wp P Q a w:=h w b
def qbo{w:qhr}{k:Nat}{o:Obj}(h:w.heap[k]?=some o):k<w.heap.size:=(qhs.1 h).1
def YR(b g Z X:Nat)(u:Nat)(a:Int)(w:qhr)(i:qhu)(wr:qhr):Prop :=
 ∃(k:Nat) (fv:qhu) (ps:List Par),i=.int .i64 ((u:Int) - k)/\k<=u/\ps.length=k/\(∀p∈ps,q5f p) /\
  wr.heap[X]?=some (.cells #[fv,a] 24 (0,0))/\wr.ownsRow (X+1) 28 4 fv k (yU ps)/\zf wr b (g+7*k)/\w.gb wr (some b)/\X<wr.heap.size/\wr.heap[Z]?=some (.cells #[.slice none 0 0,.int .i64 0] 24 (0,0))/\∀j,fv.ownBlock=some j->zx wr j
def YR.step{b g Z X u k d f:Nat}{c:Int}{w a:qhr}{i:List Par}{p:Par}(H:k<u)(s:i.length=k)(t:∀x∈i,q5f x)(r:q5f p){G:qhu}(o:a.heap[X]?=some (.cells #[G,c] 24 (0,0)))(n:a.ownsRow (X+1) 28 4 (.slice (some d) (k+1) f) (k+1) (yU i++vz p))(C:zf a b (g+7*k+7))(F:w.gb a (some b))(B:w.heap.size<=X)(y:b<X)(A:a.heap[Z]?=some (.cells #[.slice none 0 0,.int .i64 0] 24 (0,0)))(z:Z<X)(D:zx a d) :YR b g Z X u c w (.int .i64 ((u:Int) - k - 1)) (a.setCell X (.slice (some d) (k+1) f)):=by
 have l:d≠X:=by have:=(n.lt d rfl).1;omega
 refine⟨k+1,_,i++[p],by simp;omega,by omega,by simp[s],?_,by rw[qi o];rfl,?_,?_,qdz F (qh _ X 0 _) (by rintro j e;cases e;exact B),?_,blk (qh _ _ _ _) (by simp;omega) A,λj e=>by
  simp[qix] at e;subst e;exact D.kept (qh _ X 0 _) (by simpa using l)⟩
 ·intro x q;rcases qku.1 q with h | h
  ·exact t x h
  ·rw[ql4.1 h];exact r
 ·rw[K0];exact n.kept (qh _ X 0 _) (.inr (by simp[qix];exact l))
 ·rw[show g+7*(k+1)=g+7*k+7 by omega];exact C.set y
 ·have:=(qhs.1 o).1;simpa[qk2] using this
structure qg6(n:Nat)(ps:List Par)(lim:Int):Prop where
 len:ps.length<=n
 each:∀p∈ps,q5f p
 l1:2<=lim
 l2:lim<=6\/lim=12
def q5k(b g n:Nat)(w:qhr)(ht:zf w b g)(hg:g<100000)(hn:n<=1000):qis Ya 33 #[.pointer (some b),n] w λe w'=>∃D a v,qg6 n D a/\e=.returned (.agg #[v,.int .i64 a])/\Tn b (g+3+7*n) w w'/\qr w.heap.size w'.heap.size w' v D/\∀ad m c,v=.slice (some ad) m c->zx w' ad.block:=by
 have⟨i0,e7,d6,d5,c9⟩:=qjx Tp.info28p;obtain⟨Z,hZ⟩:∃Z,Z=w.heap.size:=⟨_,rfl⟩;have e9:b<Z:=by rw[hZ];exact ht.lt
 have⟨HT,HZ⟩:=qE ht hZ;clear ht hZ;go_enter Tp.x33,Tryz.ntmps33;go_upto_region 1 with(fail);rw[<- HZ];refine q71 (λu=>u.heap[Z]?=some (.cells #[.slice none 0 0,.int .i64 0] 24 (0,0))/\w.gb u (some b)/\zf u b g) ⟨by rw[HZ];exact qhA _ _,qhq _ _ _,HT.alloc _⟩ (λw1 hF=>?_);obtain⟨r1,g1,t1⟩:=hF;have⟨R1,G1,T1⟩:=ze r1 g1 t1;clear r1 g1 t1;have r:Z≠b:=by omega
 go_upto_region 2 with(first
  | (go_at_call 70;refine(Q8 b g 2 6 _ T1 (by omega) (by omega) (by omega) (by omega) (by omega) (by omega)).mono ?_;rintro e s ⟨lo,e6,rfl,L,-⟩;have U:=qhp L;clear L)
  | (go_at_call 90;refine(Qb b (g+1) _ [lo,12] _ (U.2.alloc _) (by omega) (q9C.laid _ [lo,12] 2 rfl U.2.lt (by simp)) (by simp) (by simp)).mono ?_;rintro e w3 ⟨a,d,rfl,I,-⟩;have N3:=qhp I;have z:=qhp d;clear I d))
 have d:=z.out;simp only[qjr,qjG,or_false] at d;have M:2<=a/\(a<=6\/a=12):=by omega
 clear d z e6;have A:=qhq s (.cells #[lo,.int .i64 12] 3) (some b);have g3:w.gb w3 (some b):=((G1.t U.1).t A).t N3.1;have z3:=blk N3.1 (by simpa using r) (blk A (by simpa using r) (blk U.1 (by simpa using r) R1));obtain⟨X,hX⟩:∃X,X=w3.heap.size:=⟨_,rfl⟩;rw[<- hX];refine q71 (λu=>u.heap[X]?=some (.cells #[.slice none 0 0,.int .i64 a] 24 (0,0))/\w.gb u (some b)/\zf u b (g+2)/\u.heap[Z]?=some (.cells #[.slice none 0 0,.int .i64 0] 24 (0,0))) ⟨by rw[hX];exact qhA _ _,g3.t (qhq _ _ _),N3.2.alloc _,qq z3⟩ (λw4 hF=>?_);obtain⟨x4,g4,t4,z4⟩:=hF;have g6:Z<X:=by have:=qbo z3;omega
 have d7:w.heap.size<=X:=by have:=HZ.out;omega
 have⟨X4,G4,T4,Z4⟩:=j8 x4 g4 t4 z4;clear A g3 z3 hX x4 g4 t4 z4 R1 G1 T1 U N3;have g5:b<X:=by omega
 go_wp2_with (go_at_call 68;refine(QE b (g+2) _ _ T4 (by omega) (by omega)).mono ?_;rintro e w5 ⟨u,hu,rfl,H,-⟩;have T:=qhp H;clear H);obtain⟨m,rfl⟩:=Int.eq_ofNat_of_zero_le hu.1;have hm:m<=n:=by omega
 have x5:=blk T.1 (by simp;omega) X4;have z5:=blk T.1 (by simpa using r) Z4;have⟨X5,Z5⟩:=qE x5 z5;have G5:=qhp (G4.t T.1);have T5:=qhp T.2;clear x5 z5 X4 Z4 G4 T4 T hu;go_loopw [6] (YR b (g+3) Z X m a w) (λi _=>(qiF i).toNat)
 case atStart=>exact⟨0,_,[],by simp,by omega,rfl,by simp,X5,qjF _ _ _ _,by simpa using T5.out,G5,qbo X5,Z5,λj e=>by cases e⟩
 case round=>
  obtain⟨k,S,D,rfl,h1,h2,h3,h4,h5,h6,h7,h8,h9,Q⟩:=hrel;have a6:=qhp Q;have c0:wr.cell? X=some S:=q8 h4 rfl;have c1:wr.cell? ⟨X,1,none⟩=some (.int .i64 a):=q8 h4 rfl;have⟨H4,x,H6,H7,Y,H3,F⟩:=q6k h4 h5 h6 h7 h2 h3 h9;clear h4 h5 h6 h7 h2 h3 h9 Q;by_cases e5:k<m
  ·have n2:(0:Int)<(m:Int) - (k:Int):=by omega
   have r5:IntKind.i64.wrap ((m:Int) - (k:Int) - 1)=(m:Int) - (k:Int) - 1:=qin _ (by omega);have e8:some X≠S.ownBlock:=λe=>by have:=(x.lt X e.symm).1;omega
   have fX:wr.frozen? ⟨X,0,none⟩=false:=qn H4;have O:b<X+1:=by omega
   go_wp2_with (fail);go_region_law
    (first
     | (go_simp;go_at_call 62;refine(q2n b (g+3+7*k) _ (by exact H6) (by omega)).mono ?_;rintro e s ⟨p,hp,rfl,HN⟩;have d9:wr.heap.size<=s.heap.size:=HN.1.size;have r4:X<s.heap.size:=(by omega);have s1:s.cell? X=some S:=q8 (blk HN.1 (by simp;omega) H4) rfl;have f:=qhp HN;have HP:=qhp hp;clear HN hp;unfold qgv)
     | (refine Jf (by rfl) _ _ _ (by rfl) (X+1) 28 i0 _ 4 32 Tp.und22 e7 d6 d5 c9 rfl (by omega) S k (yU D) (by rfl) (by exact(qf9 f.1 x O).alloc _) ⟨s.heap.size,0,none⟩ 1 1 (vz p) (by rfl) (by rfl) (qje (cs:=(vz p).toArray) (t:=28) (fr:=(0,0)) (qhA s _)) (by simp[vz,qjD]) (by omega) (by unfold qlg;omega) (by omega) (by simp at d9 ⊢;omega) (s.heap.size+1) (by simp) (λj e=>((((a6 j e).kept (qe _ none)).kept f.1 (λe2=>by have:=(x.lt j e).1;cases e2;omega)).kept (qhq s _ none))) (by intro v G;simp[vz] at G;rcases G with rfl | rfl | rfl | rfl<;>exact⟨_,_,rfl⟩) (by intro v G;simp[Value.cells] at G;exact⟨_,_,G⟩) ?_;intro gg s2 w5 h l r8 r7 y;have l4:=qhp y;clear y;have B5:=blk l e8 (qq (blk f.1 (by simp;omega) H4));have r9:w5.cell? X=some S:=q8 B5 rfl;have c5:w5.frozen? ⟨X,0,none⟩=false:=qn B5;have l6:=qhp B5;have HG:=qhp l;have HO:=qhp h;clear B5 h))
   all_goals
    have N:=qdz (((H7.t (qe _ _)).t f.1).t (qhq s _ _)) HG (λj e=>by have:=(x.lt j e).1;omega);have V:zf w5 b (g+3+7*k+7):=((f.2.alloc _).kept HG (λj e=>by have:=(x.lt j e).1;omega));have P:=blk HG (λe=>by have:=(x.lt Z e.symm).1;omega) (qq (blk f.1 (by simpa using r) F));have a7:=YR.step (g:=g+3) (w:=w) e5 Y H3 HP l6 HO V N d7 g5 P g6 l4;have FF:=qhp a7;clear a7 N V P;go_wp2;go_roundw
    case rel=>exact FF
    case measure=>simp[qiF];omega
  ·obtain rfl:k=m:=by omega
   obtain⟨fa,fm,fc,rfl⟩:=zB x;have d0:=q8 F (o:=0) rfl;have d1:=q8 F (o:=1) rfl;have f0:=qn F (o:=0);have f1:=qn F (o:=1);go_wp2;obtain⟨W,C⟩:∃W,W=(wr.setCell Z (.slice fa fm fc)).setCell ⟨Z,1,none⟩ (.int .i64 a):=⟨_,rfl⟩;have g9:W.heap[Z]?=some (.cells #[.slice fa fm fc,.int .i64 a] 24 (0,0)):=by rw[C,qi (qi F)];rfl
   have q:wr.gb W (some Z):=by rw[C];exact(qh _ _ _ _).t (qh _ _ _ _)
   have r6:D.length<=1000:=by have:=Y.out;omega
   have e4:=(qr.own x Y (by omega)).kept q (by rintro R e;cases e;exact .inl (by omega));rw[<- C];refine qka (v:=.agg #[.slice fa fm fc,.int .i64 a]) (by simp[qke,Tryz.results33,go_sem,qiq,g9]) rfl ⟨D,a,_,⟨by have:=Y.out;omega,H3,M.1,M.2⟩,rfl,⟨qdz H7 q (by rintro j e;cases e;have:=HZ.out;omega),(H6.kept q (by rintro B e;cases e;exact e9)).mono (by have:=Y.out;omega)⟩,e4.mono (by omega) q.size,λad m2 c2 e=>by
    cases e;exact(a6 _ rfl).kept q (λe2=>by have:=(x.lt _ rfl).1;cases e2;omega)⟩
def q5l(b g n:Nat)(w:qhr)(f:zf w b g)(i:g<100000)(h:n<=1000):qis Ya 33 #[.pointer (some b),n] w λe d=>∃c a v,qg6 n c a/\e=.returned (.agg #[v,.int .i64 a])/\Tn b (g+3+7*n) w d/\qr w.heap.size d.heap.size d v c :=
 (q5k b g n w f i h).mono λ_ _ ⟨c,a,v,o,l,k,j,_⟩=>⟨c,a,v,o,l,k,j⟩
end
section
open Go.RowKit
structure OrdN(n:Nat)(l:List Int):Prop where
 len:l.length=n
 nd:l.Nodup
 all:∀x∈l,0<=x/\x<n
end
end Go.Proofs.YtidgnkmjgioapaaGreat
namespace Go.Proofs
section
open Go Go.RowKit
def Tp.x200:Yc 200 Tryz.f200:=Yd
def Tp.x211:Yc 211 Tryz.f211:=Yd
def Tp.x217:Yc 217 Tryz.f217:=Yd
@[simp] theorem Tp.callPf2:Ye 200/\Ye 211/\Ye 217:=⟨Yf 200,Yf 211,Yf 217⟩
end
end Go.Proofs
namespace Go.Proofs.YtidgnkmjgioapaaGreat
section
open Go.RowKit
def QO(x:Int)(w:qhr):qis Ya 198 #[x] w λe a=>e=.returned (.bool false)/\w=a:=by
 go_enter Tp.x198,Tryz.ntmps198;go_wp2;go_ret;exact⟨rfl,rfl⟩
def q4j(x y:Int)(w:qhr):qis Ya 217 #[x,y] w λe a=>e=.returned (.bool (decide (x<y)))/\w=a:=by
 go_enter Tp.x217,Tryz.ntmps217;go_wp2_with (go_at_call 198;refine(QO _ _).mono ?_;rintro e b ⟨rfl,rfl⟩);go_ret;exact⟨rfl,rfl⟩
def q8H(n:Nat)(h:n<=12)(w:qhr):qis Ya 197 #[.int .u64 n] w λe a=>∃v,e=.returned (.int .i64 v)/\w=a:=by
 obtain rfl | rfl | rfl | rfl | rfl | rfl | rfl | rfl | rfl | rfl | rfl | rfl | rfl:n=0\/n=1\/n=2\/n=3\/n=4\/n=5\/n=6\/n=7\/n=8\/n=9\/n=10\/n=11\/n=12:=by omega
 all_goals
  go_enter Tp.x197,Tryz.ntmps197;go_wp2;go_ret;exact⟨_,rfl,rfl⟩
end
end Go.Proofs.YtidgnkmjgioapaaGreat
section
namespace Go
section
variable{P:qhF}{ops:Array qjn}{md:qlv}{Q:Exit->Act->qhr->Prop}{S:qhr->Prop}
def zN(P:qhF)(md:qlv)(ops:Array qjn)(Q:Exit->Act->qhr->Prop)(S:qhr->Prop)(n:Nat)(L:Array Bool->Act->qhr->Prop):Nat->Array Bool->Act->qhr->Prop
 | 0,listed,a,w=>L listed a w
 | f+1,listed,a,w=>
  qia md ops listed≠[]/\∀i∈qia md ops listed,i<n/\wpOp P ops Q i (λc b=>S b/\zN P md ops Q S n L f (listed.setIfInBounds i true) c b) a w
def jY{n g:Nat}{L:Array Bool->Act->qhr->Prop}(b:∀listed a w,L listed a w->wpAny P md ops Q g listed a w) :∀(f:Nat) (listed:Array Bool) (a:Act) (w:qhr),zN P md ops Q S n L f listed a w->wpAny P md ops Q (f+g) listed a w
 | 0,listed,a,w,h=>by rw[qi6];exact b _ _ _ h
 | f+1,listed,a,w,h=>by
  rw[show f+1+g=(f+g)+1 by omega];exact⟨λe=>absurd e h.1,λi d=>wpOp_mono (λk c j=>jY b f _ k c j.2) (h.2 i d).2⟩
def q24{n i:Nat}{y:qjn}{v:qhu}{L:Array Bool->Act->qhr->Prop}(W:ops[i]?=some y)(s:∀(j:Nat) (o:qjn) N b,ops[j]?=some o->o.op≠.select N b)(Y:qq3 md ops n=true)(hc:qps md ops n=true)(Z:n<ops.size)(G:i<n)(hQ:∀c a w,Q (.panic c) (a.put y.dst v) w->Q (.panic c) a w)(B:∀listed a w,L listed a w->∀j∈qia md ops listed,n<=j) :∀(f:Nat) (listed:Array Bool) (a:Act) (w:qhr),HeadInv md ops n listed ->(∀j x,ops[j]?=some x->j≠i->listed.getD j true=false->(∀e∈x.after,qj0 md e=true->e.on≠i)->y.apart ops x=true) ->i∈qia md ops listed->YieldsIf P ops S y v a->S w ->zN P md ops Q S n L f (listed.setIfInBounds i true) (a.put y.dst v) w->zN P md ops Q S n L (f+1) listed a w:=by
 intro f;induction f with
 | zero=>
  intro listed a w p _ t O M H;have g:=(mem_ready.1 t).1;refine⟨λh=>(by rw[h] at t;cases t),λj A=>?_⟩;have q:j<n:=by
   rcases qjy j n with h | h
   ·exact h
   ·exact absurd A (tail_waits Y hc Z p _ i rfl G g j h)
  refine⟨q,?_⟩;by_cases d:j=i
  ·subst d;exact O.wpOp W M ⟨M,H⟩
  ·have:=B _ _ _ H j (ready_mono A d);omega
 | succ f ih=>
  intro listed a w p l t O M H;have g:=(mem_ready.1 t).1;refine⟨λh=>(by rw[h] at t;cases t),λj A=>?_⟩;have q:j<n:=by
   rcases qjy j n with h | h
   ·exact h
   ·exact absurd A (tail_waits Y hc Z p _ i rfl G g j h)
  refine⟨q,?_⟩;by_cases d:j=i
  ·subst d;exact O.wpOp W M ⟨M,H⟩
  ·have T:=(H.2 j (ready_mono A d)).2;have⟨u,x,z,I⟩:=mem_ready.1 A;have D:∀e∈x.after,qj0 md e=true->e.on≠i:=λe he hb X=>by
    have T:=I e he hb;rw[X,getD_both g] at T;cases T
   have h2:=wpOp_putIf z (l j x z d u D) (λN b=>s i y N b W) (λN b=>s j x N b z) hQ O T;have r:∀k C,ops[k]?=some C->k≠i->(listed.setIfInBounds j true).getD k true=false ->
     (∀e∈C.after,qj0 md e=true->e.on≠i)->y.apart ops C=true:=λk C hk V g U=>by
    refine l k C hk V ?_ U;by_cases F:j=k
    ·subst F;exact u
    ·rw[getD_set_ne true F] at g;exact g
   refine wpOp_mono (λa' w' R=>⟨R.2.1,ih (listed.setIfInBounds j true) a' w' (p.set A q) r (ready_mono t (Ne.symm d)) R.1 R.2.1 ?_⟩) h2;rw[Array.setIfInBounds_comm _ _ d];exact R.2.2
def q4o(md:qlv)(ops:Array qjn)(n:Nat)(listed:Array Bool):Bool :=
 decide (listed.size=ops.size) && (qil ops.size).all (λj=>!listed.getD j false || ((ops[j]?).map (·.after.all λe=>!qj0 md e || listed.getD e.on false)).getD true) &&
  (qil ops.size).all λt=>decide (t<n) || !listed.getD t true
def q97{n:Nat}{listed:Array Bool}(h:q4o md ops n listed=true):HeadInv md ops n listed:=by
 simp only[q4o,qic,decide_eq_true_eq] at h;obtain⟨⟨l,k⟩,i⟩:=h;refine⟨l,λj o b c e d f=>?_,λt p a=>?_⟩
 ·have:=qiB.1 k j (qjC.2 (qhs.1 b).1);simp only[c,b,qnD,Bool.false_or,qjh,qhC] at this;have g:=(qju.1 this) e d;simpa[f] using g
 ·have:=qiB.1 i t (qjC.2 a);simp only[qkt,decide_eq_true_eq,qkz] at this;exact this.elim (λe=>absurd e (by omega)) id
def Jz{n i g:Nat}{b:qjn}{v:qhu}{f:Nat}{listed:Array Bool}{a:Act}{w:qhr}{R:Act->qhr->Prop}(d:ops[i]?=some b)(e:(qq7 ops && qq3 md ops n && qps md ops n && decide (n<ops.size) && decide (i<n) && q4o md ops n listed && qrC md ops listed i && (qia md ops listed).contains i)=true)(l:∀c a w,Q (.panic c) (a.put b.dst v) w->Q (.panic c) a w)(j:YieldsIf P ops S b v a)(k:S w)(h:zN P md ops Q S n (λlisted a w=>qmH md ops g n listed=true/\R a w) f (listed.setIfInBounds i true) (a.put b.dst v) w) :zN P md ops Q S n (λlisted a w=>qmH md ops g n listed=true/\R a w) (f+1) listed a w:=by
 simp only[qic,decide_eq_true_eq] at e;obtain⟨⟨⟨⟨⟨⟨⟨y,x⟩,u⟩,t⟩,s⟩,r⟩,q⟩,p⟩:=e;exact q24 d (Region.noSelect_spec y) x u t s l (λlisted a w o=>seqB_ready o.1) f listed a w (q97 r) (Region.free_spec d q) (by simpa using p) j k h
def tk(i:Nat){n g:Nat}{b:qjn}{v:qhu}{f:Nat}{listed:Array Bool}{a:Act}{w:qhr}{R:Act->qhr->Prop}(e:ops[i]?=some b:=by rfl)(hy:∀w,S w->(qkA a.eval b).run P w=.ok (.value v) w:=by intro w d;(try dsimp only at d);go_simp;try with_reducible rfl)(hB:(qq7 ops && qq3 md ops n && qps md ops n && decide (n<ops.size) && decide (i<n) && q4o md ops n listed && qrC md ops listed i && (qia md ops listed).contains i)=true:=by kernel_rfl)(hQ:∀c a w,Q (.panic c) (a.put b.dst v) w->Q (.panic c) a w:=by exact λ_ _ _ h=>h)(hw:qip b (qjt ops a.tmps)=true:=by kernel_rfl)(hS:S w:=by assumption)(h:zN P md ops Q S n (λlisted a w=>qmH md ops g n listed=true/\R a w) f (listed.setIfInBounds i true) (a.put b.dst v) w) :zN P md ops Q S n (λlisted a w=>qmH md ops g n listed=true/\R a w) (f+1) listed a w:=Jz e hB hQ (Or.inl ⟨hw,hy⟩) hS h
def tku(i:Nat){n g:Nat}{b:qjn}{f:Nat}{listed:Array Bool}{a:Act}{w:qhr}{R:Act->qhr->Prop}(d:ops[i]?=some b:=by rfl)(hB:(qq7 ops && qq3 md ops n && qps md ops n && decide (n<ops.size) && decide (i<n) && q4o md ops n listed && qrC md ops listed i && (qia md ops listed).contains i)=true:=by kernel_rfl)(hQ:∀c a w,Q (.panic c) (a.put b.dst qhx) w->Q (.panic c) a w:=by exact λ_ _ _ h=>h)(hw:qip b (qjt ops a.tmps)=false:=by kernel_rfl)(hS:S w:=by assumption)(h:zN P md ops Q S n (λlisted a w=>qmH md ops g n listed=true/\R a w) f (listed.setIfInBounds i true) (a.put b.dst qhx) w) :zN P md ops Q S n (λlisted a w=>qmH md ops g n listed=true/\R a w) (f+1) listed a w:=Jz d hB hQ (Or.inr ⟨hw,rfl⟩) hS h
def qP(P:qhF)(md:qlv)(ops:Array qjn)(Q:Exit->Act->qhr->Prop)(S:qhr->Prop)(n:Nat)(L:Array Bool->Act->qhr->Prop)(f:Nat)(listed:Array Bool)(a:Act)(w:qhr)(c:List Nat):Prop :=
 ∀i∈c,i<n/\wpOp P ops Q i (λd b=>S b/\zN P md ops Q S n L f (listed.setIfInBounds i true) d b) a w
def qP.nil{n f:Nat}{L:Array Bool->Act->qhr->Prop}{listed:Array Bool}{a:Act}{w:qhr}:qP P md ops Q S n L f listed a w []:=λ_ h=>by cases h
def qP.cons{n i:Nat}{c:qjn}{f:Nat}{listed:Array Bool}{a:Act}{w:qhr}{L:Array Bool->Act->qhr->Prop}{e:List Nat}(o:ops[i]?=some c)(l:decide (i<n)=true)(h:∀b:Act->qhr->Prop,Shut (∀a w,S w->(S w->zN P md ops Q S n L f (listed.setIfInBounds i true) a w)->b a w)->if qip c (qjt ops a.tmps)=true then Oper.wp P c a w b Q else b (a.put c.dst qhx) w)(k:qP P md ops Q S n L f listed a w e):qP P md ops Q S n L f listed a w (i::e):=λj d=>by
 rcases qjr.1 d with rfl | d
 ·exact⟨by simpa using l,wpOp_step o (λb q=>h b (λa w g p=>q a w ⟨g,p g⟩))⟩
 ·exact k j d
def q23{n f:Nat}{listed:Array Bool}{a:Act}{w:qhr}{L:Array Bool->Act->qhr->Prop}(c:List Nat)(g:decide (qia md ops listed=c)=true)(d:c≠[])(h:qP P md ops Q S n L f listed a w c) :zN P md ops Q S n L (f+1) listed a w:=by
 have b:qia md ops listed=c:=by simpa using g
 exact⟨λe=>d (b ▸ e),b ▸ h⟩
def rdy(b:List Nat){n f:Nat}{listed:Array Bool}{a:Act}{w:qhr}{L:Array Bool->Act->qhr->Prop}(h:qP P md ops Q S n L f listed a w b)(c:decide (qia md ops listed=b)=true:=by kernel_rfl)(hne:b≠[]:=by simp):zN P md ops Q S n L (f+1) listed a w:=q23 b c hne h
def cns(i:Nat){n:Nat}{b:qjn}{f:Nat}{listed:Array Bool}{a:Act}{w:qhr}{L:Array Bool->Act->qhr->Prop}{d:List Nat}(h:∀c:Act->qhr->Prop,Shut (∀a w,S w->(S w->zN P md ops Q S n L f (listed.setIfInBounds i true) a w)->c a w)->if qip b (qjt ops a.tmps)=true then Oper.wp P b a w c Q else c (a.put b.dst qhx) w)(e:qP P md ops Q S n L f listed a w d)(g:ops[i]?=some b:=by rfl)(hn:decide (i<n)=true:=by rfl):qP P md ops Q S n L f listed a w (i::d):=qP.cons g hn h e
def rdc(i:Nat){n:Nat}{b:qjn}{f:Nat}{listed:Array Bool}{a:Act}{w:qhr}{L:Array Bool->Act->qhr->Prop}(h:∀c:Act->qhr->Prop,Shut (∀a w,S w->(S w->zN P md ops Q S n L f (listed.setIfInBounds i true) a w)->c a w)->if qip b (qjt ops a.tmps)=true then Oper.wp P b a w c Q else c (a.put b.dst qhx) w)(d:decide (qia md ops listed=[i])=true:=by kernel_rfl)(hi:ops[i]?=some b:=by rfl)(hn:decide (i<n)=true:=by rfl):zN P md ops Q S n L (f+1) listed a w:=rdy [i] (cns i h qP.nil hi hn) d (by simp)
def qz{id:Nat}{a:Act}{w:qhr}{l:List qjn}(n:Nat)(S:qhr->Prop)(hm:P.follows .mixedOrders=true)(d:decide (n<=l.length)=true)(e:S w.drew)(h:S w.drew->zN P .any l.toArray Q S n (λlisted a w=>qmH .any l.toArray (l.length - n) n listed=true/\wpList P l.toArray Q (l.drop n) a w) n (qiE l.length false) a w.drew) :(Code.region id l.toArray true).wp P Q a w:=by
 have c:n<=l.length:=by simpa using d
 refine wp_region_any hm ?_;have:=jY (g:=l.length - n) (λlisted a w b=>by
  have:=qrg (md:=.any) (Q':=Q) (ops:=l.toArray) (l.drop n) n listed a w (λj=>by simp[qlA]) (by rw[qlc];exact b.1) b.2
  rwa [qlc] at this) _ _ _ _ (h e)
 rw[show n+(l.length - n)=l.toArray.size by simp;omega] at this;simpa using this
end
end Go
namespace Go
def qh7{P:qhF}{Q:Exit->Act->qhr->Prop}{a:Act}{w:qhr}{l:List qjn}(n:Nat)(S:qhr->Prop)(d:decide (n<=l.length)=true)(e:S w)(h:S w->zN P .any l.toArray Q S n (λlisted a w=>qmH .any l.toArray (l.length - n) n listed=true/\wpList P l.toArray Q (l.drop n) a w) n (qiE l.length false) a w) :wpAny P .any l.toArray Q l.toArray.size (qiE l.toArray.size false) a w:=by
 have c:n<=l.length:=by simpa using d
 have:=jY (g:=l.length - n) (λlisted a w b=>by
  have:=qrg (md:=.any) (Q':=Q) (ops:=l.toArray) (l.drop n) n listed a w (λj=>by simp[qlA]) (by rw[qlc];exact b.1) b.2
  rwa [qlc] at this) _ _ _ _ (h e)
 rw[show n+(l.length - n)=l.toArray.size by simp;omega] at this;simpa using this
end Go
end
namespace Go.Proofs.YtidgnkmjgioapaaGreat
section
open Go.RowKit
def j5(B:Nat)(w:qhr)(L:List Int):Prop:=∃a,w.heap[B]?=some (.cells a 3 (0,0))/\∀i,i<L.length->a[i]?=some (.int .i64 (L[i]?.getD 0))
def Qh:Nat->List Int->List Int
 | 0,L=>L
 | j+1,L=>if L[j+1]?.getD 0<L[j]?.getD 0 then Qh j ((L.set (j+1) (L[j]?.getD 0)).set j (L[j+1]?.getD 0)) else L
def jC(k:Nat)(L:List Int):List Int:=(qil k).foldl (λL i=>Qh i L) L
def vk(k:Nat)(L:List Int):jC (k+1) L=Qh k (jC k L):=by simp[jC,qlo]
def q8m(j:Nat)(L:List Int):(Qh j L).length=L.length:=by
 induction j generalizing L with
 | zero=>rfl
 | succ j a=>
  unfold Qh;split
  ·rw[a];simp
  ·rfl
def xK(k:Nat)(L:List Int):(jC k L).length=L.length:=by
 induction k with
 | zero=>rfl
 | succ k a=>rw[vk,q8m,a]
def Km{l:List Int}(h:∀i,i+1<l.length->l[i]?.getD 0<=l[i+1]?.getD 0):∀k,k<=l.length->jC k l=l
 | 0,_=>rfl
 | k+1,a=>by
  rw[vk,Km h k (by omega)];cases k with
  | zero=>rfl
  | succ k=>
   unfold Qh;have:=h k (by omega);rw[if_neg (by omega)]
section
variable{B:Nat}{w w':qhr}{L:List Int}
def j5.kept{r:Option Nat}(h:j5 B w L)(d:w.gb w' r)(a:some B≠r:=by simp):j5 B w' L:=let ⟨cs,h1,h2⟩:=h;⟨cs,blk d a h1,h2⟩
def j5.at{k:Nat}(h:j5 B w L)(a:k<L.length):w.cell? ⟨B,k,none⟩=some (.int .i64 (L[k]?.getD 0)):=let ⟨_,h1,h2⟩:=h;q8 h1 (h2 k a)
def j5.thaw{k:Nat}(h:j5 B w L):w.frozen? ⟨B,k,none⟩=false:=let ⟨_,h1,_⟩:=h;qn h1
def j5.step{j:Nat}{y v:qhu}(h:j5 B w L)(d:w.cell? ⟨B,j,none⟩=some y):(w.setCell ⟨B,j+1,none⟩ v).cell? ⟨B,j,none⟩=some y/\(w.setCell ⟨B,j+1,none⟩ v).frozen? ⟨B,j,none⟩=false:=by
 obtain⟨c,a,-⟩:=h;have b:(w.setCell ⟨B,j+1,none⟩ v).heap[B]?=some (.cells (c.setIfInBounds (j+1) v) 3 (0,0)):=by rw[qi a]
 have e:c[j]?=some y:=by simpa[qiq,a] using d
 exact⟨q8 b (by rw[qjb (by omega)];exact e),qn b⟩
def j5.swap{j:Nat}{a b:Int}(h:j5 B w L)(g:j+1<L.length) :j5 B ((w.setCell ⟨B,j+1,none⟩ (.int .i64 b)).setCell ⟨B,j,none⟩ (.int .i64 a)) ((L.set (j+1) b).set j a):=by
 obtain⟨f,k,d⟩:=h;have n:(w.setCell ⟨B,j+1,none⟩ (.int .i64 b)).heap[B]?=some (.cells (f.setIfInBounds (j+1) (.int .i64 b)) 3 (0,0)):=by rw[qi k]
 have l:((w.setCell ⟨B,j+1,none⟩ (.int .i64 b)).setCell ⟨B,j,none⟩ (.int .i64 a)).heap[B]?=some (.cells ((f.setIfInBounds (j+1) (.int .i64 b)).setIfInBounds j (.int .i64 a)) 3 (0,0)):=by rw[qi n]
 have p:=(qhs.1 (d (j+1) g)).1;refine⟨_,l,λi c=>?_⟩;simp only[qo1] at c;by_cases e:i=j
 ·subst e;rw[ql3 (by rw[Array.size_setIfInBounds];omega),qn4 (by rw[qo1];omega)];rfl
 ·by_cases o:i=j+1
  ·subst o;rw[qjb (by omega),ql3 (by omega),qls (by omega),qn4 (by omega)];rfl
  ·rw[qjb (by omega),qjb (by omega),qls (by omega),qls (by omega)];exact d i c
end
def q6h(B c:Nat)(L:List Int)(w:qhr)(hI:j5 B w L)(e7:L.length<=1000) :qis Ya 211 #[.slice (some B) L.length c,.int .i64 0,L.length] w λe w'=>e=.returned (.tuple #[])/\w.gb w' (some B)/\j5 B w' (jC L.length L):=by
 have HI:=qhp hI;have d7:(L.length:Int)<=1000:=by omega
 clear hI;go_enter Tp.x211,Tryz.ntmps211;go_wp2;go_loopw [6] (λP wr=>∃k:Nat,P=.int .i64 (k+1:Nat)/\k<=1000/\w.gb wr (some B)/\j5 B wr (jC (min (k+1) L.length) L)) (λP _=>(L.length - qiF P).toNat)
 case atStart=>exact⟨0,rfl,by omega,qhD _ _,by
  by_cases h:L.length=0
  ·rw[h];exact HI
  ·rw[show min (0+1) L.length=0+1 by omega,vk];exact HI⟩
 case round=>
  obtain⟨k,rfl,hk,hG,hR⟩:=hrel;have⟨HG,T⟩:=qE hG hR;clear hG hR;by_cases d6:k+1<L.length
  ·have Z:(k:Int)+1<(L.length:Int):=by omega
   have X:IntKind.i64.wrap ((k:Int)+1+1)=(k:Int)+1+1:=qin _ (by omega);have c3:IntKind.i64.wrap ((k:Int)+1)=(k:Int)+1:=qin _ (by omega);go_wp2;go_loopw [7] (λO V=>∃(j:Nat) (f:List Int),O=.int .i64 j/\j<=k+1/\Qh (k+1) (jC (min (k+1) L.length) L)=Qh j f/\f.length=L.length/\w.gb V (some B)/\j5 B V f) (λO _=>(qiF O).toNat)
   case atStart=>exact⟨k+1,_,rfl,qhv _,rfl,xK _ _,HG,T⟩
   case round=>
    obtain⟨j0,f,rfl,hj,Y,y,A,z⟩:=hrel;have⟨u,F,x,g⟩:=j8 Y y A z;clear Y y A z;have l:Qh (k+1) (jC (min (k+1) L.length) L)=f->∀o,w.gb o (some B)->j5 B o f->∃N,qid .i64 ((k:Int)+1+1)=.int .i64 ((N+1:Nat):Int)/\N<=1000/\w.gb o (some B)/\j5 B o (jC (min (N+1) L.length) L):=λe o h1 h2=>
     ⟨k+1,by simp,by omega,h1,by rw[show min (k+1+1) L.length=(k+1)+1 by omega,vk,<- show min (k+1) L.length=k+1 by omega,show min (k+1) L.length=k+1 by omega];rw[show min (k+1) L.length=k+1 by omega] at e;rw[e];exact h2⟩
    have n:=qhp l;clear l;cases j0 with
    | zero=>
     go_wp2_with (fail);go_quiet (fail);go_wp2;go_roundw
     case rel=>exact n u _ (x.andThen (qk _ _ none) (by simp)) (g.kept (qk _ _ none))
     case measure=>simp[qiF];omega
    | succ j=>
     have p:j+1<f.length:=by have:=F.out;omega
     have M:=g.out.at (k:=j+1) p;have I:=g.out.at (k:=j) (by omega);have z1:=g.out.thaw (k:=j+1);have z0:=g.out.thaw (k:=j);have d:Qh (j+1) f=if f[j+1]?.getD 0<f[j]?.getD 0 then Qh j ((f.set (j+1) (f[j]?.getD 0)).set j (f[j+1]?.getD 0)) else f:=rfl;generalize f[j+1]?.getD 0=a at d M;generalize f[j]?.getD 0=b at d I;have c8:IntKind.i64.wrap (j:Int)=(j:Int):=qin _ (by omega);have d5:((j:Int)+1).toNat=j+1:=by omega
     have d9:(j:Int)+1<(L.length:Int):=by omega
     have a6:(j:Int)<(L.length:Int):=by omega
     have e4:(0:Int)<=(j:Int)+1:=by omega
     have d8:(0:Int)<(j:Int)+1:=by omega
     have c9:(j:Int)+1 - 1=(j:Int):=by omega
     have U:=qhp p;clear p;by_cases W:a<b
     ·rw[if_pos W] at d;have s:=qhp d;clear d;go_wp2_with (fail);go_quiet (first | (go_at_call 217;refine qk0 ((q4j _ _ _).mono (λe o h=>⟨h.1,h.2.symm⟩))));go_upto_region 6 with(fail);have q:=qk wr nq none;generalize wr.drewN nq=wa at q ⊢;have i:wr.gb wa.drew none:=q.t (qe wa none);have D:=g.out.kept i;have x2:=i.cl M;have G:=i.cl I;have R:=qhp (D.swap (a:=a) (b:=b) U);have S:=qhp (((x.andThen i (by simp)).andThen (qh _ B (j+1) (.int .i64 b)) (λj e=>.inr e)).andThen (qh _ B j (.int .i64 a)) (λj e=>.inr e));have z2:=D.thaw (k:=j+1);have H:=D.thaw (k:=j);have r:=D.step (v:=.int .i64 b) G;have C:=qhp r;have z4:=r.2;clear D r M I z1 z0 q i;refine qz 16 (λw'=>w'.cell? ⟨B,j,none⟩=some (.int .i64 b)/\w'.frozen? ⟨B,j,none⟩=false) (by kernel_rfl) (by kernel_rfl) ⟨G,H⟩ (λhHeld=>?_);simp only[qhE,qi1,qib,qiA,qi6,qie,qif,qio,qii,qi7];refine tk 0 (h:=tk 1 (h:=tk 2 (h:=tk 3 (h:=tk 4 (h:=tk 5 (h:=tk 6 (h:=tk 7 (h:=tk 8 (h:=tk 9 (h:=tk 10 (h:=tk 11 (h:=tk 12 (h:=?_)))))))))))));try go_frame
      refine rdc 13 λK Q=>?_;go_simp;refine Q.out _ _ (by first | exact hHeld | exact⟨G,H⟩ | exact C) (λhHeld=>?_);refine tk 14 (h:=?_);try go_frame
      refine rdc 15 λK Q=>?_;go_simp;refine Q.out _ _ (by first | exact hHeld | exact⟨G,H⟩ | exact C) (λhHeld=>?_);try go_frame
      refine⟨by kernel_rfl,?_⟩;simp only[qig,qit];go_wp2;refine⟨?_,?measure⟩
      repeat apply Exists.intro
      refine⟨?rel,rfl⟩
      case rel=>exact⟨j,_,rfl,by omega,u.t s,by simp[F.out],S,R⟩
      case measure=>simp[qiF]
     ·rw[if_neg W] at d;have s:=qhp d;clear d;go_wp2_with (fail);go_quiet (first | (go_at_call 217;refine qk0 ((q4j _ _ _).mono (λe o h=>⟨h.1,h.2.symm⟩))));go_wp2;go_roundw
      case rel=>exact n (u.t s) _ (x.andThen (qk _ _ none) (by simp)) (g.kept (qk _ _ none))
      case measure=>simp[qiF];omega
  ·have he:min (k+1) L.length=L.length:=by omega
   rw[he] at T;go_wp2;go_end0;exact⟨rfl,HG,T⟩
def Za(base:Option qiG)(B:Nat)(w:qhr)(L:List Int):Prop:=(base=some ⟨B,0,none⟩/\j5 B w L)\/L=[]
def q6i(base:Option qiG)(B c:Nat)(L:List Int)(w:qhr)(a:Za base B w L)(b:L.length<=1000) :qis Ya 211 #[.slice base L.length c,.int .i64 0,L.length] w λe w'=>e=.returned (.tuple #[])/\w.gb w' (some B)/\Za base B w' (jC L.length L):=by
 rcases a with⟨rfl,a⟩ | rfl
 ·exact(q6h B c L w a b).mono λe w' ⟨i,h,g⟩=>⟨i,h,.inl ⟨rfl,g⟩⟩
 ·go_enter Tp.x211,Tryz.ntmps211;go_wp2;go_loopw [6] (λd wr=>d=.int .i64 1/\w.gb wr (some B)) (λ_ _=>0)
  case atStart=>exact⟨rfl,qhD _ _⟩
  case round=>
   obtain⟨rfl,f⟩:=hrel;go_wp2;go_end0;exact⟨rfl,f,.inr rfl⟩
end
section
open Go.RowKit
def JX(n:Nat)(h:n<=12)(w:qhr):qis Ya 156 #[.int .u64 n] w λe a=>∃v,e=.returned (.int .i64 v)/\w=a:=by
 go_enter Tp.x156,Tryz.ntmps156;go_wp2_with (go_at_call 197;refine(q8H n h _).mono ?_;rintro e b ⟨v,rfl,rfl⟩);go_ret;exact⟨_,rfl,rfl⟩
def pdqI(base:Option qiG)(B c:Nat)(L:List Int)(d:Int)(w:qhr)(g:Za base B w L)(j:L.length<=12) :qis Ya 200 #[.slice base L.length c,.int .i64 0,L.length,d] w λe f=>e=.returned (.tuple #[])/\w.gb f (some B)/\Za base B f (jC L.length L):=by
 have k:=qhp g;clear g;go_enter Tp.x200,Tryz.ntmps200;go_wp2;go_loopw [1,2,3] (λa b c wr=>a=.int .i64 0/\b=.int .i64 L.length/\c=.int .i64 d/\w=wr) (λ_ _ _ _=>0)
 case atStart=>exact⟨rfl,rfl,rfl,rfl⟩
 case round=>
  obtain⟨rfl,rfl,rfl,rfl⟩:=hrel;have o:IntKind.i64.wrap (L.length:Int)=(L.length:Int):=qin _ (by omega);have n:(L.length:Int)<=12:=by omega
  go_wp2_with (go_at_call 211;refine(q6i base B c L _ k (by omega)).mono ?_;rintro e l ⟨rfl,i,h⟩);refine qka (results_none rfl _ _ _) rfl ?_;exact⟨rfl,i,h⟩
def qgo(base:Option qiG)(B c:Nat)(L:List Int)(w:qhr)(d:Za base B w L)(a:L.length<=12) :qis Ya 164 #[.slice base L.length c] w λe b=>e=.returned (.tuple #[])/\w.gb b (some B)/\Za base B b (jC L.length L):=by
 have i:=qhp d;clear d;have j:IntKind.u64.wrap (L.length:Int)=(L.length:Int):=by simp[IntKind.wrap,IntKind.signed,IntKind.bits];omega
 go_enter Tp.x164,Tryz.ntmps164;go_wp2_with (first
  | (go_at_call 156;refine(JX L.length a _).mono ?_;rintro e f ⟨v,rfl,rfl⟩)
  | (go_at_call 200;refine(pdqI base B c L _ _ i a).mono ?_;rintro e f ⟨rfl,h,g⟩))
 go_end0;exact⟨rfl,h,g⟩
def Zd(b:Option qiG)(n c:Nat)(w:qhr):qis Ya 135 #[.slice b n c] w λe a=>e=.returned (.func (.func 165) #[] #[.pointer (some w.heap.size)])/\a=w.alloc (.cells #[.slice b n c] 29):=by
 go_enter Tp.x135,Tryz.ntmps135;go_wp2;go_ret;exact⟨rfl,rfl⟩
def zS(c:List Int):Nat->List Int->Nat->List (List Int)
 | 0,b,_=>[b]
 | m+1,b,a=>(qmG a (c.length - a)).flatMap λi=>zS c m (b++[c[i]?.getD 0]) (i+1)
def Zp{a:List Int}{m:Nat}{b:List Int}{i:Nat}(h:i<a.length):zS a (m+1) b i=zS a m (b++[a[i]?.getD 0]) (i+1)++zS a (m+1) b (i+1):=by
 have e:a.length - i=(a.length - (i+1))+1:=by omega
 simp only[zS];rw[e,List.range'_succ,qkl]
def q1v{a:List Int}{m:Nat}{b:List Int}{i:Nat}(h:a.length<=i):zS a (m+1) b i=[]:=by
 simp only[zS];rw[show a.length - i=0 by omega];rfl
def jZ(a:List Int)(k:Nat):List (List Int):=(qmG k (a.length+1 - k)).flatMap λm=>zS a m [] 0
def Ja{a:List Int}{k:Nat}(h:k<a.length+1):jZ a k=zS a k [] 0++jZ a (k+1):=by
 have e:a.length+1 - k=(a.length+1 - (k+1))+1:=by omega
 unfold jZ;rw[e,List.range'_succ,qkl]
def q3s{a:List Int}{k:Nat}(h:a.length+1<=k):jZ a k=[]:=by
 unfold jZ;rw[show a.length+1 - k=0 by omega];rfl
end
end Go.Proofs.YtidgnkmjgioapaaGreat
namespace Go
section
open Go.RowKit
section
variable{F:Fence}{n:Nat}{P:qhF}
structure Stp(n1 B:Nat)(G:Nat->Prop)(A C:qhr):Prop where
 os:C.os=A.os
 tape:C.tape=A.tape
 output:C.output=A.output
 size:A.heap.size<=C.heap.size
 keep:∀k,k<A.heap.size->((k<n1/\k≠B)\/G k)->C.heap[k]?=A.heap[k]?
structure Bod(n1 B:Nat)(G G':Nat->Prop)(A C:qhr):Prop where
 tape:C.tape=A.tape
 size:A.heap.size<=C.heap.size
 keep:∀k,k<A.heap.size->(n1<=k\/k=B)->¬ G k->C.heap[k]?=A.heap[k]?
 fp:∀k,G' k->G k\/A.heap.size<=k
def Bod.trans{d B:Nat}{G i a:Nat->Prop}{A C E:qhr}(h:Bod d B G i A C)(k:Bod d B i a C E):Bod d B G a A E :=
 ⟨k.tape.trans h.tape,qhB h.size k.size,λj c f g=>(k.keep j (qi0 c h.size) f (λe=>(h.fp j e).elim g (by omega))).trans (h.keep j c f g),
  λj c=>(k.fp j c).elim (h.fp j) (λe=>.inr (qhB h.size e))⟩
def Stp.mono{b a B:Nat}{G:Nat->Prop}{A C:qhr}(h:Stp a B G A C)(f:b<=a):Stp b B G A C:=⟨h.os,h.tape,h.output,h.size,λk c d=>h.keep k c (d.imp (λe=>⟨by omega,e.2⟩) id)⟩
def Bod.mono{b a B:Nat}{G c:Nat->Prop}{A C:qhr}(h:Bod b B G c A C)(g:b<=a):Bod a B G c A C:=⟨h.tape,h.size,λk d f=>h.keep k d (f.imp (λe=>by omega) id),h.fp⟩
def qhc{Y:Type}(F:Fence)(n:Nat)(P:qhF)(g:Nat)(i:Array qhu)(b:Y->Array qhu)(j:Y->qhr->Prop)(S h:List Y->Prop)(B:Nat)(w0:qhr):Prop :=
 ∀(l:Nat) (J Jx:List Y->(Nat->Prop)->qhr->Prop) (G0:Nat->Prop) (W:qhr),Below w0.heap.size w0 W->¬ G0 B->(∀s G A,J s G A->∀k,G k->k<A.heap.size) ->
  (∀s G A C,J s G A->Stp W.heap.size B G A C->J s G C)->(∀s G A C,Jx s G A->Stp W.heap.size B G A C->Jx s G C) ->
  (∀pre G x c,J pre G c->j x c->h (pre++[x])->YieldAt F (n - 1) P l (b x) c λe a=>
   ∃d,(e=.returned (.bool true)/\J (pre++[x]) d a/\Bod W.heap.size B G d c a)\/(e=.returned (.bool false)/\Jx (pre++[x]) d a/\Bod W.heap.size B G d c a)) ->
  J [] G0 W ->
  CallsIn F n P g (#[.func (.yield l) #[] #[]]++i) W λe a=>(∃v,e=.returned v)/\((∃f G,S f/\J f G a)\/(∃pre G,h pre/\Jx pre G a))
def qgr{Y:Type}(d B:Nat)(G:Nat->Prop)(I:List Y->(Nat->Prop)->qhr->Prop)(e:qkh->List Y->(Nat->Prop)->qhr->Prop)(c:List Y)(W:qhr):Exit->Act->qhr->Prop
 | .normal,_,a=>∃b,Bod d B G b W a/\I c b a
 | .ret,_,a=>∃b,Bod d B G b W a/\e .ret c b a
 | .exit id,_,a=>∃b,Bod d B G b W a/\e (.exit id) c b a
 | .goto t,_,a=>∃b,Bod d B G b W a/\e (.goto t) c b a
 | .panic _,_,_=>False
 | .outgrown,_,_=>False
def kD{b B:Nat}{G:Nat->Prop}{A:qhr}{l:Nat}(o:Obj)(g:b<=l)(f:¬ G l):Stp b B G A (A.putObj l o) :=
 have a:=ql8 A l o
 ⟨a.os,a.tape,a.output,a.size,λk c d=>a.block k c (by
  intro e;cases e;rcases d with h | h
  ·omega
  ·exact f h)⟩
def yz{Y:Type}{g:qiy}{ps:Array Tmp}{assign body:qkh}{Q:Exit->Act->qhr->Prop}{a:Act}{w:qhr}(k8:F.round=none)(h1:1<=n){gf:Nat}{lb:Array qhu}(hg:a.eval g=.func (.func gf) #[] lb)(n2:F.fn gf)(eg:∀args w,(callFunc gf args).run P w=.ok (.enter gf args) w){V:Y->Array qhu}{Xp:Y->qhr->Prop}{S Sp:List Y->Prop}{B:Nat}{w0:qhr}(e5:qhc F (n - 1) P gf lb V Xp S Sp B w0)(g6:Below w0.heap.size w0 w)(k9:∀x,(V x).size=ps.size){G0:Nat->Prop}(hB:¬ G0 B)(p8:B<w.heap.size)(hX:∀x A l o o',A.heap[l]?=some o->o.isCells=false->Xp x A->Xp x (A.putObj l o'))(I:List Y->(Nat->Prop)->qhr->Prop)(Ix:qkh->List Y->(Nat->Prop)->qhr->Prop)(a8:∀s G A,I s G A->∀k,G k->k<A.heap.size)(hI:∀s G A C,I s G A->Stp w.heap.size B G A C->I s G C)(b0:∀c s G A C,Ix c s G A->Stp w.heap.size B G A C->Ix c s G C)(h0:I [] G0 w)(a₁:Y->Act)(a9:∀(l:Nat) (x:Y) (W:qhr) (K:Act->qhr->Prop),K (a₁ x) W ->assign.wpIn (F.inRound l) (n - 1 - 1) P (Exit.then K (λ_ _ _=>False)) { tmps:=(ps.zip (V x)).foldl (λt (p,v)=>t.setIfInBounds p v) a.tmps,defers:=[] } W)(hbody:∀(l:Nat) (pre:List Y) (G:Nat->Prop) (x:Y) (W:qhr),I pre G W->Xp x W->Sp (pre++[x])->body.wpIn (F.inRound l) (n - 1 - 1) P (qgr w.heap.size B G I Ix (pre++[x]) W) (a₁ x) W)(hdone:∀(D:Nat) (xs:List Y) (G:Nat->Prop) (W:qhr),w.heap.size<=D->S xs->I xs G W->W.heap[D]?=some (.deferred (some []))->¬ G D->Q .normal { a with defers:={ target:=.collected D,args:=#[] }::a.defers } W)(hstop:∀(D:Nat) (c:qkh) (pre:List Y) (G:Nat->Prop) (W:qhr),w.heap.size<=D->Sp pre->Ix c pre G W->W.heap[D]?=some (.deferred (some []))->¬ G D->c.wpIn F n P Q { a with defers:={ target:=.collected D,args:=#[] }::a.defers } W) :(Code.rangeFunc g ps assign body).wpIn F n P Q a w:=by
 refine wpIn_rangeFunc ?_;intro fn m4;rw[k8];obtain⟨d,f⟩:∃d:LoopState->Option qkh->Loop,d=λst pe=>{ state:=st,pending:=pe,fn,tmps:=a.tmps,params:=ps,assign,body,defers:=w.heap.size }:=⟨_,rfl⟩;obtain⟨y,a6⟩:∃y,(w.alloc (.deferred (some []))).alloc (.loop (d .ready none))=y:=⟨_,rfl⟩;have m7:y.heap[w.heap.size+1]?=some (.loop (d .ready none)):=by
  rw[<- a6];have:=qqj (w.alloc (.deferred (some []))) (.loop (d .ready none));rwa [qhH] at this
 have m8:y.heap[w.heap.size]?=some (.deferred (some [])):=by
  rw[<- a6];exact(Below.heap_alloc _ _ _ (by simp)).trans (qqj w _)
 have p4:y.heap.size=w.heap.size+2:=by rw[<- a6];simp
 have e4:Stp w.heap.size B G0 w y:=by
  have h:=(qhq w (.deferred (some [])) none).trans (qhq _ (.loop (d .ready none)) none);rw[a6] at h;exact⟨h.os,h.tape,h.output,h.size,λk hk _=>h.block k hk (by simp)⟩
 have m9:I [] G0 y:=hI _ _ _ _ h0 e4;have l5:¬ G0 w.heap.size:=λh=>by have:=a8 _ _ _ h0 _ h;omega
 have l4:¬ G0 (w.heap.size+1):=λh=>by have:=a8 _ _ _ h0 _ h;omega
 have m5:Below w0.heap.size w0 y:=by
  rw[<- a6];exact g6.trans ((((qns _ w).alloc (qhv _) _).alloc (by simp) _).mono g6.size)
 refine⟨w.heap.size+1,[{ target:=.collected w.heap.size,args:=#[] }],y,{ target:=.fn (.func gf) lb,args:=#[.func (.yield (w.heap.size+1)) #[] #[]] },y,gf,
  #[.func (.yield (w.heap.size+1)) #[] #[]]++lb,y,?_,?_,?_,?_,λ_=>h1,?_⟩
 ·rw[<- a6,f];exact run_enterLoop_outer _ _ _ _ _
 ·simp only[resolve,hg];simp[go_sem]
 ·intro f' g5;simp[Target.leads] at g5;subst g5;exact n2
 ·simp[invoke,go_sem,eg]
 ·have u:∀(G:Nat->Prop) (A C:qhr),Stp y.heap.size B G A C->w.heap.size+2<=A.heap.size->C.heap[w.heap.size+1]?=A.heap[w.heap.size+1]?/\C.heap[w.heap.size]?=A.heap[w.heap.size]?:=λG A C h hA=>
   ⟨h.keep _ (by omega) (.inl ⟨by omega,by omega⟩),h.keep _ (by omega) (.inl ⟨by omega,by omega⟩)⟩
  refine(e5 (w.heap.size+1)
   (λpre G W=>(I pre G W/\w.heap.size+2<=W.heap.size/\¬ G w.heap.size/\¬ G (w.heap.size+1))/\W.heap[w.heap.size+1]?=some (.loop (d .ready none))/\W.heap[w.heap.size]?=some (.deferred (some [])))
   (λpre G W=>∃c,(Ix c pre G W/\w.heap.size+2<=W.heap.size/\¬ G w.heap.size/\¬ G (w.heap.size+1))/\W.heap[w.heap.size+1]?=some (.loop (d .done (some c)))/\W.heap[w.heap.size]?=some (.deferred (some [])))
   G0 y m5 hB (λs G A hs=>a8 s G A hs.1.1)
   (λs G A C hs h=>⟨⟨hI s G A C hs.1.1 (h.mono (by omega)),qhB hs.1.2.1 h.size,hs.1.2.2.1,hs.1.2.2.2⟩,(u G A C h hs.1.2.1).1.trans hs.2.1,(u G A C h hs.1.2.1).2.trans hs.2.2⟩)
   (λs G A C hs h=>by
    obtain⟨c,hc,hl,hk⟩:=hs;exact⟨c,⟨b0 c s G A C hc.1 (h.mono (by omega)),qhB hc.2.1 h.size,hc.2.2.1,hc.2.2.2⟩,(u G A C h hc.2.1).1.trans hl,(u G A C h hc.2.1).2.trans hk⟩)
   ?_ ⟨⟨m9,by omega,l5,l4⟩,m7,m8⟩).mono ?_
  ·-- ONE ROUND
   rintro pre G x W ⟨⟨hi,c8,X,H⟩,hl,hk⟩ hx k7;have l7:w.heap.size+1<W.heap.size:=(qhs.1 hl).1;have hy:=run_yield (P:=P) (args:=V x) hl (by rw[f];exact k9 x);rw[f] at hy;refine⟨fn,_,assign,body,hy,roundIn_of_wpIn m4 (a9 _ x W _ ⟨_,run_beginRound hl (by rw[f]),?_⟩)⟩;obtain⟨Wb,Z⟩:∃Wb,W.putObj (w.heap.size+1) (.loop { d .ready none with state:=.busy })=Wb:=⟨_,rfl⟩;have l8:Wb.heap[w.heap.size+1]?=some (.loop { d .ready none with state:=.busy }):=by rw[<- Z];exact qn5 l7
   have m3:Wb.heap[w.heap.size]?=some (.deferred (some [])):=by rw[<- Z];exact(qmC (by omega)).trans hk
   have b9:Stp w.heap.size B G W Wb:=by rw[<- Z];exact kD _ (by omega) H
   have d5:W.grownBy Wb (some (w.heap.size+1)):=by rw[<- Z];exact ql8 _ _ _
   have k6:Xp x Wb:=by rw[<- Z];exact hX x W _ _ _ hl rfl hx
   rw[Z];have d9:w.heap.size+2<=Wb.heap.size:=qhB c8 b9.size;refine wpIn_mono (hbody _ pre G x _ (hI _ _ _ _ hi b9) k6 k7) ?_;have g9:Bod y.heap.size B G G W Wb:=⟨d5.tape,d5.size,λk N hn _=>d5.block k N (by intro e;cases e;rcases hn with h | h<;>omega),λk N=>.inl N⟩;have fin:∀(b:Option qkh) (q:Nat->Prop) (r:qhr),Bod w.heap.size B G q Wb r ->
     (qkE (w.heap.size+1) b).run P r=.ok (.bool b.isNone) (r.putObj (w.heap.size+1) (.loop (d (if b.isNone then .ready else .done) b))) /\
     (r.putObj (w.heap.size+1) (.loop (d (if b.isNone then .ready else .done) b))).heap[w.heap.size+1]?=some (.loop (d (if b.isNone then .ready else .done) b)) /\
     (r.putObj (w.heap.size+1) (.loop (d (if b.isNone then .ready else .done) b))).heap[w.heap.size]?=some (.deferred (some [])) /\
     Stp w.heap.size B q r (r.putObj (w.heap.size+1) (.loop (d (if b.isNone then .ready else .done) b))) /\
     Bod y.heap.size B G q W (r.putObj (w.heap.size+1) (.loop (d (if b.isNone then .ready else .done) b))) /\
     w.heap.size+2<=(r.putObj (w.heap.size+1) (.loop (d (if b.isNone then .ready else .done) b))).heap.size /\
     ¬ q w.heap.size/\¬ q (w.heap.size+1):=λb q r i=>by
    have e8:=(i.keep (w.heap.size+1) (by omega) (.inl (by omega)) H).trans l8;have l9:=(i.keep w.heap.size (by omega) (.inl (by omega)) X).trans m3;have e7:¬ q (w.heap.size+1):=λe=>(i.fp _ e).elim H (by omega);have e6:¬ q w.heap.size:=λe=>(i.fp _ e).elim X (by omega);have c3:Stp w.heap.size B q r (r.putObj (w.heap.size+1) (.loop (d (if b.isNone then .ready else .done) b))):=kD _ (by omega) e7;have d6:r.grownBy (r.putObj (w.heap.size+1) (.loop (d (if b.isNone then .ready else .done) b))) (some (w.heap.size+1)):=ql8 _ _ _;have g8:Bod y.heap.size B q q r (r.putObj (w.heap.size+1) (.loop (d (if b.isNone then .ready else .done) b))):=⟨d6.tape,d6.size,λk N hn _=>d6.block k N (by intro e;cases e;rcases hn with h | h<;>omega),λk N=>.inl N⟩;have:=run_endRound (P:=P) b e8;rw[f] at this;refine⟨by rw[f];exact this,qn5 (qhs.1 e8).1,(qmC (by omega)).trans l9,c3,(g9.trans (i.mono (by omega))).trans g8,qhB d9 (qhB i.size c3.size),e6,e7⟩
   rintro e a3 r hp;cases e with
   | normal=>
    obtain⟨q,i,O⟩:=hp;have⟨hr,L,M,z,U,j,T,R⟩:=fin none q r i;exact⟨_,_,hr,q,.inl ⟨rfl,⟨⟨hI _ _ _ _ O z,j,T,R⟩,L,M⟩,U⟩⟩
   | ret=>
    obtain⟨q,i,O⟩:=hp;have⟨hr,L,M,z,U,j,T,R⟩:=fin (some .ret) q r i;exact⟨_,_,hr,q,.inr ⟨rfl,⟨.ret,⟨b0 _ _ _ _ _ O z,j,T,R⟩,L,M⟩,U⟩⟩
   | exit id=>
    obtain⟨q,i,O⟩:=hp;have⟨hr,L,M,z,U,j,T,R⟩:=fin (some (.exit id)) q r i;exact⟨_,_,hr,q,.inr ⟨rfl,⟨.exit id,⟨b0 _ _ _ _ _ O z,j,T,R⟩,L,M⟩,U⟩⟩
   | goto t=>
    obtain⟨q,i,O⟩:=hp;have⟨hr,L,M,z,U,j,T,R⟩:=fin (some (.goto t)) q r i;exact⟨_,_,hr,q,.inr ⟨rfl,⟨.goto t,⟨b0 _ _ _ _ _ O z,j,T,R⟩,L,M⟩,U⟩⟩
   | panic ch=>exact hp.elim
   | outgrown=>exact hp.elim
  ·-- BEHIND THE ITERATOR
   rintro e W2 ⟨⟨v,rfl⟩,(⟨xs,G,hS,⟨hi,c8,X,H⟩,hl,hk⟩ | ⟨pre,G,m6,c,⟨hi,c8,X,H⟩,hl,hk⟩)⟩
   ·refine⟨none,_,by have:=run_endLoop (P:=P) hl (by rw[f];simp);rw[f] at this;exact this,hdone _ xs G _ (qhv _) hS (hI _ _ _ _ hi (kD _ (by omega) H)) ((qmC (by omega)).trans hk) X⟩
   ·refine⟨some c,_,by have:=run_endLoop (P:=P) hl (by rw[f];simp);rw[f] at this;exact this,hstop _ c pre G _ (qhv _) m6 (b0 c _ _ _ _ hi (kD _ (by omega) H)) ((qmC (by omega)).trans hk) X⟩
end
end
end Go
namespace Go.Proofs.YtidgnkmjgioapaaGreat
section
open Go.RowKit
def qco:∀m:Fin 32,∀n:Fin 5,m.1.testBit n.1=false->bits .andNot .u8 ((m.1 ||| 2 ^ n.1:Nat):Int) ((2 ^ n.1:Nat):Int)=(m.1:Int):=by decide
def q9x{m n:Nat}(hm:m<32)(a:n<5)(h:m.testBit n=false):bits .andNot .u8 ((m ||| 2 ^ n:Nat):Int) ((2 ^ n:Nat):Int)=(m:Int):=qco ⟨m,hm⟩ ⟨n,a⟩ h
def Popped(d c:Nat)(g:Option qiG)(k b m:Nat)(w a:qhr):Prop :=
 a.os=w.os/\a.tape=w.tape/\a.output=w.output/\a.heap=((w.setCell d (.slice g k b)).setCell c (.int .u8 m)).heap
def qdm(i f j:Nat)(g:Option qiG)(k d m n:Nat)(w:qhr)(c:n<5)(hm:m<32)(O:m.testBit n=false)(v:k<1000000)(C:k+1<=d)(p:i≠f)(t:i≠j)(z:w.heap[i]?=some (.cells #[.slice g (k+1) d] 29 (0,0)))(y:w.heap[f]?=some (.cells #[.int .u8 (m ||| 2 ^ n:Nat)] 130 (0,0)))(G:w.heap[j]?=some (.cells #[n] 3 (0,0)))(u:FrameMode) :CallsD Ya 152 #[.pointer (some i),.pointer (some f),.pointer (some j)] u w λe I l=>I=u/\e=.returned (.tuple #[]) /\Popped i f g k d m w l:=by
 have T:w.cell? i=some (.slice g (k+1) d):=q8 (o:=0) z rfl;have H:w.cell? f=some (.int .u8 (m ||| 2 ^ n:Nat)):=q8 (o:=0) y rfl;have P:w.cell? j=some (.int .i64 n):=q8 (o:=0) G rfl;have S:=qn (o:=0) z;have Q:=qn (o:=0) y;have q:=q9x hm c O;have L:IntKind.i64.wrap ((k:Int)+1 - 1)=(k:Int):=by rw[show(k:Int)+1 - 1=k by omega];exact qin _ (by omega)
 have A:IntKind.i64.wrap (k:Int)=(k:Int):=qin _ (by omega);have N:(k:Int)<=(d:Int):=by omega
 have B:f≠i:=λe=>p e.symm;clear z y G;refine callsD_of_wp (R:=λe l=>e=.returned (.tuple #[])/\Popped i f g k d m w l) Tp.x152 rfl ?_;simp only[Tryz.ntmps152,qim,qhE,qi1,qib,qiA,qie,qif,qio,ql1,qii,qi7];generalize F:((m ||| 2 ^ n:Nat):Int)=M at H q;generalize D:((2 ^ n:Nat):Int)=N2 at q;have⟨r,U⟩:=qE D F;clear D F;have v:∀(W:qhr) (x:qhu),(W.cell? f=some (.int .u8 M)/\W.cell? j=some (.int .i64 n))->((W.setCell i x).cell? f=some (.int .u8 M)/\(W.setCell i x).cell? j=some (.int .i64 n)):=λW x h=>
  ⟨by rw[qjz _ _ _ _ (λe=>p (congrArg qph e))];exact h.1,by rw[qjz _ _ _ _ (λe=>t (congrArg qph e))];exact h.2⟩
 have b:=qhp v;clear v;go_wp2_with (fail);refine qz 10 (λl=>l.cell? f=some (.int .u8 M)/\l.cell? j=some (.int .i64 n)) (by kernel_rfl) (by kernel_rfl) ⟨H,P⟩ (λhHeld=>?_);simp only[qhE,qi1,qib,qiA,qi6,qie,qif,qio,qii,qi7];refine tk 5 (h:=tk 6 (h:=?_));try go_frame
 refine rdy [0,1,7] ?_;refine cns 0 (λK a=>?_) ?_
 ·skip;go_simp;refine a.out _ _ (by first | exact hHeld | exact b.out _ _ hHeld) (λhHeld=>?_);try go_frame
  refine rdy [1,7] ?_;refine cns 1 (λK a=>?_) ?_
  ·skip;go_simp;refine a.out _ _ (by first | exact hHeld | exact b.out _ _ hHeld) (λhHeld=>?_);refine tk 2 (h:=tk 3 (h:=tk 4 (h:=?_)));try go_frame
   refine rdc 7 λK a=>?_;go_simp;go_at_call 153;refine(xO n _ c).mono ?_;rintro e s ⟨rfl,rfl⟩;rw[r];refine a.out _ _ (by first | exact hHeld | exact b.out _ _ hHeld) (λhHeld=>?_);refine tk 8 (h:=?_);try go_frame
   refine rdc 9 λK a=>?_;go_simp;refine a.out _ _ (by first | exact hHeld | exact b.out _ _ hHeld) (λhHeld=>?_);try go_frame
   refine⟨by kernel_rfl,?_⟩;simp only[qig,qit];go_wp2;go_end0;exact⟨rfl,rfl,rfl,rfl,rfl⟩
  refine cns 7 (λK a=>?_) ?_
  ·skip;go_simp;go_at_call 153;refine(xO n _ c).mono ?_;rintro e s ⟨rfl,rfl⟩;rw[r];refine a.out _ _ (by first | exact hHeld | exact b.out _ _ hHeld) (λhHeld=>?_);refine tk 8 (h:=?_);try go_frame
   refine rdc 1 λK a=>?_;go_simp;refine a.out _ _ (by first | exact hHeld | exact b.out _ _ hHeld) (λhHeld=>?_);refine tk 2 (h:=tk 3 (h:=tk 4 (h:=?_)));try go_frame
   refine rdc 9 λK a=>?_;go_simp;refine a.out _ _ (by first | exact hHeld | exact b.out _ _ hHeld) (λhHeld=>?_);try go_frame
   refine⟨by kernel_rfl,?_⟩;simp only[qig,qit];go_wp2;go_end0;exact⟨rfl,rfl,rfl,rfl,rfl⟩
  exact qP.nil
 refine cns 1 (λK a=>?_) ?_
 ·skip;go_simp;refine a.out _ _ (by first | exact hHeld | exact b.out _ _ hHeld) (λhHeld=>?_);refine tk 2 (h:=tk 3 (h:=?_));try go_frame
  refine rdy [0,7] ?_;refine cns 0 (λK a=>?_) ?_
  ·skip;go_simp;refine a.out _ _ (by first | exact hHeld | exact b.out _ _ hHeld) (λhHeld=>?_);refine tk 4 (h:=?_);try go_frame
   refine rdc 7 λK a=>?_;go_simp;go_at_call 153;refine(xO n _ c).mono ?_;rintro e s ⟨rfl,rfl⟩;rw[r];refine a.out _ _ (by first | exact hHeld | exact b.out _ _ hHeld) (λhHeld=>?_);refine tk 8 (h:=?_);try go_frame
   refine rdc 9 λK a=>?_;go_simp;refine a.out _ _ (by first | exact hHeld | exact b.out _ _ hHeld) (λhHeld=>?_);try go_frame
   refine⟨by kernel_rfl,?_⟩;simp only[qig,qit];go_wp2;go_end0;exact⟨rfl,rfl,rfl,rfl,rfl⟩
  refine cns 7 (λK a=>?_) ?_
  ·skip;go_simp;go_at_call 153;refine(xO n _ c).mono ?_;rintro e s ⟨rfl,rfl⟩;rw[r];refine a.out _ _ (by first | exact hHeld | exact b.out _ _ hHeld) (λhHeld=>?_);refine tk 8 (h:=?_);try go_frame
   refine rdc 0 λK a=>?_;go_simp;refine a.out _ _ (by first | exact hHeld | exact b.out _ _ hHeld) (λhHeld=>?_);refine tk 4 (h:=?_);try go_frame
   refine rdc 9 λK a=>?_;go_simp;refine a.out _ _ (by first | exact hHeld | exact b.out _ _ hHeld) (λhHeld=>?_);try go_frame
   refine⟨by kernel_rfl,?_⟩;simp only[qig,qit];go_wp2;go_end0;exact⟨rfl,rfl,rfl,rfl,rfl⟩
  exact qP.nil
 refine cns 7 (λK a=>?_) ?_
 ·skip;go_simp;go_at_call 153;refine(xO n _ c).mono ?_;rintro e s ⟨rfl,rfl⟩;rw[r];refine a.out _ _ (by first | exact hHeld | exact b.out _ _ hHeld) (λhHeld=>?_);refine tk 8 (h:=?_);try go_frame
  refine rdy [0,1] ?_;refine cns 0 (λK a=>?_) ?_
  ·skip;go_simp;refine a.out _ _ (by first | exact hHeld | exact b.out _ _ hHeld) (λhHeld=>?_);refine rdc 1 λK a=>?_;go_simp;refine a.out _ _ (by first | exact hHeld | exact b.out _ _ hHeld) (λhHeld=>?_);refine tk 2 (h:=tk 3 (h:=tk 4 (h:=?_)));try go_frame
   refine rdc 9 λK a=>?_;go_simp;refine a.out _ _ (by first | exact hHeld | exact b.out _ _ hHeld) (λhHeld=>?_);try go_frame
   refine⟨by kernel_rfl,?_⟩;simp only[qig,qit];go_wp2;go_end0;exact⟨rfl,rfl,rfl,rfl,rfl⟩
  refine cns 1 (λK a=>?_) ?_
  ·skip;go_simp;refine a.out _ _ (by first | exact hHeld | exact b.out _ _ hHeld) (λhHeld=>?_);refine tk 2 (h:=tk 3 (h:=?_));try go_frame
   refine rdc 0 λK a=>?_;go_simp;refine a.out _ _ (by first | exact hHeld | exact b.out _ _ hHeld) (λhHeld=>?_);refine tk 4 (h:=?_);try go_frame
   refine rdc 9 λK a=>?_;go_simp;refine a.out _ _ (by first | exact hHeld | exact b.out _ _ hHeld) (λhHeld=>?_);try go_frame
   refine⟨by kernel_rfl,?_⟩;simp only[qig,qit];go_wp2;go_end0;exact⟨rfl,rfl,rfl,rfl,rfl⟩
  exact qP.nil
 exact qP.nil
def RowsIn(b c:Nat)(w:qhr)(v:qhu)(L:List (List Int)):Prop :=
 ∃base a,v=.slice base L.length a/\(L.length:Int)<=1000000 /\
  (L≠[]->∃B o d e,base=some ⟨B,o,none⟩/\b<=B/\B<c/\w.heap[B]?=some (.cells d 29 e) /\
   ∀i,i<L.length->∃l x,L[i]?=some l/\d[o+i]?=some x/\qg b c w x l)
def RowsIn.kept{d a:Nat}{w w':qhr}{v:qhu}{L:List (List Int)}{row:Option Nat}(h:RowsIn d a w v L)(p:w.gb w' row)(k:∀R,row=some R->R<d\/a<=R:=by simp):RowsIn d a w' v L:=by
 obtain⟨base,j,rfl,q,f⟩:=h;refine⟨base,j,rfl,q,λg=>?_⟩;have⟨B,o,F,u,D,C,A,z,y⟩:=f g;refine⟨B,o,F,u,D,C,A,blk p (λe=>by have:=k B e.symm;omega) z,λi a=>?_⟩;have⟨l,x,t,s,r⟩:=y i a;exact⟨l,x,t,s,r.kept p k⟩
def RowsIn.mono{f c a b:Nat}{w:qhr}{v:qhu}{L:List (List Int)}(h:RowsIn f c w v L)(r:a<=f)(q:c<=b):RowsIn a b w v L:=by
 obtain⟨base,e,rfl,j,g⟩:=h;refine⟨base,e,rfl,j,λd=>?_⟩;have⟨B,o,z,s,y,C,A,u,t⟩:=g d;refine⟨B,o,z,s,y,by omega,by omega,u,λi c=>?_⟩;have⟨l,x,p,n,k⟩:=t i c;exact⟨l,x,p,n,k.mono r q⟩
def RowsIn.cell{c b:Nat}{w:qhr}{v:qhu}{L:List (List Int)}(h:RowsIn c b w v L):∃base a,v=.slice base L.length a/\(L.length:Int)<=1000000 /\(L≠[]->∃B o,base=some ⟨B,o,none⟩/\c<=B/\B<b/\B<w.heap.size/\∀i,i<L.length->∃l x,L[i]?=some l/\w.cell? ⟨B,o+i,none⟩=some x/\qg c b w x l):=by
 obtain⟨base,a,rfl,g,d⟩:=h;refine⟨base,a,rfl,g,λe=>?_⟩;have⟨B,o,y,u,t,s,r,f,q⟩:=d e;refine⟨B,o,t,s,r,(qhs.1 f).1,λi b=>?_⟩;have⟨l,x,n,k,j⟩:=q i b;exact⟨l,x,n,by simp[qiq,f,k],j⟩
def q2s(la ha lb hb:Nat)(P O:qhu)(a b:List (List Int))(w:qhr)(R:RowsIn la ha w P a)(Q:RowsIn lb hb w O b) :qis Ya 65 #[P,O] w λe B=>e=.returned (.bool (decide (a=b)))/\w.gb B none:=by
 obtain⟨ba,ca,rfl,d5,v⟩:=R.cell;obtain⟨bb,cb,rfl,c9,S⟩:=Q.cell;have⟨H1,H2⟩:=qE v S;clear v S R Q;by_cases c:a.length=b.length
 ·have X:=qhp c;have h:((a.length:Int) != (b.length:Int))=false:=by rw[c];simp
  clear c;go_enter Tp.x65,Tryz.ntmps65;go_wp2;go_loopw [5] (λG wr=>∃k:Nat,G=.int .i64 k/\k<=a.length/\(∀i,i<k->a[i]?=b[i]?)/\w.gb wr none) (λG _=>(a.length - qiF G).toNat)
  case atStart=>exact⟨0,rfl,by omega,λi C=>absurd C (by omega),qhD _ _⟩
  case round=>
   obtain⟨k,rfl,hk,o,j⟩:=hrel;have⟨A,N⟩:=qE o j;clear o;by_cases g:k<a.length
   ·have f:k<b.length:=by have:=X.out;omega
    obtain⟨A1,o1,rfl,e9,e8,e7,u⟩:=H1.out (by intro e;rw[e] at g;simp at g);obtain⟨B1,o2,rfl,e6,e5,e4,s⟩:=H2.out (by intro e;rw[e] at f;simp at f);have⟨p,x,U,n,I⟩:=u k g;have⟨q,y,T,l,H⟩:=s k f;have x1:=j.cl n;have y1:=j.cl l;have d6:(k:Int)<(b.length:Int):=by omega
    have d7:(k:Int)<(a.length:Int):=by omega
    have⟨Z,Y⟩:=qE U T;have W:=qhp (I.kept j);have V:=qhp (H.kept j);obtain⟨xb,xc,rfl,-,-⟩:=I.cell;obtain⟨yb,yc,rfl,-,-⟩:=H.cell;have D:=qhp (qi8 x1 y1);clear u s j U T n l I H;go_upto_region 6 with(fail);go_region_held3 (λB=>B.cell? ⟨A1,o1+k,none⟩=some (.slice xb p.length xc)/\B.cell? ⟨B1,o2+k,none⟩=some (.slice yb q.length yc))
     (first | exact D)
     (first
      | (go_at_call 31;refine(yj _ _ _ _ _ _ p q _ (by first | exact W | exact W.kept (qe _ none)) (by first | exact V | exact V.kept (qe _ none))).mono ?_;rintro e w5 ⟨rfl,L⟩;have F:=qhp (show wr.gb w5 none by first | exact L | exact(qe _ _).t L);replace D:=qhp (qi8 (F.cl D.1) (F.cl D.2));clear L))
    all_goals
     rename_i hHeld
     clear hHeld
    all_goals
     by_cases d:p=q
     ·have r:decide (p=q)=true:=by simpa using d
      have M:=qhp d;clear d;rw[r];clear r;go_wp2;go_roundw
      case rel=>
       refine⟨k+1,by simp,by omega,λi C=>?_,N.t F⟩;by_cases e:i=k
       ·rw[e,Z,Y,M]
       ·exact A i (by omega)
      case measure=>simp[qiF];omega
     ·have r:decide (p=q)=false:=by simpa using d
      have z:=qhp (show decide (a=b)=false by
       rw[decide_eq_false_iff_not];intro e;have v:=Z.out;rw[e,Y] at v;exact d (by cases v;rfl))
      clear d;rw[r];clear r;go_wp2;go_ret;exact⟨by rw[z];rfl,N.t F⟩
   ·obtain rfl:k=a.length:=by omega
    have z:=qhp (show decide (a=b)=true by
     rw[decide_eq_true_eq];refine qnj λi=>?_;by_cases C:i<a.length
     ·exact A i C
     ·rw[qjp (by omega),qjp (by have:=X.out;omega)])
    clear j;go_wp2;go_ret;exact⟨by rw[z];rfl,N⟩
 ·have z:=qhp (show decide (a=b)=false by
   rw[decide_eq_false_iff_not];intro e;exact c (by rw[e]))
  have h:((a.length:Int) != (b.length:Int))=true:=by simp;omega
  clear c;go_enter Tp.x65,Tryz.ntmps65;go_wp2;go_ret;exact⟨by rw[z];rfl,qhD _ _⟩
end
end Go.Proofs.YtidgnkmjgioapaaGreat
namespace Go
section
section
variable{l m:Nat}{P:qhF}{md:qlv}{ops:Array qjn}{Q:Exit->Act->qhr->Prop}
def Oper.wpIn_of_wp{o:qjn}{a:Act}{w:qhr}{K:Act->qhr->Prop}(j:∀c,o.op≠.defer c)(h:o.wp P a w K Q):o.wpIn (Fence.wide.inRound l) m P a w K Q:=by
 refine⟨λf _=>trivial,?_⟩;rw[show o.semAt (Fence.wide.inRound l).round a.eval=qkA a.eval o from Oper.semAt_some l _ _ j];unfold Oper.wp at h;generalize (qkA a.eval o).run P w=r at h ⊢;cases r with
 | ok x i=>
  cases x with
  | enter f b=>exact⟨(λe=>(by cases e)),CallsIn.inRound l (qjA.2 h)⟩
  | row r b=>
   refine⟨(λe=>(by cases e)),λc p _=>?_⟩;have⟨v,g,n,k⟩:=h c p;exact⟨v,g,n,stepsIn_wide.2 k⟩
  | value v=>exact h
  | skip=>exact h
  | defer d=>exact h
  | _=>exact h.elim
 | halt x i=>cases x<;>first | exact h | exact h.elim
def Yx(d:¬ LetsOut Q)(e:∀(i:Nat) (o:qjn),ops[i]?=some o->∀c,o.op≠.defer c){i:Nat}{K:Act->qhr->Prop}{a:Act}{w:qhr}(h:wpOp P ops Q i K a w):wpOpIn (Fence.wide.inRound l) m P ops Q i K a w:=by
 unfold wpOp at h;unfold wpOpIn;cases ho:ops[i]? with
 | none=>rw[ho] at h;exact h
 | some o=>
  rw[ho] at h;dsimp only at h ⊢;split
  ·rename_i b
   rw[if_pos b] at h;rcases h with h | h
   ·exact Oper.wpIn_of_wp (e i o ho) h
   ·exact absurd h.2 d
  ·rename_i b
   rw[if_neg b] at h;exact⟨λf _=>trivial,h⟩
def vG(b:¬ LetsOut Q)(d:∀(i:Nat) (o:qjn),ops[i]?=some o->∀c,o.op≠.defer c):∀(f:Nat) (listed:Array Bool) (a:Act) (w:qhr),wpAny P md ops Q f listed a w->wpAnyIn (Fence.wide.inRound l) m P md ops Q f listed a w
 | 0,listed,a,w,h=>h
 | f+1,listed,a,w,h=>⟨h.1,λi g=>Yx b d (wpOp_mono (λk e j=>vG b d f _ k e j) (h.2 i g))⟩
def q7g(ops:List qjn):Bool:=ops.all λo=>match o.op with | .defer _=>false | _=>true
def q2p{ops:List qjn}(h:q7g ops=true)(i:Nat)(o:qjn)(a:ops.toArray[i]?=some o):∀c,o.op≠.defer c:=by
 intro c;have:=qiB.1 h o (by rw[qou] at a;exact qi9 a);intro e;rw[e] at this;cases this
def KY{id:Nat}{a:Act}{w:qhr}{b:List qjn}(c:¬ LetsOut Q)(i:q7g b=true)(n:Nat)(S:qhr->Prop)(hm:P.follows .mixedOrders=true)(f:decide (n<=b.length)=true)(k:S w.drew)(h:S w.drew->zN P .any b.toArray Q S n (λlisted a w=>qmH .any b.toArray (b.length - n) n listed=true/\wpList P b.toArray Q (b.drop n) a w) n (qiE b.length false) a w.drew) :(Code.region id b.toArray true).wpIn (Fence.wide.inRound l) m P Q a w:=by
 have e:n<=b.length:=by simpa using f
 refine wpIn_region_any hm ?_;refine vG c (q2p i) _ _ _ _ ?_;have:=jY (g:=b.length - n) (λlisted a w d=>by
  have:=qrg (md:=.any) (Q':=Q) (ops:=b.toArray) (b.drop n) n listed a w (λj=>by simp[qlA]) (by rw[qlc];exact d.1) d.2
  rwa [qlc] at this) _ _ _ _ (h k)
 rw[show n+(b.length - n)=b.toArray.size by simp;omega] at this;simpa using this
end
end
end Go
namespace Go.Proofs.YtidgnkmjgioapaaGreat
section
open Go Go.Conc.Lib
abbrev link:Go.Conc.Lib.WgLink:={ add:=138,done:=140,wait:=144,relMerge:=166,disable:=167,enable:=168,inBubble:=169,associate:=170,fatal:=171,uOr:=172,uAdd:=173,raceRead:=174,uLoad:=175,uStore:=176,disassociate:=177,semrelease:=178,acquire:=183,isAssociated:=184,uCas:=185,raceWrite:=186,semacquire:=187,orU64:=201,addU64:=202,loadU64:=203,storeU64:=204,casU64:=205,tWgP:=184,tUP:=186,tAssoc:=187,tWg:=166,tAU:=164,tU64:=87,tUint:=177,tU32:=159,tPU32:=191,tPAU:=217,tPU64:=219,tNoCopy:=162,tANoCopy:=155,tAlign64:=156 }
def Yy:Go.Conc.Lib.WgLib qi2 link :=
 ⟨Tryz.func138,Tryz.func140,Tryz.func144,Tryz.func166,Tryz.func167,Tryz.func168,Tryz.func169,Tryz.func170,Tryz.func171,Tryz.func172,Tryz.func173,Tryz.func174,Tryz.func175,Tryz.func176,Tryz.func177,Tryz.func178,Tryz.func183,Tryz.func184,Tryz.func185,Tryz.func186,Tryz.func187,Tryz.func201,Tryz.func202,Tryz.func203,Tryz.func204,Tryz.func205,Tryz.underlying184,Tryz.runUnderlying184,Tryz.sizeOf184,Tryz.isAgg184,Tryz.zeroValue184,Tryz.underlying186,Tryz.runUnderlying186,Tryz.sizeOf186,Tryz.isAgg186,Tryz.zeroValue186,Tryz.underlying187,Tryz.runUnderlying187,Tryz.sizeOf187,Tryz.isAgg187,Tryz.zeroValue187,Tryz.underlying166,Tryz.runUnderlying166,Tryz.sizeOf166,Tryz.isAgg166,Tryz.zeroValue166,Tryz.underlying164,Tryz.runUnderlying164,Tryz.sizeOf164,Tryz.isAgg164,Tryz.zeroValue164,Tryz.underlying87,Tryz.runUnderlying87,Tryz.sizeOf87,Tryz.isAgg87,Tryz.zeroValue87,Tryz.underlying177,Tryz.runUnderlying177,Tryz.sizeOf177,Tryz.isAgg177,Tryz.zeroValue177,Tryz.underlying159,Tryz.runUnderlying159,Tryz.sizeOf159,Tryz.isAgg159,Tryz.zeroValue159,Tryz.underlying191,Tryz.runUnderlying191,Tryz.sizeOf191,Tryz.isAgg191,Tryz.zeroValue191,Tryz.underlying217,Tryz.runUnderlying217,Tryz.sizeOf217,Tryz.isAgg217,Tryz.zeroValue217,Tryz.underlying219,Tryz.runUnderlying219,Tryz.sizeOf219,Tryz.isAgg219,Tryz.zeroValue219,Tryz.underlying0,Tryz.runUnderlying0,Tryz.sizeOf0,Tryz.isAgg0,Tryz.zeroValue0,qmD,Tryz.runUnderlying3,Tryz.sizeOf3,Tryz.isAgg3,Tryz.zeroValue3,Tryz.underlying4,Tryz.runUnderlying4,Tryz.sizeOf4,Tryz.isAgg4,Tryz.zeroValue4,Tryz.underlying9,Tryz.runUnderlying9,Tryz.sizeOf9,Tryz.isAgg9,Tryz.zeroValue9,Tryz.underlying20,Tryz.runUnderlying20,Tryz.sizeOf20,Tryz.isAgg20,Tryz.zeroValue20,Tryz.underlying21,Tryz.runUnderlying21,Tryz.sizeOf21,Tryz.isAgg21,Tryz.zeroValue21,(by kernel_rfl),(by kernel_rfl)⟩
end
section
open Go.RowKit
def YOk.be{b:List Par}{a:Int}(h:YOk b a):∀p∈b,0<=p.bears/\p.bears<=1000:=λp c=>by
 have:=h.each p c;omega
def q1t{w:qhr}{R Y o:Nat}{u v x:qhu}(a:Y≠R)(h:w.cell? ⟨Y,o,none⟩=some x):((w.setCell R u).setCell ⟨R,1,none⟩ v).cell? ⟨Y,o,none⟩=some x:=by
 rw[qjz _ _ _ _ (λe=>a (congrArg qph e).symm),qjz _ _ _ _ (λe=>a (congrArg qph e).symm)];exact h
def Zk(a:List Par)(l:List Int):qhu :=
 if zY a (pre Par.mn a a.length) l l.length<0\/l.length=0 then .tuple #[.agg #[.int .i64 0,.int .i64 0],.int .i64 11]
 else .tuple #[.agg #[.int .i64 (max (-1) (zY a (pre Par.mx a a.length) l l.length)),(zY a (pre Par.mn a a.length) l l.length)],.int .i64 0]
def q8j(F x:Nat)(pv qv:qhu)(c:List Par)(d:Int)(l:List Int)(w:qhr)(hP:qr F x w pv c)(hI:qg F x w qv l)(n3:x<=w.heap.size)(a8:YOk c d)(hp:POk c d l) :qis Ya 36 #[.agg #[pv,d],qv] w λe k=>e=.returned (Zk c l)/\w.gb k none:=by
 obtain⟨O,N,rfl,m9,-⟩:=hP.cell;obtain⟨base,k5,rfl,n2,-⟩:=hI.cell;have⟨A,w1,hA,a6,H,T,b8,g8⟩:=zy w (.cells #[.slice O c.length N,d] 24) (.cells #[.int .i64 0,.int .i64 0] 26);have d6:=qhp (hI.kept H);have c9:=qhp (hP.kept H);have⟨k6,HA,l6,k9⟩:=j8 a6 hA H b8;have q0:=q8 T (o:=0) rfl;have q1:=q8 T (o:=1) rfl;have n4:x<=A:=by omega
 have⟨L,C⟩:=qE a8 hp;clear hP hI a8 hp a6 hA H T b8;go_enter Tp.x36,Tryz.ntmps36;go_upto_region 1 with(fail);rw[<- HA,<- k6];go_upto_region 2 with(go_at_call 81;refine(vg F x _ _ c d l _ c9 d6 (by omega) L C).mono ?_;rintro e w2 ⟨rfl,b9⟩;have D:=qhp b9;clear b9);have g7:=D.out.size;obtain⟨Y,G⟩:∃Y,Y=w2.heap.size:=⟨_,rfl⟩;obtain⟨g,y⟩:∃g,g=w2.alloc (.cells #[.slice O c.length N,d] 91):=⟨_,rfl⟩;have B:w2.gb g none:=by rw[y];exact qhq _ _ none
 have c3:g.heap[Y]?=some (.cells #[.slice O c.length N,d] 91 (0,0)):=by rw[y,G];exact qhA _ _
 have g6:g.heap.size=Y+1:=by rw[y,qhH,G]
 rw[<- G,<- y];clear q0 q1;have M:=qhp c3;have d9:=qhp ((l6.t D).t B);have f:=qhp (bk B (blk D (by simp) k9));have l5:=qhp ((d6.kept D).kept B);have l4:=qhp ((c9.kept D).kept B);have n6:A+1<Y:=by omega
 have q:x<=g.heap.size:=by omega
 clear B c3 y G g8 g7 g6;have s0:=q8 M (o:=0) rfl;have s1:=q8 M (o:=1) rfl;have s2:=q8 f (o:=0) rfl;have s3:=q8 f (o:=1) rfl;have z0:=qn (o:=0) f;have z1:=qn (o:=1) f;go_upto_region 4 with(fail);have b:=qhp (qhD g none);have Z:∀W,g.gb W none->jf F x W (.agg #[.slice O c.length N,d]) c d:=λW h=>⟨_,rfl,l4.kept h⟩;have a9:∀W,g.gb W none->qg F x W (.slice base l.length k5) l:=λW h=>l5.kept h;have a7:∀W,g.gb W none->W.cell? Y=some (.slice O c.length N)/\W.cell? ⟨Y,1,none⟩=some (.int .i64 d)/\W.cell? (A+1:Nat)=some (.int .i64 0)/\W.cell? ⟨A+1,1,none⟩=some (.int .i64 0)/\W.frozen? ⟨A+1,0,none⟩=false/\W.frozen? ⟨A+1,1,none⟩=false:=λW h=>
  ⟨q8 (bk h M) rfl,q8 (bk h M) rfl,q8 (bk h f) rfl,q8 (bk h f) rfl,qn (bk h f),qn (bk h f)⟩
 have⟨I,d5,u⟩:=ze Z a9 a7;clear Z a9 a7;have p:=qhp (u g (qhD g none));obtain⟨U,S⟩:∃U,U=pre Par.mn c c.length:=⟨_,rfl⟩;obtain⟨gx,R⟩:∃gx,gx=pre Par.mx c c.length:=⟨_,rfl⟩;have b6:∀i,0<=U i/\U i<=1000:=by rw[S];exact L.mn
 have b0:∀i,0<=gx i/\gx i<=1000:=by rw[R];exact L.mx
 have⟨d8,d7,e5,e4⟩:=j8 S R b6 b0;clear S R b6 b0;go_region_held3 (λk=>k.cell? Y=some (.slice O c.length N)/\k.cell? ⟨Y,1,none⟩=some (.int .i64 d)/\k.cell? (A+1:Nat)=some (.int .i64 0)/\k.cell? ⟨A+1,1,none⟩=some (.int .i64 0)/\k.frozen? ⟨A+1,0,none⟩=false/\k.frozen? ⟨A+1,1,none⟩=false)
  (first | exact p)
  (first
   | (go_at_call 93;refine(QN F x _ c d _ (I _ (by first | exact b | exact b.t (qe _ _))) (qhB q (by first | exact b.size | exact(b.t (qe _ none)).size)) L.len).mono ?_;rintro e r ⟨rfl,n⟩;rw[<- d8];replace b:=qhp (show g.gb r none by first | exact b.t n | exact(b.t (qe _ _)).t n);replace p:=qhp (u r b);clear n)
   | (go_at_call 94;refine(q14 F x _ _ c d l _ _ (I _ (by first | exact b | exact b.t (qe _ _))) (d5 _ (by first | exact b | exact b.t (qe _ _))) (qhB q (by first | exact b.size | exact(b.t (qe _ none)).size)) L.len C.ok (by have:=C.out.len;omega) (by first | exact e5 | exact e4) L.be).mono ?_;rintro e r ⟨rfl,n⟩;replace b:=qhp (show g.gb r none by first | exact b.t n | exact(b.t (qe _ _)).t n);replace p:=qhp (u r b);clear n))
 have k8:=qhp (show r.cell? Y=some (.slice O c.length N)/\r.cell? ⟨Y,1,none⟩=some (.int .i64 d)/\r.cell? (A+1:Nat)=some (.int .i64 0)/\r.cell? ⟨A+1,1,none⟩=some (.int .i64 0)/\r.frozen? ⟨A+1,0,none⟩=false/\r.frozen? ⟨A+1,1,none⟩=false from p);have V:=qhp (show Zk c l=if zY c U l l.length<0\/l.length=0 then .tuple #[.agg #[.int .i64 0,.int .i64 0],.int .i64 11] else .tuple #[.agg #[.int .i64 (max (-1) (zY c gx l l.length)),(zY c U l l.length)],.int .i64 0] by rw[d8,d7];rfl);obtain⟨a,ha⟩:∃a,a=zY c U l l.length:=⟨_,rfl⟩;rw[<- ha] at V ⊢;have n7:=qhp ha;clear ha
 rename_i hHeld
 clear hHeld;clear s0 s1 s2 s3 z0 z1;have⟨s0,s1,s2,s3,z0,z1⟩:=k8.out;have P:∀(k:qhr),r.gb k (some (A+1))->w.gb k none:=λk h=>(d9.t b).andThen h (λj e=>by cases e;left;rw[<- HA];omega);have Q:=qhp P;clear P;by_cases h1:a<0
 ·have z:Zk c l=.tuple #[.agg #[.int .i64 0,.int .i64 0],.int .i64 11]:=by rw[V,if_pos (.inl h1)]
  have s:=qhp z;clear z V;go_wp2;refine qka (v:=.tuple #[.agg #[.int .i64 0,.int .i64 0],.int .i64 11]) ?_ rfl ⟨by rw[s],Q _ ((qh _ _ _ _).t (qh _ _ _ _))⟩;rw[qpy rfl];go_simp
 ·by_cases h2:l.length=0
  ·have z:Zk c l=.tuple #[.agg #[.int .i64 0,.int .i64 0],.int .i64 11]:=by rw[V,if_pos (.inr h2)]
   have s:=qhp z;have k0:((l.length:Int) == 0)=true:=by simp[h2]
   clear z V h2;go_wp2;refine qka (v:=.tuple #[.agg #[.int .i64 0,.int .i64 0],.int .i64 11]) ?_ rfl ⟨by rw[s],Q _ ((qh _ _ _ _).t (qh _ _ _ _))⟩;rw[qpy rfl];go_simp
  ·have z:Zk c l=.tuple #[.agg #[.int .i64 (max (-1) (zY c gx l l.length)),a],.int .i64 0]:=by rw[V,if_neg (by rintro(h | h);exact h1 h;exact h2 h)]
   have s:=qhp z;have k0:((l.length:Int) == 0)=false:=by rw[beq_eq_false_iff_ne];omega
   have b7:Y≠A+1:=by omega
   clear z V h2;go_upto_region 7 with(fail);have p:=qhp (u r b);clear s2 s3 z0 z1;go_region_held3 (λk=>k.cell? Y=some (.slice O c.length N)/\k.cell? ⟨Y,1,none⟩=some (.int .i64 d))
    (first | exact⟨p.1,p.2.1⟩ | exact⟨q1t b7 p.1,q1t b7 p.2.1⟩)
    (first
     | (go_at_call 92;refine(Qo F x _ c d _ (I _ (by first | exact b | exact b.t (qe _ _))) (qhB q (by first | exact b.size | exact(b.t (qe _ none)).size)) L.len).mono ?_;rintro e X ⟨rfl,n⟩;rw[<- d7];replace b:=qhp (show g.gb X none by first | exact b.t n | exact(b.t (qe _ _)).t n);replace p:=qhp (u X b);clear n)
     | (go_at_call 94;refine(q14 F x _ _ c d l _ _ (I _ (by first | exact b | exact b.t (qe _ _))) (d5 _ (by first | exact b | exact b.t (qe _ _))) (qhB q (by first | exact b.size | exact(b.t (qe _ none)).size)) L.len C.ok (by have:=C.out.len;omega) (by first | exact e5 | exact e4) L.be).mono ?_;rintro e X ⟨rfl,n⟩;replace b:=qhp (show g.gb X none by first | exact b.t n | exact(b.t (qe _ _)).t n);replace p:=qhp (u X b);clear n;have r0:=p.out.2.2.1;have r1:=p.out.2.2.2.1;have r2:=p.out.2.2.2.2.1;have r3:=p.out.2.2.2.2.2))
   generalize hm:(if -1<zY c gx l l.length then zY c gx l l.length else -1)=m;have z:Zk c l=.tuple #[.agg #[m,a],.int .i64 0]:=by
    rw[s,show max (-1) (zY c gx l l.length)=m by rw[<- hm];omega]
   have k7:=qhp z;clear z hm s;go_wp2;refine qka (v:=.tuple #[.agg #[m,a],.int .i64 0]) ?_ rfl ⟨by rw[k7],(d9.t b).andThen ((qh _ _ _ _).t (qh _ _ _ _)) (λj e=>by cases e;left;rw[<- HA];omega)⟩;rw[qpy rfl];go_simp
def Tp.info26p:(Ya.info? 26).map (λi=>(i.zero,i.size,i.bytes))=some (some (.agg #[.int .i64 0,.int .i64 0]),2,16):=by kernel_rfl
def Tp.und48:Ya.underlying 48=some (.slice 26):=by rw[Tp.und];exact Tryz.underlying48
def qK(c d:Nat)(w:qhr)(v:qhu)(l:List (Int × Int)):Prop :=
 ∃base b,v=.slice base l.length b/\(l.length:Int)<=1000000 /\
  (l≠[]->∃B o a e,base=some ⟨B,o,none⟩/\c<=B/\B<d/\w.heap[B]?=some (.cells a 26 e) /\
   ∀i,i<l.length->∃p,l[i]?=some p/\a[o+i*2]?=some (.int .i64 p.1)/\a[o+(i*2+1)]?=some (.int .i64 p.2))
def qK.kept{a g:Nat}{w w':qhr}{v:qhu}{j:List (Int × Int)}{row:Option Nat}(h:qK a g w v j)(p:w.gb w' row)(k:∀R,row=some R->R<a\/g<=R:=by simp):qK a g w' v j:=by
 obtain⟨base,i,rfl,l,d⟩:=h;refine⟨base,i,rfl,l,λf=>?_⟩;have⟨B,o,y,q,x,u,t,s,r⟩:=d f;exact⟨B,o,y,q,x,u,t,blk p (λe=>by have:=k B e.symm;omega) s,r⟩
def qK.mono{f g a b:Nat}{w:qhr}{v:qhu}{e:List (Int × Int)}(h:qK f g w v e)(s:a<=f)(r:g<=b):qK a b w v e:=by
 obtain⟨base,d,rfl,j,i⟩:=h;refine⟨base,d,rfl,j,λc=>?_⟩;have⟨B,o,q,k,p,u,t,n,l⟩:=i c;exact⟨B,o,q,k,p,by omega,by omega,n,l⟩
def qK.cell{g c:Nat}{w:qhr}{v:qhu}{b:List (Int × Int)}(h:qK g c w v b):∃base a,v=.slice base b.length a/\(b.length:Int)<=1000000 /\(b≠[]->∃B o,base=some ⟨B,o,none⟩/\g<=B/\B<c/\B<w.heap.size/\∀i,i<b.length->∃p,b[i]?=some p/\w.cell? ⟨B,o+i*2,none⟩=some (.int .i64 p.1)/\w.cell? ⟨B,o+i*2+1,none⟩=some (.int .i64 p.2)):=by
 obtain⟨base,a,rfl,j,d⟩:=h;refine⟨base,a,rfl,j,λe=>?_⟩;have⟨B,o,x,u,t,s,r,f,q⟩:=d e;refine⟨B,o,t,s,r,(qhs.1 f).1,λi c=>?_⟩;have⟨p,n,l,k⟩:=q i c;exact⟨p,n,by simp[qiq,f,l],by simp[qiq,f,qnb,k]⟩
def yr(l:List (Int × Int)):List qhu:=l.flatMap λp=>[.int .i64 p.1,.int .i64 p.2]
def q9z(l:List (Int × Int)):(yr l).length=l.length*2:=by
 unfold yr;induction l with
 | nil=>rfl
 | cons p l a=>simp only[qkl,qj1,a,qhE,qi1];omega
def KN(l:List (Int × Int))(p:Int × Int):yr (l++[p])=yr l++[.int .i64 p.1,.int .i64 p.2]:=by simp[yr]
def q1G:∀(l:List (Int × Int)) (i:Nat),i<l.length->∃p,l[i]?=some p/\(yr l)[i*2]?=some (.int .i64 p.1)/\(yr l)[i*2+1]?=some (.int .i64 p.2)
 | p::l,0,_=>⟨p,rfl,rfl,rfl⟩
 | p::l,i+1,h=>by
  have⟨q,c,b,a⟩:=q1G l i (by simpa using h);refine⟨q,by simpa using c,?_,?_⟩
  ·show([qid .i64 p.1,.int .i64 p.2]++yr l)[(i+1)*2]?=_;rw[qjv (by simp;omega)];rw[<- b];congr 1;simp;omega
  ·show([qid .i64 p.1,.int .i64 p.2]++yr l)[(i+1)*2+1]?=_;rw[qjv (by simp;omega)];rw[<- a];congr 1;simp;omega
def qK.own{k n:Nat}{w:qhr}{v:qhu}{l:List (Int × Int)}(h:w.ownsRow k 26 2 v n (yr l))(o:(l.length:Int)<=1000000):qK k w.heap.size w v l:=by
 obtain⟨e,d⟩:=h;have t:l.length=n:=by rw[q9z] at e;omega
 subst t;rcases d with⟨rfl,r⟩ | ⟨g,f,b,rfl,y,q,B,hm,A,s⟩
 ·exact⟨none,0,by rw[r],o,λc=>absurd (qja r) c⟩
 ·refine⟨_,f,rfl,o,λ_=>⟨g,0,b,(0,0),rfl,y,(qhs.1 q).1,q,λi x=>?_⟩⟩;have⟨p,e,d,z⟩:=q1G l i x;have a:∀j,j<l.length*2->b[j]?=(yr l)[j]?:=λj u=>by
   rw[<- s,qn2,if_pos u];simp
  exact⟨p,e,by rw[qi6,a _ (by omega),d],by rw[qi6,a _ (by omega),z]⟩
def q7D(a b c d:Int)(w:qhr):(Op.equalIn 10000 26 (.agg #[a,b]) (.agg #[c,d])).run Ya w=.ok (decide ((a,b)=(c,d))) w:=by
 have u26:Ya.underlying 26=Tryz.prog.underlying 26:=Tp.und 26;have u3:Ya.underlying 3=some (.int .i64):=by rw[Tp.und];exact qmD
 have f:Ya.underlying 26=some (.struct (Ya.fieldsOf 26)):=by kernel_rfl
 have e:Ya.stoodInHeld 26=false:=by kernel_rfl
 rw[show(10000:Nat)=9999+1 from rfl,run_equalIn_agg w 9999 26 _ _ f e];simp only[Program.fieldsOf,u26,Tryz.underlying26];go_simp;by_cases h:a=c<;>by_cases g:b=d<;>simp[h,g]
def qcr(a b c d:Int)(w:qhr):(binOp .neq 26 (.agg #[a,b]) (.agg #[c,d])).run Ya w=.ok (.bool (!decide ((a,b)=(c,d)))) w:=by
 rw[run_neq_struct,q7D];rfl
def qcs(a b c d:Int)(w:qhr):(binOp .eql 26 (.agg #[a,b]) (.agg #[c,d])).run Ya w=.ok (.bool (decide ((a,b)=(c,d)))) w:=by
 rw[run_eql_struct,q7D];rfl
def KR(c:BinOp)(x y:qiy)(a b:Array qhu)(w:qhr):(eqGuard c 26 x y (.agg a) (.agg b)).run Ya w=.ok () w:=run_eqGuard_agg w c 26 x y a b (by kernel_rfl)
def yJ(a:List Par)(l:List Int):List (Int × Int):=(qil l.length).map λi=>(loadAt (pre Par.mn a a.length) l i,loadAt (pre Par.mx a a.length) l i)
def q0d(Z ha Y hb:Nat)(O N:qhu)(a b:List (Int × Int))(w:qhr)(Q:qK Z ha w O a)(P:qK Y hb w N b) :qis Ya 51 #[O,N] w λe X=>e=.returned (.bool (decide (a=b)))/\w.gb X none:=by
 obtain⟨ba,ca,rfl,a7,D⟩:=Q.cell;obtain⟨bb,cb,rfl,a6,R⟩:=P.cell;have⟨H1,H2⟩:=qE D R;clear D R Q P;by_cases c:a.length=b.length
 ·have U:=qhp c;have h:((a.length:Int) != (b.length:Int))=false:=by rw[c];simp
  clear c;go_enter Tp.x51,Tryz.ntmps51;go_wp2;go_loopw [5] (λI wr=>∃k:Nat,I=.int .i64 k/\k<=a.length/\(∀i,i<k->a[i]?=b[i]?)/\w.gb wr none) (λI _=>(a.length - qiF I).toNat)
  case atStart=>exact⟨0,rfl,by omega,λi H=>absurd H (by omega),qhD _ _⟩
  case round=>
   obtain⟨k,rfl,hk,y,j⟩:=hrel;have⟨G,M⟩:=qE y j;clear y;by_cases g:k<a.length
   ·have f:k<b.length:=by have:=U.out;omega
    obtain⟨A1,o1,rfl,d5,c9,c8,C⟩:=H1.out (by intro e;rw[e] at g;simp at g);obtain⟨B1,o2,rfl,c3,b9,b8,B⟩:=H2.out (by intro e;rw[e] at f;simp at f);have⟨p,T,r,o⟩:=C k g;have⟨q,S,n,l⟩:=B k f;have x1:=j.cl r;have x2:=j.cl o;have y1:=j.cl n;have y2:=j.cl l;obtain⟨x,v⟩:=p;obtain⟨u,s⟩:=q;have a8:(k:Int)<(b.length:Int):=by omega
    have a9:(k:Int)<(a.length:Int):=by omega
    have⟨W,V⟩:=qE T S;clear C B j T S r o n l;have A:=qcr x v u s;have b0:=KR .neq (.tmp 20) (.tmp 24) #[x,v] #[u,s];by_cases d:(x,v)=(u,s)
    ·have z:decide ((x,v)=(u,s))=true:=by simpa using d
     rw[z] at A;have L:=qhp d;clear z d;go_upto_region 6 with(fail);go_quiet (fail);go_wp2;go_roundw
     case rel=>
      refine⟨k+1,by simp,by omega,λi H=>?_,M.t (qk _ _ _)⟩;by_cases e:i=k
      ·rw[e,W,V,L]
      ·exact G i (by omega)
     case measure=>simp[qiF];omega
    ·have z:decide ((x,v)=(u,s))=false:=by simpa using d
     rw[z] at A;have F:=qhp (show decide (a=b)=false by
      rw[decide_eq_false_iff_not];intro e;have D:=W.out;rw[e,V] at D;exact d (by cases D;rfl))
     clear z d;go_upto_region 6 with(fail);go_quiet (fail);go_wp2;go_ret;exact⟨by rw[F];rfl,M.t (qk _ _ _)⟩
   ·obtain rfl:k=a.length:=by omega
    have F:=qhp (show decide (a=b)=true by
     rw[decide_eq_true_eq];refine qnj λi=>?_;by_cases H:i<a.length
     ·exact G i H
     ·rw[qjp (by omega),qjp (by have:=U.out;omega)])
    clear j;go_wp2;go_ret;exact⟨by rw[F];rfl,M⟩
 ·have F:=qhp (show decide (a=b)=false by
   rw[decide_eq_false_iff_not];intro e;exact c (by rw[e]))
  have h:((a.length:Int) != (b.length:Int))=true:=by simp;omega
  clear c;go_enter Tp.x51,Tryz.ntmps51;go_wp2;go_ret;exact⟨by rw[F];rfl,qhD _ _⟩
def q6f(a:List Par)(l:List Int):(yJ a l).length=l.length:=by simp[yJ]
def q4g(a:List Par)(l:List Int)(k:Nat)(h:k<l.length):(yJ a l).take (k+1)=(yJ a l).take k++[(loadAt (pre Par.mn a a.length) l k,loadAt (pre Par.mx a a.length) l k)]:=by
 rw[qj7];simp[yJ,h]
def q8D(D p:Nat)(pv qv:qhu)(c:List Par)(b:Int)(l:List Int)(w:qhr)(hP:qr D p w pv c)(hI:qg D p w qv l)(s7:p<=w.heap.size)(T:YOk c b)(hp:POk c b l) :qis Ya 35 #[.agg #[pv,b],qv] w λe C=>∃v,e=.returned (.tuple #[v,.int .i64 0])/\w.gb C none/\qK w.heap.size C.heap.size C v (yJ c l):=by
 have⟨i0,l7,k8,k7,k6⟩:=qjx Tp.info26p;obtain⟨R,Q,rfl,s2,-⟩:=hP.cell;obtain⟨base,m6,rfl,s6,-⟩:=hI.cell;have⟨A,w1,hA,S,H,Z⟩:=zo w (.cells #[.slice R c.length Q,b] 24);have l5:w1.heap.size=A+1:=by rw[S,qhH,hA]
 have e6:=qhp (hI.kept H);have d9:=qhp (hP.kept H);have⟨m7,HA,n8⟩:=ze S hA H;have q0:=q8 Z (o:=0) rfl;have q1:=q8 Z (o:=1) rfl;have s8:p<=A:=by omega
 have⟨HY,m9⟩:=qE T hp;have l6:l.length<=100:=hp.len;have a9:∀x∈l,0<=x/\x<5:=λx hx=>by have h1:=hp.ok x hx;have h2:=T.len;omega
 have d8:=qhp a9;clear hP hI T hp S hA H Z a9;go_enter Tp.x35,Tryz.ntmps35;go_upto_region 1 with(fail);rw[<- HA,<- m7];go_upto_region 2 with(go_at_call 81;refine(vg D p _ _ c b l _ d9 e6 (by omega) HY m9).mono ?_;rintro e w2 ⟨rfl,c9⟩;have L:=qhp c9;clear c9);have l4:=L.out.size;obtain⟨Y,F⟩:∃Y,Y=w2.heap.size:=⟨_,rfl⟩;obtain⟨f,q⟩:∃f,f=w2.alloc (.cells #[.slice R c.length Q,b] 91):=⟨_,rfl⟩;have G:w2.gb f none:=by rw[q];exact qhq _ _ none
 have d5:f.heap[Y]?=some (.cells #[.slice R c.length Q,b] 91 (0,0)):=by rw[q,F];exact qhA _ _
 have k9:f.heap.size=Y+1:=by rw[q,qhH,F]
 rw[<- F,<- q];clear q0 q1;have M:=qhp d5;have g5:=qhp ((n8.t L).t G);have n6:=qhp ((e6.kept L).kept G);have n2:=qhp ((d9.kept L).kept G);have s9:A<Y:=by omega
 have n:p<=f.heap.size:=by omega
 have s4:w.heap.size<=f.heap.size:=g5.out.size;clear G d5 q F l5 l4 k9;have s0:=q8 M (o:=0) rfl;have s1:=q8 M (o:=1) rfl;go_upto_region 5 with(fail);have a:=qhp (qhD f none);have a8:∀W,f.gb W none->jf D p W (.agg #[.slice R c.length Q,b]) c b:=λW h=>⟨_,rfl,n2.kept h⟩;have b6:∀W,f.gb W none->qg D p W (.slice base l.length m6) l:=λW h=>n6.kept h;have b0:∀W,f.gb W none->W.cell? Y=some (.slice R c.length Q)/\W.cell? ⟨Y,1,none⟩=some (.int .i64 b):=λW h=>
  ⟨q8 (bk h M) rfl,q8 (bk h M) rfl⟩
 have⟨d6,e5,z⟩:=ze a8 b6 b0;clear a8 b6 b0;have P:=qhp (z f (qhD f none));obtain⟨I,V⟩:∃I,I=pre Par.mn c c.length:=⟨_,rfl⟩;obtain⟨gx,U⟩:∃gx,gx=pre Par.mx c c.length:=⟨_,rfl⟩;have b9:∀i,0<=I i/\I i<=1000:=by rw[V];exact HY.mn
 have b8:∀i,0<=gx i/\gx i<=1000:=by rw[U];exact HY.mx
 have⟨e8,e7,g7,g6⟩:=j8 V U b9 b8;clear V U b9 b8;go_region_held3 (λC=>C.cell? Y=some (.slice R c.length Q)/\C.cell? ⟨Y,1,none⟩=some (.int .i64 b))
  (first | exact P)
  (first
   | (go_at_call 92;refine(Qo D p _ c b _ (d6 _ (by first | exact a | exact a.t (qe _ _))) (qhB n (by first | exact a.size | exact(a.t (qe _ none)).size)) HY.len).mono ?_;rintro e w5 ⟨rfl,d⟩;rw[<- e7];replace a:=qhp (show f.gb w5 none by first | exact a.t d | exact(a.t (qe _ _)).t d);replace P:=qhp (z w5 a);clear d)
   | (go_at_call 91;refine(QM D p _ _ l _ _ (e5 _ (by first | exact a | exact a.t (qe _ _))) (qhB n (by first | exact a.size | exact(a.t (qe _ none)).size)) d8 (by omega) (by first | exact g7 | exact g6) ⟨_,_,rfl⟩).mono ?_;rintro e w5 ⟨lv,rfl,d,X⟩;have hc:=X.cell;rw[kv] at hc;obtain⟨mb,mc,rfl,-,-⟩:=hc;have HM:=qhp X;replace a:=qhp (show f.gb w5 none by first | exact a.t d | exact(a.t (qe _ _)).t d);replace P:=qhp (z w5 a);clear d X))
 rename_i wa wm hHeld
 clear hHeld s0 s1;have t1:=qhp a;have s0:=P.out.1;have s1:=P.out.2;go_upto_region 6 with(fail);go_region_held3 (λC=>C.cell? Y=some (.slice R c.length Q)/\C.cell? ⟨Y,1,none⟩=some (.int .i64 b))
  (first | exact P)
  (first
   | (go_at_call 93;refine(QN D p _ c b _ (d6 _ (by first | exact a | exact a.t (qe _ _))) (qhB n (by first | exact a.size | exact(a.t (qe _ none)).size)) HY.len).mono ?_;rintro e B ⟨rfl,d⟩;rw[<- e8];replace HM:=qhp (HM.kept (row:=none) (show World.gb _ B none by first | exact d | exact(qe _ _).t d) (by simp));replace a:=qhp (show f.gb B none by first | exact a.t d | exact(a.t (qe _ _)).t d);replace P:=qhp (z B a);clear d)
   | (go_at_call 91;refine(QM D p _ _ l _ _ (e5 _ (by first | exact a | exact a.t (qe _ _))) (qhB n (by first | exact a.size | exact(a.t (qe _ none)).size)) d8 (by omega) (by first | exact g7 | exact g6) ⟨_,_,rfl⟩).mono ?_;rintro e B ⟨lv,rfl,d,X⟩;have hc:=X.cell;rw[kv] at hc;obtain⟨lb,lc,rfl,-,-⟩:=hc;have HL:=qhp X;replace HM:=qhp (HM.kept (row:=none) (show World.gb _ B none by first | exact d | exact(qe _ _).t d) (by simp));replace a:=qhp (show f.gb B none by first | exact a.t d | exact(a.t (qe _ _)).t d);replace P:=qhp (z B a);clear d X))
 rename_i hHeld
 clear hHeld s0 s1;have y:=HL.out.cell;have u:=HM.out.cell;rw[kv] at y u;obtain⟨_,_,he,-,y⟩:=y;cases he;obtain⟨_,_,he,-,u⟩:=u;cases he;have⟨p3,n9⟩:=qE y u;have e9:=qhp (g5.t a);clear y u;have m3:Hid (∀k,k<l.length->(yr ((yJ c l).take (k+1)))=yr ((yJ c l).take k)++[.int .i64 (loadAt I l k),.int .i64 (loadAt gx l k)]):=qhp λk hk=>by
  rw[q4g c l k hk,KN,e8,e7]
 go_wp2;go_loopw [8,32] (λov iv wr=>∃k:Nat,iv=.int .i64 k/\k<=l.length/\B.gb wr none/\wr.ownsRow B.heap.size 26 2 ov k (yr ((yJ c l).take k))) (λ_ iv _=>(l.length - qiF iv).toNat)
 case atStart=>exact⟨0,rfl,by omega,qhD _ _,by simpa[yr] using qjF _ _ _ _⟩
 case round=>
  obtain⟨k,rfl,hk,hG,hO⟩:=hrel;obtain⟨oa,om,oc,rfl⟩:=zB hO;have⟨HG,HO⟩:=qE hG hO;have s5:=hG.size;by_cases r:k<l.length
  ·have O:ldL I l≠[]:=by intro e;have:=kv I l;rw[e] at this;simp at this;omega
   have N:ldL gx l≠[]:=by intro e;have:=kv gx l;rw[e] at this;simp at this;omega
   obtain⟨LB,r8,rfl,-,-,-,c8⟩:=p3.out O;obtain⟨MB,r6,rfl,-,-,-,c3⟩:=n9.out N;have x1:=hG.cl (c8 k r);have x2:=hG.cl (c3 k r);rw[Yr I l k r] at x1;rw[Yr gx l k r] at x2;have HS:=qhp (m3 k r);generalize loadAt I l k=p1 at x1 HS;generalize loadAt gx l k=p2 at x2 HS;have p7:(k:Int)<(l.length:Int):=by omega
   clear c8 c3 O N hG hO;go_wp2_with (at_builtin;(refine wpList_append_own _ rfl _ _ 48 rfl B.heap.size 26 i0 _ 2 16 Tp.und48 l7 k8 k7 k6 rfl (by decide) (.slice oa om oc) k _ rfl (HO.alloc _) ⟨wr.heap.size,0,none⟩ 1 1 [.int .i64 p1,.int .i64 p2] rfl rfl (qje (cs:=#[p1,p2]) (t:=26) (fr:=(0,0)) (qhA wr _)) (by simp[qjD]) (by unfold qlg;omega) (by omega) (by simp;omega) ?_);intro v' w7 g s _;obtain⟨g',q2,rfl⟩:=qn6 g;have n3:=qhp g;have n7:=qhp s;clear g s);go_roundw
   case rel=>
    refine⟨k+1,by simp,by omega,(HG.t (qhq _ _ none)).andThen n7 (λj e=>.inl (HO.lt j e).1),?_⟩;rw[HS];exact n3
   case measure=>simp[qiF];omega
  ·obtain rfl:k=l.length:=by omega
   clear hG hO;go_wp2;go_ret2;have h0:=HO.out;rw[show(yJ c l).take l.length=yJ c l from qom (by simp[yJ])] at h0;exact⟨_,rfl,e9.t HG,(qK.own h0 (by rw[q6f];omega)).mono e9.size (qhv _)⟩
def xY(a:List Par)(l:List Int)(k:Nat):Int:=match l[k]? with
 | some x=>if 0<=x/\x<a.length then(if x∈l.take k then 4 else 0) else 3
 | none=>0
def KE(a:List Par)(b:Int)(l:List Int):Int:=match (qil l.length).find? (λk=>decide (xY a l k≠0)) with
 | some k=>xY a l k
 | none=>q57 a b l
def q58{a:List Par}{b:Int}{l:List Int}{k:Nat}{e:Int}(n:∀j,j<k->xY a l j=0)(g:k<l.length)(f:xY a l k=e)(o:e≠0):KE a b l=e:=by
 unfold KE;rw[Yu (λk=>decide (xY a l k≠0)) (qil l.length) k k (qm5 g) (by simp[f,o]) (λi y h d=>by
  have c:y=i:=by rw[qm5 (by omega)] at d;exact(qkD d).symm
  subst c;simp[n y h])]
 exact f
def qed{b:List Par}{a:Int}{l:List Int}(f:∀j,j<l.length->xY b l j=0):KE b a l=q57 b a l:=by
 unfold KE;rw[QR _ _ (λi y d=>by
  have e:i<l.length:=by have:=(qi3.1 d).1;simpa using this
  have c:y=i:=by rw[qm5 e] at d;exact(qkD d).symm
  subst c;simp[f y e])]
def q6E{c:List Par}{l:List Int}{k:Nat}(e:∀j,j<k->xY c l j=0)(f:k<=l.length):∀x∈l.take k,0<=x/\x<c.length:=λx d=>by
 have⟨j,b⟩:=qot.1 d;have a:j<k:=by have:=(qi3.1 b).1;simp at this;omega
 rw[qk4 a] at b;have h:=e j a;unfold xY at h;rw[b] at h;simp only at h;split at h
 ·assumption
 ·cases h
def q6y(lo hi:Nat)(yv pv:qhu)(c:List Par)(g:Int)(l:List Int)(w:qhr)(hY:jf lo hi w yv c g)(hI:qg lo hi w pv l)(q2:hi<=w.heap.size)(h5:c.length<=5)(ht:∀p∈c,0<=p.tall/\p.tall<=1000)(l5:l.length<=1000) :qis Ya 133 #[yv,pv] w λe r=>e=.returned (.int .i64 (KE c g l))/\w.gb r none:=by
 have p6:∀(fn:Fn) (first a7:Array qhu) (w:qhr),(qs1 fn first a7).run Ya w=.ok (.func fn first a7) w:=λ_ _ _ _=>rfl;have l4:∀(x:Bool) (w:qhr),(Op.unary .not (.bool x)).run Ya w=.ok (.bool (!x)) w:=λ_ _=>rfl;obtain⟨qv,rfl,hP⟩:=hY;obtain⟨yb,yc,rfl,n4,-⟩:=hP.cell;obtain⟨base,a7,rfl,p7,-⟩:=hI.cell;have⟨A,w1,hA,b6,I,N,b9,e4⟩:=zy w (.cells #[.slice yb c.length yc,g] 91) (.cells #[.int .i64 0] 40);have g9:=qhp (hI.kept I);have g6:=qhp (hP.kept I);have⟨HT,g5,HA,Q,a9⟩:=ZW ht b6 hA I b9;have q0:=q8 N (o:=0) rfl;have q1:=q8 N (o:=1) rfl;clear hI hP ht b6 hA I N b9;go_enter_defers Tp.x133,Tryz.ntmps133;go_upto_region 4 with(fail);rw[<- HA,<- g5];go_wp2;go_loopw [5,6,12] (λmv tv iv wr=>∃k:Nat,iv=.int .i64 k/\k<=l.length/\mv=.int .u8 (zj (l.take k))/\tv=.int .i64 (qS c (l.take k))/\0<=qS c (l.take k)/\qS c (l.take k)<=1000*k/\w1.gb wr none/\∀j,j<k->xY c l j=0) (λ_ _ iv _=>(l.length - qiF iv).toNat)
 case atStart=>exact⟨0,rfl,by omega,by simp[zj],by simp[qS],by simp[qS],by simp[qS],qhD _ _,λj hj=>by omega⟩
 case round=>
  obtain⟨k,rfl,hk,rfl,rfl,W,V,hG,Z⟩:=hrel;have HX:=qhp (q6E Z (Nat.le_of_lt_succ (Nat.lt_succ_of_le hk)));have R:=qhp Z;clear Z;have F:=qhp hG;have m8:=hG.cl q0;have m6:=hG.cl q1;have n6:=hG.size;clear hG;by_cases s:k<l.length
  ·have P:=g9.out.kept F;have O:=g6.out.kept F;obtain⟨b1,c1,he,-,hc⟩:=P.cell;cases he;obtain⟨B,o,rfl,N,r3,q7,L⟩:=hc (by intro e;rw[e] at s;simp at s);have hx:=L k s;obtain⟨x,i⟩:∃x,l[k]?=some x:=⟨_,qhz s⟩;rw[i] at hx;simp only[qhC] at hx;have hM:zj (l.take k)<32:=xE _ 5 λy hy=>by have:=HX.out y hy;omega
   by_cases H:0<=x/\x<c.length;rotate_left
   ·have HE:=qhp (show KE c g l=3 from q58 R s (by unfold xY;rw[i];simp only[if_neg H]) (by decide));have g8:=qhp (show ¬ (0<=x/\x<=(c.length:Int) - 1) from λh=>H ⟨h.1,by omega⟩);have a:=bk F a9;have b8:=q8 (o:=0) a rfl;have b7:=qn (o:=0) a;have n:=qhp a;have n8:IntKind.i64.wrap ((c.length:Int) - 1)=(c.length:Int) - 1:=qin _ (by omega);clear P O hc L a i H;go_wp2_with (first
     | (go_at_call 110;refine(yR _ _ _ _ g8).mono ?_;rintro e r ⟨rfl,rfl⟩)
     | (go_at_call 162;refine(q2q _ _).mono ?_;rintro e r ⟨rfl,rfl⟩))
    refine qob (f:=161) (args:=#[.pointer (some (A+1:Nat))]) (by simp) (by simp[go_sem]) ?_;refine(QT (A+1) 0 3 [] _ n).mono ?_;rintro e u' U ⟨rfl,rfl,rfl⟩;have Y:=Q.out.t F;have q:=qi (o:=0) (v:=.int .i64 3) (qq (p:=.cells #[.int .i64 3] 181) n);simp[Leaves,settle,qke,qn9,go_sem,qiq,q,HE.out];exact(Y.t (qhq _ _ none)).andThen (qh _ _ _ _) (by rintro j e;cases e;exact .inl (by have:=HA.out;omega))
   obtain⟨d9,G⟩:=H;have C:=Jn l k x i;have z:=xk c l k x i;have u:xY c l k=if x∈l.take k then 4 else 0:=by unfold xY;rw[i];simp only[if_pos (qi8 d9 G)]
   have b:(zj (l.take k)).testBit x.toNat=decide (x∈l.take k):=by
    rw[Bool.eq_iff_iff,ZQ,decide_eq_true_eq];constructor
    ·rintro⟨y,hy,n3⟩;have:=HX.out y hy;obtain rfl:y=x:=by omega
     exact hy
    ·exact λh=>⟨x,h,rfl⟩
   obtain⟨m,rfl⟩:∃m:Nat,x=m:=⟨x.toNat,by omega⟩;obtain⟨b2,c2,he,-,hc⟩:=O.cell;cases he;obtain⟨YB,yo,rfl,q5,q4,q3,a6⟩:=hc (by intro e;rw[e] at G;simp at G;omega);have⟨p,hp,p0,p1,p2,p3⟩:=a6 m (by omega);have n9:=HT.out p (qi9 hp);rw[show yA c m=p.tall by unfold yA;simp[hp]] at z;simp only[Int.toNat_natCast] at b C;have p5:(m:Int)<(c.length:Int):=G;have X:m<5:=by omega
   generalize zj (l.take k)=M at b hM C;generalize qS c (l.take k)=T at W V z;by_cases d:(m:Int)∈l.take k
   ·have HE:=qhp (show KE c g l=4 from q58 R s (by rw[u,if_pos d]) (by decide));rw[decide_eq_true d] at b;have D:=qhp b;have a:=bk F a9;have b8:=q8 (o:=0) a rfl;have b7:=qn (o:=0) a;have n:=qhp a;clear P O hc L a6 hp b C z i u d a;go_upto_region 8 with(first
     | (go_at_call 110;refine(jF _ _ _ _ (by omega) (by omega)).mono ?_;rintro e r ⟨rfl,rfl⟩)
     | (go_at_call 162;refine(Ka _ _).mono ?_;rintro e r ⟨rfl,rfl⟩))
    go_wp2_with (first
     | (go_at_call 129;refine(Yt M m _ hM X).mono ?_;rintro e r ⟨rfl,rfl⟩;rw[D])
     | (go_at_call 162;refine(q2q _ _).mono ?_;rintro e r ⟨rfl,rfl⟩))
    refine qob (f:=161) (args:=#[.pointer (some (A+1:Nat))]) (by simp) (by simp[go_sem]) ?_;refine(QT (A+1) 0 4 [] _ n).mono ?_;rintro e u' U ⟨rfl,rfl,rfl⟩;have Y:=Q.out.t F;have q:=qi (o:=0) (v:=.int .i64 4) (qq (p:=.cells #[.int .i64 4] 181) n);simp[Leaves,settle,qke,qn9,go_sem,qiq,q,HE.out];exact(Y.t (qhq _ _ none)).andThen (qh _ _ _ _) (by rintro j e;cases e;exact .inl (by have:=HA.out;omega))
   rw[decide_eq_false d] at b;rw[if_neg d] at u;have⟨k0,D,g7,a8,r4⟩:=ZW u b C z i;clear P O hc L a6 hp b C z i u d;go_wp2_with (first
    | (go_at_call 110;refine(jF _ _ _ _ (by omega) (by omega)).mono ?_;rintro e r ⟨rfl,rfl⟩)
    | (go_at_call 162;refine(Ka _ _).mono ?_;rintro e r ⟨rfl,rfl⟩)
    | (go_at_call 129;refine(Yt M m _ hM X).mono ?_;rintro e r ⟨rfl,rfl⟩;rw[D])
    | (go_at_call 151;refine(Zz M m _ hM X).mono ?_;rintro e r ⟨rfl,rfl⟩)
    | (go_at_call 145;refine(YH _ _ _ T p.tall _ (by exact qg.laid _ [T,p.tall] 2 rfl (by simp)) (by omega) (by omega)).mono ?_;rintro e r ⟨rfl,rfl⟩))
   go_roundw
   case rel=>
    refine⟨k+1,by simp,by omega,by rw[g7],by rw[a8],by rw[a8];omega,by rw[a8];omega,F.t (qhq _ _ _),λj hj=>by
     by_cases e:j=k
     ·rw[e];exact k0
     ·exact R j (by omega)⟩
   case measure=>simp[qiF];omega
  ·obtain rfl:k=l.length:=by omega
   rw[qjs] at W V;rw[qjs];have HZ:=qhp (show KE c g l=if qS c l<=g then 0 else 10 from qed R);generalize qS c l=T at W V HZ;generalize zj l=M;have a:=bk F a9;have b8:=q8 (o:=0) a rfl;have b7:=qn (o:=0) a;have n:=qhp a;have n7:=e4;clear a;by_cases S:T<=g
   ·have HC:=qhp (HZ.t (if_pos S));go_wp2_with (go_at_call 162;refine(Ka _ _).mono ?_;rintro e r ⟨rfl,rfl⟩);refine qob (f:=161) (args:=#[.pointer (some (A+1:Nat))]) (by simp) (by simp[go_sem]) ?_;refine(KJ ⟨A+1,0,none⟩ _).mono ?_;rintro e u' U ⟨rfl,rfl,rfl⟩;have q:(((wr.setCell (A+1:Nat) (.int .i64 0)).alloc (.cells #[.int .i64 0] 181)).heap[A+1]?=some (.cells #[.int .i64 0] 40 (0,0))):=qq (by rw[qi n];rfl);refine⟨.int .i64 0,?_,by rw[HC],?_⟩
    ·simp[qke,qn9,go_sem,qiq,q]
    ·have Y:=Q.out.t F;exact(Y.andThen (qh _ _ _ _) (by rintro j e;cases e;exact .inl (by have:=HA.out;omega))).t (qhq _ _ _)
   ·have HC:=qhp (HZ.t (if_neg S));have p4:decide (T<=g)=false:=by simp;omega
    go_wp2_with (go_at_call 162;refine(q2q _ _).mono ?_;rintro e r ⟨rfl,rfl⟩);refine qob (f:=161) (args:=#[.pointer (some (A+1:Nat))]) (by simp) (by simp[go_sem]) ?_;refine(QT (A+1) 0 10 [] _ n).mono ?_;rintro e u' U ⟨rfl,rfl,rfl⟩;have Y:=Q.out.t F;have q:=qi (o:=0) (v:=.int .i64 10) (qq (p:=.cells #[.int .i64 10] 181) n);simp[Leaves,settle,qke,qn9,go_sem,qiq,q,HC.out];exact(Y.t (qhq _ _ none)).andThen (qh _ _ _ _) (by rintro j e;cases e;exact .inl (by have:=HA.out;omega))
def Yv{c:List Par}{b:Int}(h:zt c b=0):YOk c b:=by
 unfold zt at h;by_cases e:5<c.length
 ·rw[if_pos e] at h;cases h
 ·rw[if_neg e] at h;cases hf:c.find? (λp=>decide (Q1 p≠0)) with
  | some p=>
   rw[hf] at h;have:=List.find?_some hf;simp at this;exact absurd h this
  | none=>
   rw[hf] at h;simp only at h;have d:1<=b/\b<=12:=qj6 λg=>by rw[if_neg g] at h;cases h
   refine⟨by omega,λp f=>?_,d.1,d.2⟩;have a:=qn3.1 hf p f;simp only[decide_eq_true_eq,ne_eq,Decidable.not_not] at a;unfold Q1 at a;split at a
   ·split at a
    ·split at a
     ·cases a
     ·split at a
      ·split at a
       ·omega
       ·cases a
      ·cases a
    ·cases a
   ·cases a
def q8x(O y:Nat)(S qv:qhu)(d:List Par)(a:Int)(l:List Int)(w:qhr)(T:qr O y w S d)(U:qg O y w qv l)(e7:y<=w.heap.size)(B:YOk d a)(C:l.length<=1000) :qis Ya 81 #[.agg #[S,a],qv] w λe w'=>e=.returned (.tuple #[.agg #[S,a],(KE d a l)])/\w.gb w' none:=by
 obtain⟨u,s,rfl,d7,-⟩:=T.cell;obtain⟨base,g5,rfl,e6,-⟩:=U.cell;have⟨A,w1,hA,z,n,r,G,e4⟩:=zy w (.cells #[.slice u d.length s,a] 24) (.cells #[.slice none 0 0,.int .i64 0] 91);have b0:=qhp (U.kept n);have M:=qhp (T.kept n);have⟨Z,HA,b8,a7,g6⟩:=ZW z hA n G r;have R:=q8 r (o:=0) rfl;have Q:=q8 r (o:=1) rfl;have e8:y<=A:=by omega
 have V:=qhp B;clear T U B z hA n G r;go_enter Tp.x81,qrf;go_upto_region 1 with(fail);rw[<- HA,<- Z];go_upto_region 4 with(go_at_call 52;refine(Jw O y _ d a _ ⟨_,rfl,M⟩ (by omega)).mono ?_;rintro e P ⟨rfl,L⟩;rw[V.chk];have c:=qhp L;clear L);have p0:=c.out.cl R;have p1:=c.out.cl Q;have d9:=c.out.size;clear R Q;go_upto_region 5 with(fail);obtain⟨Y,i⟩:∃Y,Y=P.heap.size:=⟨_,rfl⟩;obtain⟨x,f⟩:∃x,x=P.alloc (.cells #[.slice u d.length s,a] 91):=⟨_,rfl⟩;have g:P.gb x none:=by rw[f];exact qhq _ _ none
 have q:x.heap[Y]?=some (.cells #[.slice u d.length s,a] 91 (0,0)):=by rw[f,i];exact qhA _ _
 have d8:x.heap.size=Y+1:=by rw[f,qhH,i]
 rw[<- i,<- f];have R:=q8 q (o:=0) rfl;have Q:=q8 q (o:=1) rfl;have h:=qhp (bk g (blk c (by simp) a7));have N:=qhp q;have b7:=qhp ((b8.t c).t g);have a9:=qhp ((b0.kept c).kept g);have a8:=qhp ((M.kept c).kept g);have e9:A+1<Y:=by omega
 clear g q f i p0 p1;go_region_law
  (first
   | (go_simp;go_at_call 133;refine(q6y O y _ _ d a l _ ⟨_,rfl,a8.kept (qe _ none)⟩ (a9.kept (qe _ none)) (by simp;omega) V.len (λp hp=>by have:=V.out.each p hp;omega) C).mono ?_;rintro e w4 ⟨rfl,I⟩;have b:=qhp ((qe x none).t I);have r0:=q8 (o:=0) (bk b N) rfl;have r1:=q8 (o:=1) (bk b N) rfl;have s0:=q8 (o:=0) (bk b h) rfl;have s1:=q8 (o:=1) (bk b h) rfl;have f0:=qn (o:=0) (bk b h);have f1:=qn (o:=1) (bk b h);clear I))
 all_goals
  have D:=bk b h;obtain⟨W,k⟩:∃W,W=(w4.setCell (A+1:Nat) (.slice u d.length s)).setCell ⟨A+1,1,none⟩ (.int .i64 a):=⟨_,rfl⟩;have F:W.heap[A+1]?=some (.cells #[.slice u d.length s,a] 91 (0,0)):=by rw[k,qi (qi D)];rfl
  have H:w.gb W none:=(b7.t b).andThen (row':=some (A+1)) (by rw[k];exact(qh _ _ _ _).t (qh _ _ _ _)) (by rintro j e;cases e;exact .inl (by have:=HA.out;omega));have⟨a6,b6,X⟩:=ze F H k;clear D F H k;go_wp2;rw[<- X];exact qka (v:=.tuple #[.agg #[.slice u d.length s,a],(KE d a l)]) (by simp[qke,qqi,go_sem,qiq,a6.out]) rfl ⟨rfl,b6⟩
def qbd(b:List Par)(a:Int)(l:List Int):Int:=if zt b a=0 then KE b a l else zt b a
def q46(H s:Nat)(G qv:qhu)(g:List Par)(d:Int)(l:List Int)(w:qhr)(C:qr H s w G g)(M:qg H s w qv l)(y:s<=w.heap.size)(x:l.length<=1000) :qis Ya 81 #[.agg #[G,d],qv] w λe V=>∃a n c b,e=.returned (.tuple #[.agg #[.slice a n c,.int .i64 b],(qbd g d l)])/\w.gb V none/\(zt g d=0->.slice a n c=G/\b=d):=by
 by_cases p:zt g d=0
 ·have:=q8x H s G qv g d l w C M y (Yv p) x;unfold qbd;rw[if_pos p];refine this.mono ?_;rintro e V ⟨rfl,hg⟩;obtain⟨U,T,rfl,-,-⟩:=C.cell;exact⟨_,_,_,_,rfl,hg,λ_=>⟨rfl,rfl⟩⟩
 ·have z:qbd g d l=zt g d:=if_neg p;rw[z];obtain⟨U,T,rfl,a7,-⟩:=C.cell;obtain⟨base,b6,rfl,a8,-⟩:=M.cell;obtain⟨A,w1,X,u,i,r,B,-⟩:=zy w (.cells #[.slice U g.length T,d] 24) (.cells #[.slice none 0 0,.int .i64 0] 91);have Q:=qhp (C.kept i);have⟨O,Y,R,P⟩:=j8 u X i B;have q0:=q8 r (o:=0) rfl;have q1:=q8 r (o:=1) rfl;have I:s<=w1.heap.size:=qhB y i.size;clear C M u X i B r z;obtain⟨c,k⟩:∃c,c=zt g d:=⟨_,rfl⟩;rw[<- k] at p ⊢;have S:=qhp k;have b0:(c == 0)=false:=by rw[beq_eq_false_iff_ne];exact p
  have HC:=qhp p;clear k p;go_enter Tp.x81,qrf;go_upto_region 1 with(fail);rw[<- Y,<- O];go_upto_region 2 with(go_at_call 52;refine(Jw H s _ g d _ ⟨_,rfl,Q⟩ I).mono ?_;rintro e Z ⟨rfl,D⟩;rw[<- S];have F:=qhp D;clear D);have f:=qhp (bk F P);have r0:=q8 (o:=0) f rfl;have r1:=q8 (o:=1) f rfl;have f0:=qn (o:=0) f;have f1:=qn (o:=1) f;go_wp2;obtain⟨W,q⟩:∃W,W=(Z.setCell (A+1:Nat) (.slice none 0 0)).setCell ⟨A+1,1,none⟩ (.int .i64 0):=⟨_,rfl⟩;have L:W.heap[A+1]?=some (.cells #[.slice none 0 0,.int .i64 0] 91 (0,0)):=by rw[q,qi (qi f)];rfl
  have N:w.gb W none:=(R.t F).andThen (row':=some (A+1)) (by rw[q];exact(qh _ _ _ _).t (qh _ _ _ _)) (by rintro j e;cases e;exact .inl (by have:=Y.out;omega));rw[<- q];exact qka (v:=.tuple #[.agg #[.slice none 0 0,.int .i64 0],.int .i64 c]) (by simp[qke,qqi,go_sem,qiq,L]) rfl ⟨_,_,_,_,rfl,N,λh=>absurd h HC⟩
end
end Go.Proofs.YtidgnkmjgioapaaGreat
