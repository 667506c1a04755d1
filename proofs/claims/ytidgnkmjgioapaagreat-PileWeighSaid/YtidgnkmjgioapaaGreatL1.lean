/-
  Part 3 of the proof. PileWeigh answers true for every list and keeps it. No conditions.
-/
import Derived.Test.YtidgnkmjgioapaaGreatChecked
import Derived.KernelRfl
import Derived.WalkKit
import Derived.WalkSpells
import Derived.WalkLawsBesides
import Derived.RegionTactic
import Derived.ChangeAlike
import Derived.Deep.QuietTactic
import Derived.BigQuiet
import Derived.OneCell
import Derived.Maps.AppendAt
import Derived.Lib.Hide
import Derived.Maps.Range
import Derived.Deep.AppendLies
import Derived.Deep.RegionHeld3
import Derived.Deep.RegionLawGrows
import Derived.LoopTactic
import Derived.Deep.DeepCutAuto
import Derived.LoopIn
import Derived.LoopNIn
import Derived.BigRegion
import Derived.Deep.RegionLaw
import Derived.Recover
import Derived.Defers
import Derived.Deep.OwnRows
import Derived.StillTail
import Derived.Maps.RangeWalk
import Derived.OrdersHeld
import Derived.RangeFuncNested
import Derived.RangeFuncBound
import Derived.RangeFuncCalls
import Derived.RangeFuncLeaves
import Derived.RangeFuncFrom
import Derived.OrdersIn
import Derived.TacticsIn
import Derived.Conc.WgGenN3
import Derived.Laws.StructEq
import Derived.RangeFuncBox
set_option maxRecDepth 100000
set_option maxHeartbeats 8000000
set_option linter.all false
open And renaming intro->qgw
open Array renaming all_eq_true_iff_forall_mem->qi2,getElem?_eq_some_iff->qg8,getElem?_modify->qki,getElem?_setIfInBounds->qh5,getElem?_setIfInBounds_ne->qhv,getElem?_setIfInBounds_self_of_lt->qju,mem_of_getElem?->qi5,mem_toList_iff->qiF,replicate->qhk,replicate_succ->qhl,replicate_zero->qhm
open Bool renaming and_eq_true->qgv,false_eq_true->qh2,not_eq_true'->qj0,not_true->qld,or_eq_true->qja
open Go renaming Addr->qho,Calls->qhf,Code->qiw,Oper->qi6,Operand->qhh,PanicEntry->qln,Program->qgl,TypeId->qgt,TypeInfo->ql2,Value->qgb,World->qg7,bodyPost_ret->qji,bytes->qnt,callsIn_wide->qj9,execOp->qjt,grownBy_putObj'->qk7,heap_alloc_new->qgg,info_parts->qiv,madeCells->qjE,maxLen->qk9,results->qjo,results_cell_tmp->qo1,sizeOf->qnd,typeInfo->qku,undef->qgd,underlying->qjF,wpList_append_own->qke,wpS_region->qob,yielded->qj7,zeroValue->qlh
open Go.Addr renaming block->qns
open Go.Builtin renaming append_->ql0,zeroCells->qiz
open Go.Calls renaming quiet_of_same->qii
open Go.Instr renaming endRound->qjk,index->qmo,typeAssert->qkk
open Go.IntWalk renaming i64_in->qgH
open Go.Lib renaming hid->qg4
open Go.Proofs.Tryz renaming f136->qn0,f137->qoz,f54->qmb,f6->qnk,f82->qot,f85->qkj,ntmps109->qmc,ntmps110->qp6,ntmps161->qnD,prog->qgr,results133->qq5,results161->qq4,t3->qpn,underlying29->ql5
open Go.Region renaming Mode->qkc,binds->qhq,chainB->qnE,free->qq1,noSelect->qoh,ready->qgu,seqB->qm0,sinkB->qoc,wanted->qhi
open Go.Result renaming andThen->qlH,andThen_ok->qi8
open Go.RowKit renaming intOf->qhj
open Go.RowKit.Below renaming heap_setCell->qhu,refl->qmm
open Go.Sem renaming run_bind->qi7,run_pure->qmA
open Go.Value renaming int->qgy,oneCell'->qid,ownBlock->qh3,slice->qh7
open Go.World renaming alloc_heap_new->qou,cell?->qh6,cell?_setCell_other->qib,cell?_setCell_same->qlf,frozen?->qk4,grownBy_alloc->qg6,news_of_block->qhx,ownsRow_nil->qiq,putObj_heap_other->qll,putObj_heap_same->qlq,setCell->qix,size_alloc->qgk
open Go.World.grownBy renaming refl->qgn
open List renaming all_eq_true->qh9,append_toArray->qjH,cons_append->qgD,drop_eq_getElem_cons->qjf,drop_eq_nil_of_le->qjD,drop_succ_cons->qhE,drop_zero->qiu,eq_nil_of_length_eq_zero->qhC,ext_getElem?->qmC,flatMap_cons->qiB,getElem?_append_left->qh0,getElem?_append_right->qin,getElem?_eq_getElem->qge,getElem?_eq_none->qic,getElem?_eq_some_iff->qgo,getElem?_map->qj1,getElem?_of_mem->qna,getElem?_set_ne->qjx,getElem?_set_self->qkx,getElem?_take->qlp,getElem?_take_of_lt->qj3,getElem_mem->qm8,length_append->qhe,length_cons->qgq,length_drop->qm7,length_map->qjb,length_nil->qgx,length_set->qmg,map_cons->qkm,mem_append->qiD,mem_cons->qhH,mem_iff_getElem?->qkG,mem_map->qjr,mem_of_getElem?->qgj,mem_of_mem_take->ql6,mem_range->qi4,mem_singleton->qj2,nil_append->qhb,not_mem_nil->qif,perm_append_comm->qon,push_toArray->qhA,range->qgB,range'->qmr,range_succ->qjz,size_toArray->qgF,take_add_one->qhd,take_length->qha,take_of_length_le->qmB
open Nat renaming add_assoc->qma,add_mul->qmq,le_refl->qg9,le_trans->qgi,lt_of_lt_of_le->qgp,lt_or_ge->qia,reduceAdd->qgG,reduceSub->qil,zero_add->qgz
open Option renaming getD_some->qgh,map_some->qi1
open Option.some renaming injEq->qhc
namespace Go.Proofs
section
open Go Go.RowKit
theorem qev{Y:Type}(p q:qgl)(w:qg7)(r:Unsupported):(unsupported r:Sem Y).run p w=(unsupported r:Sem Y).run q w:=by unfold unsupported;rfl
section
variable(p q:qgl)(h:p.toTables=q.toTables)(w:qg7)(t:qgt)
include h
theorem Qy:p.info? t=q.info? t:=congrArg (λT=>Tables.info? T t) h
theorem qbn:p.underlying t=q.underlying t:=by
 unfold Program.underlying;simp only[Qy p q h]
theorem qbo:(qku t).run p w=(qku t).run q w:=by
 unfold qku;show(match p.info? t with | some i=>(pure i:Sem ql2) | none=>stuck "no such type").run p w=(match q.info? t with | some i=>(pure i:Sem ql2) | none=>stuck "no such type").run q w;rw[Qy p q h];cases q.info? t<;>rfl
theorem qdq:(qjF t).run p w=(qjF t).run q w:=by
 unfold qjF;show(match p.underlying t with | some i=>(pure i:Sem TypeDesc) | none=>stuck "no such type").run p w=(match q.underlying t with | some i=>(pure i:Sem TypeDesc) | none=>stuck "no such type").run q w;rw[qbn p q h];cases q.underlying t<;>rfl
theorem qdd:(qnd t).run p w=(qnd t).run q w:=by
 unfold qnd;simp only[qi7,qbo p q h];cases(qku t).run q w<;>rfl
theorem qdc:(qlh t).run p w=(qlh t).run q w:=by
 unfold qlh;simp only[qi7,qbo p q h];cases hh:(qku t).run q w with
 | ok i w'=>
  simp only[qi8];split
  ·rfl
  ·exact qev p q w' _
 | _=>simp only[qlH]
theorem qew:(isAgg t).run p w=(isAgg t).run q w:=by
 unfold isAgg;simp only[qi7,qdq p q h];cases hh:(qjF t).run q w with
 | ok i w'=>
  simp only[qi8];split<;>simp only[qmA]
 | _=>simp only[qlH]
end
noncomputable def Tp.prog:qgl:={ qgr with funcs:=Tryz.prog.funcs.setIfInBounds 85 { qkj with body:=some (.exit 0) } }
section
variable(w:qg7)(t:qgt)
@[simp] theorem Tp.tables:Tp.prog.toTables=Tryz.prog.toTables:=rfl
@[simp] theorem Tp.und:Tp.prog.underlying t=Tryz.prog.underlying t:=qbn _ _ Tp.tables t
@[simp] theorem Tp.rTypeInfo:(qku t).run Tp.prog w=(qku t).run qgr w:=qbo _ _ Tp.tables w t
@[simp] theorem Tp.rUnder:(qjF t).run Tp.prog w=(qjF t).run qgr w:=qdq _ _ Tp.tables w t
@[simp] theorem Tp.rSizeOf:(qnd t).run Tp.prog w=(qnd t).run qgr w:=qdd _ _ Tp.tables w t
@[simp] theorem Tp.rIsAgg:(isAgg t).run Tp.prog w=(isAgg t).run qgr w:=qew _ _ Tp.tables w t
@[simp] theorem Tp.rZero:(qlh t).run Tp.prog w=(qlh t).run qgr w:=qdc _ _ Tp.tables w t
end
end
section
open Go Go.RowKit
abbrev Tp.F (f:Nat)(g:Func):Prop:=Tp.prog.funcs[f]?=some g
abbrev Tp.C (f:Nat):Prop:=∀(a:Array qgb) (w:qg7),(callFunc f a).run Tp.prog w=.ok (.enter f a) w
theorem Tp.cl(f:Nat)(h:(match Tp.prog.funcs[f]? with | some g=>!(g.name == "runtime.NumGoroutine") && g.body.isSome | none=>false)=true:=by kernel_rfl):Tp.C f:=by
 intro a w;cases e:Tp.prog.funcs[f]? with
 | none=>rw[e] at h;cases h
 | some g=>
  rw[e] at h;simp only[qgv,qj0] at h;have h1:g.name ≠ "runtime.NumGoroutine" := λhe=>by rw[he] at h;exact absurd h.1 (by decide)
  have h2:g.body≠none:=λhe=>by rw[he] at h;cases h.2
  simp[callFunc,go_sem,e,h1,h2]
theorem Tp.fn{f:Nat}{g:Func}(h:Tp.prog.funcs[f]?=some g:=by kernel_rfl):Tp.F f g:=h
theorem Tp.x6:Tp.F 6 qnk:=Tp.fn
theorem Tp.x23:Tp.F 23 Tryz.f23:=Tp.fn
theorem Tp.x24:Tp.F 24 Tryz.f24:=Tp.fn
theorem Tp.x28:Tp.F 28 Tryz.f28:=Tp.fn
theorem Tp.x29:Tp.F 29 Tryz.f29:=Tp.fn
theorem Tp.x31:Tp.F 31 Tryz.f31:=Tp.fn
theorem Tp.x33:Tp.F 33 Tryz.f33:=Tp.fn
theorem Tp.x34:Tp.F 34 Tryz.f34:=Tp.fn
theorem Tp.x35:Tp.F 35 Tryz.f35:=Tp.fn
theorem Tp.x36:Tp.F 36 Tryz.f36:=Tp.fn
theorem Tp.x37:Tp.F 37 Tryz.f37:=Tp.fn
theorem Tp.x39:Tp.F 39 Tryz.f39:=Tp.fn
theorem Tp.x40:Tp.F 40 Tryz.f40:=Tp.fn
theorem Tp.x41:Tp.F 41 Tryz.f41:=Tp.fn
theorem Tp.x42:Tp.F 42 Tryz.f42:=Tp.fn
theorem Tp.x43:Tp.F 43 Tryz.f43:=Tp.fn
theorem Tp.x44:Tp.F 44 Tryz.f44:=Tp.fn
theorem Tp.x51:Tp.F 51 Tryz.f51:=Tp.fn
theorem Tp.x52:Tp.F 52 Tryz.f52:=Tp.fn
theorem Tp.x54:Tp.F 54 qmb:=Tp.fn
theorem Tp.x62:Tp.F 62 Tryz.f62:=Tp.fn
theorem Tp.x63:Tp.F 63 Tryz.f63:=Tp.fn
theorem Tp.x65:Tp.F 65 Tryz.f65:=Tp.fn
theorem Tp.x68:Tp.F 68 Tryz.f68:=Tp.fn
theorem Tp.x69:Tp.F 69 Tryz.f69:=Tp.fn
theorem Tp.x70:Tp.F 70 Tryz.f70:=Tp.fn
theorem Tp.x72:Tp.F 72 Tryz.f72:=Tp.fn
theorem Tp.x80:Tp.F 80 Tryz.f80:=Tp.fn
theorem Tp.x81:Tp.F 81 Tryz.f81:=Tp.fn
theorem Tp.x82:Tp.F 82 qot:=Tp.fn
theorem Tp.x83:Tp.F 83 Tryz.f83:=Tp.fn
theorem Tp.x84:Tp.F 84 Tryz.f84:=Tp.fn
theorem Tp.x90:Tp.F 90 Tryz.f90:=Tp.fn
theorem Tp.x91:Tp.F 91 Tryz.f91:=Tp.fn
theorem Tp.x92:Tp.F 92 Tryz.f92:=Tp.fn
theorem Tp.x93:Tp.F 93 Tryz.f93:=Tp.fn
theorem Tp.x94:Tp.F 94 Tryz.f94:=Tp.fn
theorem Tp.x95:Tp.F 95 Tryz.f95:=Tp.fn
theorem Tp.x96:Tp.F 96 Tryz.f96:=Tp.fn
theorem Tp.x97:Tp.F 97 Tryz.f97:=Tp.fn
theorem Tp.x98:Tp.F 98 Tryz.f98:=Tp.fn
theorem Tp.x99:Tp.F 99 Tryz.f99:=Tp.fn
theorem Tp.x100:Tp.F 100 Tryz.f100:=Tp.fn
theorem Tp.x101:Tp.F 101 Tryz.f101:=Tp.fn
theorem Tp.x102:Tp.F 102 Tryz.f102:=Tp.fn
theorem Tp.x103:Tp.F 103 Tryz.f103:=Tp.fn
theorem Tp.x109:Tp.F 109 Tryz.f109:=Tp.fn
theorem Tp.x110:Tp.F 110 Tryz.f110:=Tp.fn
theorem Tp.x112:Tp.F 112 Tryz.f112:=Tp.fn
theorem Tp.x113:Tp.F 113 Tryz.f113:=Tp.fn
theorem Tp.x114:Tp.F 114 Tryz.f114:=Tp.fn
theorem Tp.x117:Tp.F 117 Tryz.f117:=Tp.fn
theorem Tp.x120:Tp.F 120 Tryz.f120:=Tp.fn
theorem Tp.x121:Tp.F 121 Tryz.f121:=Tp.fn
theorem Tp.x122:Tp.F 122 Tryz.f122:=Tp.fn
theorem Tp.x123:Tp.F 123 Tryz.f123:=Tp.fn
theorem Tp.x125:Tp.F 125 Tryz.f125:=Tp.fn
theorem Tp.x126:Tp.F 126 Tryz.f126:=Tp.fn
theorem Tp.x129:Tp.F 129 Tryz.f129:=Tp.fn
theorem Tp.x133:Tp.F 133 Tryz.f133:=Tp.fn
theorem Tp.x134:Tp.F 134 Tryz.f134:=Tp.fn
theorem Tp.x135:Tp.F 135 Tryz.f135:=Tp.fn
theorem Tp.x136:Tp.F 136 qn0:=Tp.fn
theorem Tp.x137:Tp.F 137 qoz:=Tp.fn
theorem Tp.x145:Tp.F 145 Tryz.f145:=Tp.fn
theorem Tp.x146:Tp.F 146 Tryz.f146:=Tp.fn
theorem Tp.x147:Tp.F 147 Tryz.f147:=Tp.fn
theorem Tp.x149:Tp.F 149 Tryz.f149:=Tp.fn
theorem Tp.x150:Tp.F 150 Tryz.f150:=Tp.fn
theorem Tp.x151:Tp.F 151 Tryz.f151:=Tp.fn
theorem Tp.x152:Tp.F 152 Tryz.f152:=Tp.fn
theorem Tp.x153:Tp.F 153 Tryz.f153:=Tp.fn
theorem Tp.x154:Tp.F 154 Tryz.f154:=Tp.fn
theorem Tp.x155:Tp.F 155 Tryz.f155:=Tp.fn
theorem Tp.x156:Tp.F 156 Tryz.f156:=Tp.fn
theorem Tp.x157:Tp.F 157 Tryz.f157:=Tp.fn
theorem Tp.x160:Tp.F 160 Tryz.f160:=Tp.fn
theorem Tp.x161:Tp.F 161 Tryz.f161:=Tp.fn
theorem Tp.x162:Tp.F 162 Tryz.f162:=Tp.fn
theorem Tp.x163:Tp.F 163 Tryz.f163:=Tp.fn
theorem Tp.x164:Tp.F 164 Tryz.f164:=Tp.fn
theorem Tp.x165:Tp.F 165 Tryz.f165:=Tp.fn
theorem Tp.x188:Tp.F 188 Tryz.f188:=Tp.fn
theorem Tp.x197:Tp.F 197 Tryz.f197:=Tp.fn
theorem Tp.x198:Tp.F 198 Tryz.f198:=Tp.fn
theorem Tp.x199:Tp.F 199 Tryz.f199:=Tp.fn
@[simp] theorem Tp.callPf:Tp.C 24/\Tp.C 28/\Tp.C 31/\Tp.C 33/\Tp.C 34/\Tp.C 35/\Tp.C 36/\Tp.C 37/\Tp.C 39/\Tp.C 40/\Tp.C 41/\Tp.C 42/\Tp.C 43/\Tp.C 44/\Tp.C 51/\Tp.C 52/\Tp.C 54/\Tp.C 62/\Tp.C 63/\Tp.C 65/\Tp.C 68/\Tp.C 69/\Tp.C 70/\Tp.C 72/\Tp.C 80/\Tp.C 81/\Tp.C 82/\Tp.C 84/\Tp.C 90/\Tp.C 91/\Tp.C 92/\Tp.C 93/\Tp.C 94/\Tp.C 95/\Tp.C 96/\Tp.C 97/\Tp.C 98/\Tp.C 99/\Tp.C 100/\Tp.C 102/\Tp.C 103/\Tp.C 109/\Tp.C 110/\Tp.C 112/\Tp.C 113/\Tp.C 114/\Tp.C 117/\Tp.C 121/\Tp.C 122/\Tp.C 123/\Tp.C 125/\Tp.C 126/\Tp.C 129/\Tp.C 133/\Tp.C 134/\Tp.C 135/\Tp.C 136/\Tp.C 145/\Tp.C 146/\Tp.C 147/\Tp.C 150/\Tp.C 151/\Tp.C 152/\Tp.C 153/\Tp.C 154/\Tp.C 155/\Tp.C 156/\Tp.C 157/\Tp.C 160/\Tp.C 161/\Tp.C 162/\Tp.C 163/\Tp.C 164/\Tp.C 188/\Tp.C 197/\Tp.C 198/\Tp.C 199:=⟨Tp.cl 24,Tp.cl 28,Tp.cl 31,Tp.cl 33,Tp.cl 34,Tp.cl 35,Tp.cl 36,Tp.cl 37,Tp.cl 39,Tp.cl 40,Tp.cl 41,Tp.cl 42,Tp.cl 43,Tp.cl 44,Tp.cl 51,Tp.cl 52,Tp.cl 54,Tp.cl 62,Tp.cl 63,Tp.cl 65,Tp.cl 68,Tp.cl 69,Tp.cl 70,Tp.cl 72,Tp.cl 80,Tp.cl 81,Tp.cl 82,Tp.cl 84,Tp.cl 90,Tp.cl 91,Tp.cl 92,Tp.cl 93,Tp.cl 94,Tp.cl 95,Tp.cl 96,Tp.cl 97,Tp.cl 98,Tp.cl 99,Tp.cl 100,Tp.cl 102,Tp.cl 103,Tp.cl 109,Tp.cl 110,Tp.cl 112,Tp.cl 113,Tp.cl 114,Tp.cl 117,Tp.cl 121,Tp.cl 122,Tp.cl 123,Tp.cl 125,Tp.cl 126,Tp.cl 129,Tp.cl 133,Tp.cl 134,Tp.cl 135,Tp.cl 136,Tp.cl 145,Tp.cl 146,Tp.cl 147,Tp.cl 150,Tp.cl 151,Tp.cl 152,Tp.cl 153,Tp.cl 154,Tp.cl 155,Tp.cl 156,Tp.cl 157,Tp.cl 160,Tp.cl 161,Tp.cl 162,Tp.cl 163,Tp.cl 164,Tp.cl 188,Tp.cl 197,Tp.cl 198,Tp.cl 199⟩
end
end Go.Proofs
namespace Go.Proofs.YtidgnkmjgioapaaGreat
section
open Go.RowKit
theorem qh{w:qg7}{b:Nat}{cs:Array qgb}{e:qgt}{o:Nat}{v:qgb}(h:w.heap[b]?=some (.cells cs e (0,0))) :(w.setCell ⟨b,o,none⟩ v).heap[b]?=some (.cells (cs.setIfInBounds o v) e (0,0)):=by
 simp[qix,qki,h]
theorem qf(w:qg7)(b o:Nat)(v:qgb):w.grownBy (w.setCell ⟨b,o,none⟩ v) (some b) :=
 ⟨rfl,rfl,rfl,by simp[qix],λk _ hk=>qhu _ _ _ _ (λe=>hk (by rw[e]))⟩
theorem qi(w:qg7)(n:Nat)(row:Option Nat):w.grownBy (w.drewN n) row:=⟨rfl,rfl,rfl,qg9 _,λ_ _ _=>rfl⟩
theorem qc(w:qg7)(row:Option Nat):w.grownBy w.drew row:=⟨rfl,rfl,rfl,qg9 _,λ_ _ _=>rfl⟩
theorem blk{w w':qg7}{row:Option Nat}{X:Nat}{o:Obj}(hg:w.grownBy w' row)(hne:some X≠row)(h:w.heap[X]?=some o):w'.heap[X]?=some o :=
 (hg.block X (qg8.1 h).1 hne).trans h
theorem qq{w:qg7}{X:Nat}{o p:Obj}(h:w.heap[X]?=some o):(w.alloc p).heap[X]?=some o:=blk (qg6 w p none) (by simp) h
theorem q8{w:qg7}{Q o ty:Nat}{cs:Array qgb}{fr:Nat × Nat}{v:qgb}(h:w.heap[Q]?=some (.cells cs ty fr))(hv:cs[o]?=some v):w.cell? ⟨Q,o,none⟩=some v:=by simp[qh6,h,hv]
theorem qn{w:qg7}{Q o ty:Nat}{cs:Array qgb}(h:w.heap[Q]?=some (.cells cs ty (0,0))):w.frozen? ⟨Q,o,none⟩=false:=by simp[qk4,h]
theorem jh(w:qg7)(cs:Array qgb)(ty:qgt)(k:Nat):(w.alloc (.cells cs ty)).cell? ⟨w.heap.size,k,none⟩=cs[k]?:=by
 unfold qh6;rw[show(w.alloc (.cells cs ty)).heap[(⟨w.heap.size,k,none⟩:qho).block]?=some (.cells cs ty) from qgg w _];simp
def qe(lo hi:Nat)(w:qg7)(v:qgb)(l:List Int):Prop :=
 ∃base cap,v=.slice base l.length cap/\(l.length:Int)<=1000000 /\
  (l≠[]->∃B o cs fr,base=some ⟨B,o,none⟩/\lo<=B/\B<hi/\w.heap[B]?=some (.cells cs 3 fr)/\∀i,i<l.length->cs[o+i]?=some (.int .i64 (l[i]?.getD 0)))
theorem qe.nil(lo hi:Nat)(w:qg7):qe lo hi w (.slice none 0 0) []:=⟨none,0,rfl,by decide,λh=>absurd rfl h⟩
theorem qe.mono{lo hi lo' a6:Nat}{w:qg7}{v:qgb}{l:List Int}(h:qe lo hi w v l)(h1:lo'<=lo)(h2:hi<=a6):qe lo' a6 w v l:=by
 obtain⟨base,cap,rfl,hl,hr⟩:=h;refine⟨base,cap,rfl,hl,λhne=>?_⟩;obtain⟨B,o,cs,fr,e1,e2,e3,e4,e5⟩:=hr hne;exact⟨B,o,cs,fr,e1,by omega,by omega,e4,e5⟩
theorem qe.kept{lo hi:Nat}{w w':qg7}{v:qgb}{l:List Int}{row:Option Nat}(h:qe lo hi w v l)(hg:w.grownBy w' row)(hr:∀R,row=some R->R<lo\/hi<=R):qe lo hi w' v l:=by
 obtain⟨base,cap,rfl,hl,hr'⟩:=h;refine⟨base,cap,rfl,hl,λhne=>?_⟩;obtain⟨B,o,cs,fr,e1,e2,e3,e4,e5⟩:=hr' hne;exact⟨B,o,cs,fr,e1,e2,e3,blk hg (λe=>by have:=hr B e.symm;omega) e4,e5⟩
theorem qe.alloc{lo hi:Nat}{w:qg7}{v:qgb}{l:List Int}(h:qe lo hi w v l)(o:Obj):qe lo hi (w.alloc o) v l:=h.kept (qg6 w o none) (by simp)
theorem qe.own{lo n:Nat}{w:qg7}{v:qgb}{l:List Int}(h:w.ownsRow lo 3 1 v n (l.map (qgy .i64)))(hl:(l.length:Int)<=1000000):qe lo w.heap.size w v l:=by
 obtain⟨h1,h2⟩:=h;have hn:l.length=n:=by simpa using h1
 subst hn;rcases h2 with⟨rfl,h0⟩ | ⟨g,cap,cur,rfl,hb,hg,hc,hm,hs,ht⟩
 ·exact⟨none,0,by rw[h0],hl,λhne=>absurd (qhC h0) hne⟩
 ·refine⟨_,cap,rfl,hl,λ_=>⟨g,0,cur,(0,0),rfl,hb,(qg8.1 hg).1,hg,λi hi=>?_⟩⟩;have h3:(cur.toList.take (l.length*1))[i]?=some (.int .i64 (l[i]?.getD 0)):=by
   rw[ht];simp[qge hi]
  rw[qlp] at h3;simpa[hi] using h3
theorem qe.cell{lo hi:Nat}{w:qg7}{v:qgb}{l:List Int}(h:qe lo hi w v l):∃base cap,v=.slice base l.length cap/\(l.length:Int)<=1000000 /\(l≠[]->∃B o,base=some ⟨B,o,none⟩/\lo<=B/\B<hi/\B<w.heap.size/\∀i,i<l.length->w.cell? ⟨B,o+i,none⟩=some (.int .i64 (l[i]?.getD 0))):=by
 obtain⟨base,cap,rfl,hl,hr'⟩:=h;refine⟨base,cap,rfl,hl,λhne=>?_⟩;obtain⟨B,o,cs,fr,e1,e2,e3,e4,e5⟩:=hr' hne;exact⟨B,o,e1,e2,e3,(qg8.1 e4).1,λi hi=>by simp[qh6,e4,e5 i hi]⟩
def qF(g:Nat->Int):Obj:=.cells #[.int .i64 (g 0),.int .i64 (g 1),.int .i64 (g 2),.int .i64 (g 3),.int .i64 (g 4)] 101 (0,0)
theorem xU{w:qg7}{A:Nat}{g:Nat->Int}{e:Nat}{v:Int}(h:w.heap[A]?=some (qF g))(he:e<5):(w.setCell ⟨A,e,none⟩ (.int .i64 v)).heap[A]?=some (qF λd=>if d=e then v else g d):=by
 unfold qF at h ⊢;rw[qh h];obtain rfl | rfl | rfl | rfl | rfl:e=0\/e=1\/e=2\/e=3\/e=4:=by omega
 all_goals simp
theorem ql{w:qg7}{A:Nat}{g:Nat->Int}{e:Nat}(h:w.heap[A]?=some (qF g))(he:e<5):w.cell? ⟨A,e,none⟩=some (.int .i64 (g e)):=by
 unfold qF at h;obtain rfl | rfl | rfl | rfl | rfl:e=0\/e=1\/e=2\/e=3\/e=4:=by omega
 all_goals simp[qh6,h]
theorem jp{w:qg7}{A:Nat}{g:Nat->Int}(h:w.heap[A]?=some (qF g))(e:Nat):w.frozen? ⟨A,e,none⟩=false:=by
 unfold qF at h;simp[qk4,h]
theorem yw{g g':Nat->Int}(h:∀d,d<5->g d=g' d):qF g=qF g':=by
 unfold qF;rw[h 0 (by omega),h 1 (by omega),h 2 (by omega),h 3 (by omega),h 4 (by omega)]
structure Par where
 mn:Int
 mx:Int
 bears:Int
 tall:Int
deriving DecidableEq
def qr(lo hi:Nat)(w:qg7)(v:qgb)(ps:List Par):Prop :=
 ∃base cap,v=.slice base ps.length cap/\(ps.length:Int)<=1000000 /\
  (ps≠[]->∃B o cs fr,base=some ⟨B,o,none⟩/\lo<=B/\B<hi/\w.heap[B]?=some (.cells cs 28 fr) /\
   ∀i,i<ps.length->∃p,ps[i]?=some p/\cs[o+i*4]?=some (.int .i64 p.mn)/\cs[o+(i*4+1)]?=some (.int .i64 p.mx)/\cs[o+(i*4+2)]?=some (.int .i64 p.bears)/\cs[o+(i*4+3)]?=some (.int .i64 p.tall))
theorem qr.kept{lo hi:Nat}{w w':qg7}{v:qgb}{ps:List Par}{row:Option Nat}(h:qr lo hi w v ps)(hg:w.grownBy w' row)(hr:∀R,row=some R->R<lo\/hi<=R):qr lo hi w' v ps:=by
 obtain⟨base,cap,rfl,hl,hr'⟩:=h;refine⟨base,cap,rfl,hl,λhne=>?_⟩;obtain⟨B,o,cs,fr,e1,e2,e3,e4,e5⟩:=hr' hne;exact⟨B,o,cs,fr,e1,e2,e3,blk hg (λe=>by have:=hr B e.symm;omega) e4,e5⟩
theorem qr.alloc{lo hi:Nat}{w:qg7}{v:qgb}{ps:List Par}(h:qr lo hi w v ps)(o:Obj):qr lo hi (w.alloc o) v ps:=h.kept (qg6 w o none) (by simp)
theorem qr.mono{lo hi lo' a6:Nat}{w:qg7}{v:qgb}{ps:List Par}(h:qr lo hi w v ps)(h1:lo'<=lo)(h2:hi<=a6):qr lo' a6 w v ps:=by
 obtain⟨base,cap,rfl,hl,hr⟩:=h;refine⟨base,cap,rfl,hl,λhne=>?_⟩;obtain⟨B,o,cs,fr,e1,e2,e3,e4,e5⟩:=hr hne;exact⟨B,o,cs,fr,e1,by omega,by omega,e4,e5⟩
theorem qr.cell{lo hi:Nat}{w:qg7}{v:qgb}{ps:List Par}(h:qr lo hi w v ps):∃base cap,v=.slice base ps.length cap/\(ps.length:Int)<=1000000 /\(ps≠[]->∃B o,base=some ⟨B,o,none⟩/\lo<=B/\B<hi/\B<w.heap.size/\∀i,i<ps.length->∃p,ps[i]?=some p/\w.cell? ⟨B,o+i*4,none⟩=some (.int .i64 p.mn)/\w.cell? ⟨B,o+i*4+1,none⟩=some (.int .i64 p.mx)/\w.cell? ⟨B,o+i*4+2,none⟩=some (.int .i64 p.bears)/\w.cell? ⟨B,o+i*4+3,none⟩=some (.int .i64 p.tall)):=by
 obtain⟨base,cap,rfl,hl,hr'⟩:=h;refine⟨base,cap,rfl,hl,λhne=>?_⟩;obtain⟨B,o,cs,fr,e1,e2,e3,e4,e5⟩:=hr' hne;refine⟨B,o,e1,e2,e3,(qg8.1 e4).1,λi hi=>?_⟩;obtain⟨p,h0,h1,h2,h3,h4⟩:=e5 i hi;exact⟨p,h0,by simp[qh6,e4,h1],by simp[qh6,e4,qma,h2],by simp[qh6,e4,qma,h3],by simp[qh6,e4,qma,h4]⟩
def ji(lo hi:Nat)(w:qg7)(v:qgb)(ps:List Par)(lim:Int):Prop:=∃pv,v=.agg #[pv,.int .i64 lim]/\qr lo hi w pv ps
def wts(g:Nat->Int):qgb:=.agg #[.int .i64 (g 0),.int .i64 (g 1),.int .i64 (g 2),.int .i64 (g 3),.int .i64 (g 4)]
def ZS(l:List Int):Int:=l.foldl (·+·) 0
theorem KV(l:List Int)(k:Nat)(x:Int)(h:l[k]?=some x):ZS (l.take (k+1))=ZS (l.take k)+x:=by
 rw[qhd,h];simp[ZS]
theorem qbG(lo hi:Nat)(v:qgb)(l:List Int)(w:qg7)(hI:qe lo hi w v l)(hs:∀k,k<=l.length->-1000000000<=ZS (l.take k)/\ZS (l.take k)<=1000000000) :qhf Tp.prog 145 #[v] w λe w'=>e=.returned (.int .i64 (ZS l))/\w=w':=by
 obtain⟨base,cap,rfl,hl,hc⟩:=hI.cell;have HC:=qg4 hc;have HS:=qg4 hs;clear hc hs hI;go_enter Tp.x145,Tryz.ntmps145;go_wp2;go_loopw [3,8] (λa i wr=>∃k:Nat,i=.int .i64 k/\k<=l.length/\a=.int .i64 (ZS (l.take k))/\w=wr) (λ_ i _=>(l.length - qhj i).toNat)
 case atStart=>exact⟨0,rfl,by omega,by simp[ZS],rfl⟩
 case round=>
  obtain⟨k,rfl,hk,rfl,rfl⟩:=hrel;by_cases hlt:k<l.length
  ·obtain⟨B,o,rfl,b0,a9,a8,a6⟩:=HC.out (by intro e;rw[e] at hlt;simp at hlt);have hk':=a6 k hlt;have h1:=HS.out k (by omega);have h2:=HS.out (k+1) (by omega);have hx:l[k]?=some (l[k]?.getD 0):=by simp[qge hlt]
   rw[KV l k _ hx] at h2;have hst:=KV l k _ hx;generalize l[k]?.getD 0=x at hk' h2 hst;generalize ZS (l.take k)=s at h1 h2 hst;have a7:=qg4 hst;clear a6 hx hst;go_wp2;go_roundw
   case rel=>exact⟨k+1,by simp,by omega,by rw[a7.out],by first | rfl | trivial⟩
   case measure=>simp[qhj];omega
  ·obtain rfl:k=l.length:=by omega
   go_wp2;go_ret;exact⟨by simp,rfl⟩
def pre(f:Par->Int)(ps:List Par)(k:Nat):Nat->Int:=λi=>if i<k then(match ps[i]? with | some p=>f p | none=>0) else 0
theorem q30(f:Par->Int)(ps:List Par)(k:Nat)(p:Par)(h:ps[k]?=some p)(d:Nat):pre f ps (k+1) d=if d=k then f p else pre f ps k d:=by
 unfold pre;by_cases e:d=k
 ·subst e;simp[h]
 ·by_cases e2:d<k
  ·rw[if_pos (by omega),if_neg e,if_pos e2]
  ·rw[if_neg (by omega),if_neg e,if_neg e2]
theorem Qu(lo hi:Nat)(v:qgb)(ps:List Par)(lim:Int)(w:qg7)(hY:ji lo hi w v ps lim)(hhi:hi<=w.heap.size)(h5:ps.length<=5) :qhf Tp.prog 93 #[v] w λe w'=>e=.returned (wts (pre Par.mn ps ps.length))/\w.grownBy w' none:=by
 obtain⟨pv,rfl,hP⟩:=hY;obtain⟨base,cap,rfl,hl,-⟩:=hP.cell;obtain⟨A,hA⟩:∃A,A=w.heap.size:=⟨_,rfl⟩;have HP:=qg4 hP;clear hP;go_enter Tp.x93,Tryz.ntmps93;go_upto_region 2 with(fail);have hG:w.grownBy (((w.alloc (.cells #[.slice base ps.length cap,.int .i64 lim] 91)).alloc (qF λ_=>0)).alloc (qF λ_=>0)) none:=((qg6 _ _ none).trans (qg6 _ _ none)).trans (qg6 _ _ none);have hY:(((w.alloc (.cells #[.slice base ps.length cap,.int .i64 lim] 91)).alloc (qF λ_=>0)).alloc (qF λ_=>0)).cell? ⟨A,0,none⟩=some (.slice base ps.length cap):=q8 (qq (qq (by rw[hA];exact qgg w _))) rfl;have hR:(((w.alloc (.cells #[.slice base ps.length cap,.int .i64 lim] 91)).alloc (qF λ_=>0)).alloc (qF λ_=>0)).heap[A+1]?=some (qF λ_=>0):=qq (by
  have:=qgg (w.alloc (.cells #[.slice base ps.length cap,.int .i64 lim] 91)) (qF λ_=>0);rw[qgk,<- hA] at this;exact this)
 have hW:(((w.alloc (.cells #[.slice base ps.length cap,.int .i64 lim] 91)).alloc (qF λ_=>0)).alloc (qF λ_=>0)).heap[A+2]?=some (qF λ_=>0):=by
  have:=qgg ((w.alloc (.cells #[.slice base ps.length cap,.int .i64 lim] 91)).alloc (qF λ_=>0)) (qF λ_=>0);rw[qgk,qgk,<- hA] at this;exact this
 rw[<- hA];show Code.wp _ _ _ _ (((w.alloc (.cells #[.slice base ps.length cap,.int .i64 lim] 91)).alloc (qF λ_=>0)).alloc (qF λ_=>0));have c3:A+2<(((w.alloc (.cells #[.slice base ps.length cap,.int .i64 lim] 91)).alloc (qF λ_=>0)).alloc (qF λ_=>0)).heap.size:=(qg8.1 hW).1;generalize (((w.alloc (.cells #[.slice base ps.length cap,.int .i64 lim] 91)).alloc (qF λ_=>0)).alloc (qF λ_=>0))=w1 at hG hY hR hW c3 ⊢;have e7:hi<=A:=by omega
 obtain⟨D,hD⟩:∃D,D=A+2:=⟨_,rfl⟩;obtain⟨R,a8⟩:∃R,R=A+1:=⟨_,rfl⟩;rw[show A+1+1=A+2 from rfl,<- hD,<- a8];rw[<- hD] at hW c3;rw[<- a8] at hR;have e5:=qg4 (HP.out.kept hG (by simp));have HG:=qg4 hG;have HR:=qg4 hR;have HW:=qg4 hW;have hne:¬ R=D:=by omega
 have g9:¬ A=D:=by omega
 have g8:A<=R/\A<=D:=by omega
 have HA:=qg4 hA;have b8:hi<=D:=by omega
 clear hG hR hW hA HP hD a8;go_wp2;go_loopw [10] (λi wr=>∃k:Nat,i=.int .i64 k/\k<=ps.length/\w1.grownBy wr (some D)/\wr.heap[D]?=some (qF (pre Par.mn ps k))) (λi _=>(ps.length - qhj i).toNat)
 case atStart=>exact⟨0,rfl,by omega,qgn _ _,by rw[HW.out];congr 1⟩
 case round=>
  obtain⟨k,rfl,hk,hG,hB⟩:=hrel;have e9:D<wr.heap.size:=(qg8.1 hB).1;have a9:=e5.out.kept hG (by rintro R e;cases e;exact .inr b8);have e8:=hG.cell hY (by simp;omega);have c8:=qg4 hG;have HB:=qg4 hB;by_cases hlt:k<ps.length
  ·obtain⟨d6,cap',he,-,hcell⟩:=a9.cell;cases he;obtain⟨B,o,rfl,g7,g6,g5,b9⟩:=hcell (by intro e;rw[e] at hlt;simp at hlt);obtain⟨p,hp,q0,q1,q2,q3⟩:=b9 k hlt;have d5:=ql hB (show k<5 by omega);have h8:=jp hB k;have e4:=qg4 hp;have c9:k<5:=by omega
   generalize pre Par.mn ps k k=y at d5;clear b9 hcell a9 hG hB hp;go_wp2;go_roundw
   case rel=>
    refine⟨k+1,by simp,by omega,(c8.out.trans (qf _ _ _ _)).trans (qg6 _ _ _),?_⟩;rw[qq (xU HB.out c9)]
    congr 1
    exact yw λd _=>(q30 _ _ _ _ e4.out d).symm
   case measure=>simp[qhj];omega
  ·obtain rfl:k=ps.length:=by omega
   have a6:=blk hG (by simp;omega) HR.out;have a0:=ql hB (show 0<5 by omega);have a1:=ql hB (show 1<5 by omega);have a2:=ql hB (show 2<5 by omega);have a3:=ql hB (show 3<5 by omega);have a4:=ql hB (show 4<5 by omega);have b0:=ql a6 (show 0<5 by omega);have b1:=ql a6 (show 1<5 by omega);have b2:=ql a6 (show 2<5 by omega);have b3:=ql a6 (show 3<5 by omega);have b4:=ql a6 (show 4<5 by omega);have fz:=jp a6;have h9:=qg4 a6;have d8:=qg4 (show wts (pre Par.mn ps ps.length)=.agg #[.int .i64 (pre Par.mn ps ps.length 0),.int .i64 (pre Par.mn ps ps.length 1),.int .i64 (pre Par.mn ps ps.length 2),.int .i64 (pre Par.mn ps ps.length 3),.int .i64 (pre Par.mn ps ps.length 4)] from rfl);generalize pre Par.mn ps ps.length 0=g0 at *
   generalize pre Par.mn ps ps.length 1=g1 at *
   generalize pre Par.mn ps ps.length 2=g2 at *
   generalize pre Par.mn ps ps.length 3=g3 at *
   generalize pre Par.mn ps ps.length 4=g4 at *
   obtain⟨W,a7⟩:∃W,W=((((wr.setCell ⟨R,0,none⟩ (.int .i64 g0)).setCell ⟨R,1,none⟩ (.int .i64 g1)).setCell ⟨R,2,none⟩ (.int .i64 g2)).setCell ⟨R,3,none⟩ (.int .i64 g3)).setCell ⟨R,4,none⟩ (.int .i64 g4):=⟨_,rfl⟩;have b6:W.heap[R]?=some (.cells #[.int .i64 g0,.int .i64 g1,.int .i64 g2,.int .i64 g3,.int .i64 g4] 101 (0,0)):=by
    rw[a7,qh (qh (qh (qh (qh a6))))];rfl
   have b7:w.grownBy W none:=(HG.out.andThen c8.out (by rintro j e;cases e;exact .inl (by have:=HA.out;omega))).andThen (row':=some R)
    (by rw[a7];exact((((qf _ _ _ _).trans (qf _ _ _ _)).trans (qf _ _ _ _)).trans (qf _ _ _ _)).trans (qf _ _ _ _)) (by rintro j e;cases e;exact .inl (by have:=HA.out;omega))
   have d9:=qg4 b6;have e6:=qg4 b7;have d7:=qg4 a7;clear a6 hG hB a9 hlt b6 b7 a7;go_wp2;rw[<- d7.out,d8.out];exact qji (v:=.agg #[.int .i64 g0,.int .i64 g1,.int .i64 g2,.int .i64 g3,.int .i64 g4]) (by simp[qjo,Tryz.results93,go_sem,qh6,d9.out]) rfl ⟨rfl,e6.out⟩
theorem Q0(lo hi:Nat)(v:qgb)(ps:List Par)(lim:Int)(w:qg7)(hY:ji lo hi w v ps lim)(hhi:hi<=w.heap.size)(h5:ps.length<=5) :qhf Tp.prog 92 #[v] w λe w'=>e=.returned (wts (pre Par.mx ps ps.length))/\w.grownBy w' none:=by
 obtain⟨pv,rfl,hP⟩:=hY;obtain⟨base,cap,rfl,hl,-⟩:=hP.cell;obtain⟨A,hA⟩:∃A,A=w.heap.size:=⟨_,rfl⟩;have HP:=qg4 hP;clear hP;go_enter Tp.x92,Tryz.ntmps92;go_upto_region 2 with(fail);have hG:w.grownBy (((w.alloc (.cells #[.slice base ps.length cap,.int .i64 lim] 91)).alloc (qF λ_=>0)).alloc (qF λ_=>0)) none:=((qg6 _ _ none).trans (qg6 _ _ none)).trans (qg6 _ _ none);have hY:(((w.alloc (.cells #[.slice base ps.length cap,.int .i64 lim] 91)).alloc (qF λ_=>0)).alloc (qF λ_=>0)).cell? ⟨A,0,none⟩=some (.slice base ps.length cap):=q8 (qq (qq (by rw[hA];exact qgg w _))) rfl;have hR:(((w.alloc (.cells #[.slice base ps.length cap,.int .i64 lim] 91)).alloc (qF λ_=>0)).alloc (qF λ_=>0)).heap[A+1]?=some (qF λ_=>0):=qq (by
  have:=qgg (w.alloc (.cells #[.slice base ps.length cap,.int .i64 lim] 91)) (qF λ_=>0);rw[qgk,<- hA] at this;exact this)
 have hW:(((w.alloc (.cells #[.slice base ps.length cap,.int .i64 lim] 91)).alloc (qF λ_=>0)).alloc (qF λ_=>0)).heap[A+2]?=some (qF λ_=>0):=by
  have:=qgg ((w.alloc (.cells #[.slice base ps.length cap,.int .i64 lim] 91)).alloc (qF λ_=>0)) (qF λ_=>0);rw[qgk,qgk,<- hA] at this;exact this
 rw[<- hA];show Code.wp _ _ _ _ (((w.alloc (.cells #[.slice base ps.length cap,.int .i64 lim] 91)).alloc (qF λ_=>0)).alloc (qF λ_=>0));have c3:A+2<(((w.alloc (.cells #[.slice base ps.length cap,.int .i64 lim] 91)).alloc (qF λ_=>0)).alloc (qF λ_=>0)).heap.size:=(qg8.1 hW).1;generalize (((w.alloc (.cells #[.slice base ps.length cap,.int .i64 lim] 91)).alloc (qF λ_=>0)).alloc (qF λ_=>0))=w1 at hG hY hR hW c3 ⊢;have e7:hi<=A:=by omega
 obtain⟨D,hD⟩:∃D,D=A+2:=⟨_,rfl⟩;obtain⟨R,a8⟩:∃R,R=A+1:=⟨_,rfl⟩;rw[show A+1+1=A+2 from rfl,<- hD,<- a8];rw[<- hD] at hW c3;rw[<- a8] at hR;have e5:=qg4 (HP.out.kept hG (by simp));have HG:=qg4 hG;have HR:=qg4 hR;have HW:=qg4 hW;have hne:¬ R=D:=by omega
 have g9:¬ A=D:=by omega
 have g8:A<=R/\A<=D:=by omega
 have HA:=qg4 hA;have b8:hi<=D:=by omega
 clear hG hR hW hA HP hD a8;go_wp2;go_loopw [10] (λi wr=>∃k:Nat,i=.int .i64 k/\k<=ps.length/\w1.grownBy wr (some D)/\wr.heap[D]?=some (qF (pre Par.mx ps k))) (λi _=>(ps.length - qhj i).toNat)
 case atStart=>exact⟨0,rfl,by omega,qgn _ _,by rw[HW.out];congr 1⟩
 case round=>
  obtain⟨k,rfl,hk,hG,hB⟩:=hrel;have e9:D<wr.heap.size:=(qg8.1 hB).1;have a9:=e5.out.kept hG (by rintro R e;cases e;exact .inr b8);have e8:=hG.cell hY (by simp;omega);have c8:=qg4 hG;have HB:=qg4 hB;by_cases hlt:k<ps.length
  ·obtain⟨d6,cap',he,-,hcell⟩:=a9.cell;cases he;obtain⟨B,o,rfl,g7,g6,g5,b9⟩:=hcell (by intro e;rw[e] at hlt;simp at hlt);obtain⟨p,hp,q0,q1,q2,q3⟩:=b9 k hlt;have d5:=ql hB (show k<5 by omega);have h8:=jp hB k;have e4:=qg4 hp;have c9:k<5:=by omega
   generalize pre Par.mx ps k k=y at d5;clear b9 hcell a9 hG hB hp;go_wp2;go_roundw
   case rel=>
    refine⟨k+1,by simp,by omega,(c8.out.trans (qf _ _ _ _)).trans (qg6 _ _ _),?_⟩;rw[qq (xU HB.out c9)]
    congr 1
    exact yw λd _=>(q30 _ _ _ _ e4.out d).symm
   case measure=>simp[qhj];omega
  ·obtain rfl:k=ps.length:=by omega
   have a6:=blk hG (by simp;omega) HR.out;have a0:=ql hB (show 0<5 by omega);have a1:=ql hB (show 1<5 by omega);have a2:=ql hB (show 2<5 by omega);have a3:=ql hB (show 3<5 by omega);have a4:=ql hB (show 4<5 by omega);have b0:=ql a6 (show 0<5 by omega);have b1:=ql a6 (show 1<5 by omega);have b2:=ql a6 (show 2<5 by omega);have b3:=ql a6 (show 3<5 by omega);have b4:=ql a6 (show 4<5 by omega);have fz:=jp a6;have h9:=qg4 a6;have d8:=qg4 (show wts (pre Par.mx ps ps.length)=.agg #[.int .i64 (pre Par.mx ps ps.length 0),.int .i64 (pre Par.mx ps ps.length 1),.int .i64 (pre Par.mx ps ps.length 2),.int .i64 (pre Par.mx ps ps.length 3),.int .i64 (pre Par.mx ps ps.length 4)] from rfl);generalize pre Par.mx ps ps.length 0=g0 at *
   generalize pre Par.mx ps ps.length 1=g1 at *
   generalize pre Par.mx ps ps.length 2=g2 at *
   generalize pre Par.mx ps ps.length 3=g3 at *
   generalize pre Par.mx ps ps.length 4=g4 at *
   obtain⟨W,a7⟩:∃W,W=((((wr.setCell ⟨R,0,none⟩ (.int .i64 g0)).setCell ⟨R,1,none⟩ (.int .i64 g1)).setCell ⟨R,2,none⟩ (.int .i64 g2)).setCell ⟨R,3,none⟩ (.int .i64 g3)).setCell ⟨R,4,none⟩ (.int .i64 g4):=⟨_,rfl⟩;have b6:W.heap[R]?=some (.cells #[.int .i64 g0,.int .i64 g1,.int .i64 g2,.int .i64 g3,.int .i64 g4] 101 (0,0)):=by
    rw[a7,qh (qh (qh (qh (qh a6))))];rfl
   have b7:w.grownBy W none:=(HG.out.andThen c8.out (by rintro j e;cases e;exact .inl (by have:=HA.out;omega))).andThen (row':=some R)
    (by rw[a7];exact((((qf _ _ _ _).trans (qf _ _ _ _)).trans (qf _ _ _ _)).trans (qf _ _ _ _)).trans (qf _ _ _ _)) (by rintro j e;cases e;exact .inl (by have:=HA.out;omega))
   have d9:=qg4 b6;have e6:=qg4 b7;have d7:=qg4 a7;clear a6 hG hB a9 hlt b6 b7 a7;go_wp2;rw[<- d7.out,d8.out];exact qji (v:=.agg #[.int .i64 g0,.int .i64 g1,.int .i64 g2,.int .i64 g3,.int .i64 g4]) (by simp[qjo,Tryz.results92,go_sem,qh6,d9.out]) rfl ⟨rfl,e6.out⟩
theorem q5j(p:Par)(load:Int)(w:qg7) :qhf Tp.prog 160 #[.agg #[.int .i64 p.mn,.int .i64 p.mx,.int .i64 p.bears,.int .i64 p.tall],.int .i64 load] w λe w'=>e=.returned (if p.bears<load then .iface 170 (.agg #[]) else .iface 171 (.agg #[]))/\w.grownBy w' none:=by
 go_enter Tp.x160,Tryz.ntmps160;by_cases h:p.bears<load
 ·go_wp2;go_ret;exact⟨rfl,qg6 _ _ _⟩
 ·go_wp2;go_ret;exact⟨rfl,qg6 _ _ _⟩
def tot:List Int->Int
 | []=>0
 | a::t=>tot t+a
def loadAt(g:Nat->Int)(l:List Int)(i:Nat):Int:=tot ((l.drop (i+1)).map λx=>g x.toNat)
theorem Jq(g:Nat->Int)(l:List Int)(i:Nat)(h:l.length<=i+1):loadAt g l i=0:=by
 unfold loadAt;rw[qjD h];rfl
theorem Jp(g:Nat->Int)(l:List Int)(i:Nat)(x:Int)(h:l[i+1]?=some x):loadAt g l i=loadAt g l (i+1)+g x.toNat:=by
 unfold loadAt;have hlt:=(qgo.1 h).1;rw[qjf hlt];have:l[i+1]=x:=(qgo.1 h).2;simp[tot,this]
theorem qdB(l:List Int)(h:∀x∈l,0<=x/\x<=1000):0<=tot l/\tot l<=1000*l.length:=by
 induction l with
 | nil=>simp[tot]
 | cons a t ih=>
  have h1:=ih λx hx=>h x (by simp[hx]);have h2:=h a (by simp);simp only[tot,qgq];omega
theorem J5(g:Nat->Int)(l:List Int)(i:Nat)(hg:∀i,0<=g i/\g i<=1000)(hl:l.length<=1000):0<=loadAt g l i/\loadAt g l i<=1000000:=by
 have:=qdB ((l.drop (i+1)).map λx=>g x.toNat) (by simp only[qjr];rintro x ⟨y,-,rfl⟩;exact hg _);simp only[qjb,qm7] at this;unfold loadAt;omega
def ldL(g:Nat->Int)(l:List Int):List Int:=(qgB l.length).map (loadAt g l)
def yT(w:qg7)(O n:Nat)(f:Nat->Int):Prop:=∃cs,w.heap[O]?=some (.cells cs 3 (0,0))/\cs.size=n/\∀i,i<n->cs[i]?=some (.int .i64 (f i))
theorem yT.lt{w:qg7}{O n:Nat}{f:Nat->Int}(h:yT w O n f):O<w.heap.size:=by
 obtain⟨cs,h,-⟩:=h;exact(qg8.1 h).1
theorem yT.cell{w:qg7}{O n i:Nat}{f:Nat->Int}(h:yT w O n f)(hi:i<n):w.cell? ⟨O,i,none⟩=some (.int .i64 (f i)):=by
 obtain⟨cs,h,-,hc⟩:=h;simp[qh6,h,hc i hi]
theorem yT.thaw{w:qg7}{O n:Nat}{f:Nat->Int}(h:yT w O n f)(i:Nat):w.frozen? ⟨O,i,none⟩=false:=by
 obtain⟨cs,h,-⟩:=h;simp[qk4,h]
theorem yT.congr{w:qg7}{O n:Nat}{f g:Nat->Int}(h:yT w O n f)(e:∀i,i<n->f i=g i):yT w O n g:=by
 obtain⟨cs,h,hs,hc⟩:=h;exact⟨cs,h,hs,λi hi=>by rw[hc i hi,e i hi]⟩
theorem yT.set{w:qg7}{O n i:Nat}{f:Nat->Int}{x:Int}(h:yT w O n f)(hi:i<n):yT (w.setCell ⟨O,i,none⟩ (.int .i64 x)) O n λj=>if j=i then x else f j:=by
 obtain⟨cs,h,hs,hc⟩:=h;refine⟨_,qh h,by simp[hs],λj hj=>?_⟩;by_cases e:j=i
 ·subst e;simp[hs,hj]
 ·rw[qh5,if_neg (by omega),hc j hj];show _=some (qgy .i64 (if j=i then x else f j));rw[if_neg e]
theorem yT.kept{w w':qg7}{O n:Nat}{f:Nat->Int}{row:Option Nat}(h:yT w O n f)(hg:w.grownBy w' row)(hne:some O≠row):yT w' O n f:=by
 obtain⟨cs,h,hs,hc⟩:=h;exact⟨cs,blk hg hne h,hs,hc⟩
theorem yT.made(w:qg7)(n:Nat):yT (w.alloc (.cells (qjE #[.int .i64 0] n) 3)) w.heap.size n λ_=>0:=by
 refine⟨_,qgg w _,size_madeCells _ _,λi hi=>?_⟩;unfold qjE;simp[hi,Nat.mod_one]
theorem yT.ints{w:qg7}{O n lo hi:Nat}{f:Nat->Int}{l:List Int}(h:yT w O n f)(h1:lo<=O)(h2:O<hi)(hl:l.length=n)(hn:n<=1000000)(hf:∀i,i<n->l[i]?=some (f i)):qe lo hi w (.slice (some ⟨O,0,none⟩) n n) l:=by
 obtain⟨cs,h,hs,hc⟩:=h;subst hl;exact⟨_,_,rfl,by omega,λ_=>⟨O,0,cs,_,rfl,h1,h2,h,λi hi=>by rw[qgz,hc i hi,hf i hi];rfl⟩⟩
theorem qe.laid(w:qg7)(l:List Int)(n:Nat)(hn:n=l.length)(hl:l.length<=1000)(fr:Nat × Nat:=(0,0))(hi:Nat:=w.heap.size+1)(hhi:w.heap.size<hi:=by omega) :qe w.heap.size hi (w.alloc (.cells (l.map (qgy .i64)).toArray 3 fr)) (.slice (some ⟨w.heap.size,0,none⟩) n n) l:=by
 subst hn;refine⟨_,_,rfl,by omega,λ_=>⟨w.heap.size,0,_,fr,rfl,qg9 _,hhi,qgg w _,λi hi=>?_⟩⟩;simp[qge hi]
theorem YU{w:qg7}{D n:Nat}{x v:qgb}{o:Obj}{a:qho}(h:w.cell? a=some v)(hne:a≠⟨D,n,none⟩):((w.setCell ⟨D,n,none⟩ x).alloc o).drew.cell? a=some v:=by
 have h1:(w.setCell ⟨D,n,none⟩ x).cell? a=some v:=by rw[qib _ _ _ _ (Ne.symm hne)];exact h
 exact(qc _ none).cell ((qg6 _ o none).cell h1 (by simp)) (by simp)
theorem qbH{q r:Int}(h:0<=q/\q<=1000000)(h':0<=r/\r<=1000000):∀k,k<=[q,r].length->-1000000000<=ZS ([q,r].take k)/\ZS ([q,r].take k)<=1000000000:=by
 intro k hk;obtain rfl | rfl | rfl:k=0\/k=1\/k=2:=by simp at hk;omega
 all_goals simp[ZS]
 all_goals omega
theorem q2r(lo hi:Nat)(v:qgb)(q r:Int)(w:qg7)(hI:qe lo hi w v [q,r])(h:0<=q/\q<=1000000)(h':0<=r/\r<=1000000) :qhf Tp.prog 145 #[v] w λe w'=>e=.returned (.int .i64 (q+r))/\w=w':=by
 refine(qbG lo hi v [q,r] w hI (qbH h h')).mono ?_;rintro e w' ⟨rfl,rfl⟩;exact⟨by simp[ZS],rfl⟩
theorem Qt(lo hi:Nat)(yv pv:qgb)(l:List Int)(g:Nat->Int)(w:qg7)(hI:qe lo hi w pv l)(hhi:hi<=w.heap.size)(hx:∀x∈l,0<=x/\x<5)(hl:l.length<=1000)(hg:∀i,0<=g i/\g i<=1000)(c8:∃a b,yv=.agg #[a,b]) :qhf Tp.prog 91 #[yv,pv,wts g] w λe w'=>∃v',e=.returned v'/\w.grownBy w' none/\qe w.heap.size w'.heap.size w' v' (ldL g l):=by
 obtain⟨y1,y2,rfl⟩:=c8;obtain⟨base,cap,rfl,g6,hc⟩:=hI.cell;have b0:∀w,(Instr.makeSlice 29 (.int .i64 l.length) (.int .i64 l.length)).run Tp.prog w=.ok (.slice (some ⟨w.heap.size,0,none⟩) l.length l.length) (w.alloc (.cells (qjE #[.int .i64 0] l.length) 3)):=λw=>by
  have:=run_make (P:=Tp.prog) w 29 3 qpn (.int .i64 0) (by rw[Tp.und];exact ql5) (by rw[Qy _ _ Tp.tables];exact Tryz.type3) rfl .i64 .i64 l.length l.length (by omega) (by omega) (by simp[qpn];omega) (by omega);simpa[Value.cells,qpn] using this
 have b8:=qg4 b0;unfold wts;go_enter Tp.x91,Tryz.ntmps91;go_upto_region 3 with(first | rw[b8.out]);obtain⟨A,hA⟩:∃A,A=w.heap.size:=⟨_,rfl⟩;have hG:w.grownBy (((w.alloc (.cells #[y1,y2] 91)).alloc (qF g)).alloc (.cells (qjE #[.int .i64 0] l.length) 3)) none:=((qg6 _ _ none).trans (qg6 _ _ none)).trans (qg6 _ _ none);have hW:(((w.alloc (.cells #[y1,y2] 91)).alloc (qF g)).alloc (.cells (qjE #[.int .i64 0] l.length) 3)).heap[A+1]?=some (qF g):=qq (by
  have:=qgg (w.alloc (.cells #[y1,y2] 91)) (qF g);rw[qgk,<- hA] at this;exact this)
 have hR:yT (((w.alloc (.cells #[y1,y2] 91)).alloc (qF g)).alloc (.cells (qjE #[.int .i64 0] l.length) 3)) (A+2) l.length λ_=>0:=by
  have:=yT.made ((w.alloc (.cells #[y1,y2] 91)).alloc (qF g)) l.length;rw[qgk,qgk,<- hA] at this;exact this
 rw[<- hA];show Code.wp _ _ _ _ (((w.alloc (.cells #[y1,y2] 91)).alloc (qF g)).alloc (.cells (qjE #[.int .i64 0] l.length) 3));generalize ((w.alloc (.cells #[y1,y2] 91)).alloc (qF g)).alloc (.cells (qjE #[.int .i64 0] l.length) 3)=w1 at hG hW hR ⊢;obtain⟨D,hD⟩:∃D,D=A+2:=⟨_,rfl⟩;obtain⟨V,hV⟩:∃V,V=A+1:=⟨_,rfl⟩;rw[show A+1+1=A+2 from rfl,<- hD,<- hV];rw[<- hD] at hR;rw[<- hV] at hW;have e6:=qg4 (hI.kept hG (by simp));have HG:=qg4 hG;have HW:=qg4 hW;have HR:=qg4 hR;have HA:=qg4 hA;have HX:=qg4 hx;have c3:=qg4 hg;have d8:¬ V=D:=by omega
 have d5:hi<=D/\A<=D:=by omega
 clear hG hW hR hA hD hV hc hI hx hg b8 b0;go_wp2;go_loopw [8] (λi wr=>∃k:Int,i=.int .i64 k/\-2<=k/\k<l.length/\(0<=k->k+1<l.length)/\w1.grownBy wr (some D)/\yT wr D l.length λj=>if k<(j:Int) then loadAt g l j else 0) (λi _=>(qhj i+1).toNat)
 case atStart=>
  refine⟨(l.length:Int) - 2,rfl,by omega,by omega,by omega,qgn _ _,HR.out.congr λi hi=>?_⟩;by_cases e:(l.length:Int) - 2<i
  ·rw[if_pos e,Jq g l i (by omega)]
  ·rw[if_neg e]
 case round=>
  obtain⟨k,rfl,g9,g8,g7,hG,hB⟩:=hrel;by_cases hlt:0<=k
  ·obtain⟨n,rfl⟩:∃n:Nat,k=n:=⟨k.toNat,by omega⟩;have hn:n+1<l.length:=by omega
   have b9:=e6.out.kept hG (by rintro R e;cases e;exact .inr d5.1);obtain⟨e4,cap',he,-,hcell⟩:=b9.cell;cases he;obtain⟨B,o,rfl,k6,k5,k0,b7⟩:=hcell (by intro e;rw[e] at hn;simp at hn);have hp:=b7 (n+1) hn;obtain⟨x,hx⟩:∃x,l[n+1]?=some x:=⟨_,qge hn⟩;obtain⟨e9,e8⟩:=HX.out x (qgj hx);rw[hx] at hp;simp only[qgh] at hp;obtain⟨m,rfl⟩:∃m:Nat,x=m:=⟨x.toNat,by omega⟩;have c9:m<5:=by omega
   have a8:=blk hG (by simp;omega) HW.out;have b6:=ql a8 c9;have a7:=hB.cell (i:=n+1) hn;have hst:=Jp g l n m hx;rw[if_pos (by omega)] at a7;have hb1:=J5 g l (n+1) c3.out hl;have d7:=c3.out m;simp only[Int.toNat_natCast] at hst;have d6:=hB.cell (i:=n) (by omega);have fz:=hB.thaw n;have h9:=hB.lt;have d9:¬ B=D:=by omega
   have h8:V<wr.heap.size:=(qg8.1 a8).1;generalize loadAt g l (n+1)=q at a7 hst hb1;generalize g m=r at b6 hst d7;have e5:=qg4 hst;have a9:=qg4 hG;have HB:=qg4 hB;generalize (if(n:Int)<(n:Int) then loadAt g l n else 0)=z at d6;clear hG hB a8 b7 hcell b9 hx hst;have hni:(n:Int)+1<(l.length:Int):=by omega
   have e7:0<=(n:Int)+1:=by omega
   have g5:IntKind.i64.wrap ((n:Int)+1)=(n:Int)+1:=qgH _ (by omega);have hnt:((n:Int)+1).toNat=n+1:=by omega
   have a6:=qg4 (qgw a7 (qgw hp b6));go_upto_region 5 with(fail);go_region_held3 (λw'=>w'.cell? ⟨D,n+1,none⟩=some (.int .i64 q)/\w'.cell? ⟨B,o+(n+1),none⟩=some (.int .i64 m)/\w'.cell? ⟨V,m,none⟩=some (.int .i64 r))
    (first | exact a6.out | exact⟨YU a6.out.1 (by simp),YU a6.out.2.1 (λe=>d9 (congrArg qns e)),YU a6.out.2.2 (λe=>d8 (congrArg qns e))⟩ | go_keep)
    (first
     | (go_at_call 145;refine(q2r _ _ _ q r _ (by exact qe.laid _ [q,r] 2 rfl (by simp)) (by omega) (by omega)).mono ?_;rintro e w2 ⟨rfl,rfl⟩))
   go_wp2;go_roundw
   case rel=>
    refine⟨(n:Int) - 1,rfl,by omega,by omega,by omega,((a9.out.trans (qf _ _ _ _)).trans (qg6 _ _ _)).trans (qc _ _),?_⟩;refine((HB.out.set (i:=n) (x:=q+r) (by omega)).kept ((qg6 _ _ none).trans (qc _ _)) (by simp)).congr λj hj=>?_;have hst:=e5.out;show(if j=n then q+r else if(n:Int)<(j:Int) then loadAt g l j else 0)=if(n:Int) - 1<(j:Int) then loadAt g l j else 0;by_cases e:j=n
    ·subst e;rw[if_pos rfl,if_pos (by omega),hst]
    ·by_cases e2:(n:Int)<j
     ·rw[if_neg e,if_pos e2,if_pos (by omega)]
     ·rw[if_neg e,if_neg e2,if_neg (by omega)]
   case measure=>simp[qhj]
  ·have a9:=qg4 hG;have HB:=qg4 hB;clear hG hB;go_wp2;go_ret;have hD:=HA.out;refine⟨_,rfl,HG.out.andThen a9.out (by rintro j e;cases e;exact .inl (by omega)),HB.out.ints (by omega) HB.out.lt (by simp[ldL]) (by omega) λi hi=>?_⟩;rw[if_pos (by omega)];simp[ldL,hi]
theorem zG{w:qg7}{base size n:Nat}{e:qgt}{v:qgb}{xs:List qgb}(h:w.ownsRow base e size v n xs):∃a m c,v=.slice a m c:=by
 rcases h.2 with⟨rfl,_⟩ | ⟨g,cap,cur,rfl,_⟩<;>exact⟨_,_,_,rfl⟩
theorem Tp.info141p:(Tp.prog.info? 141).map (λi=>(i.zero,i.size,i.bytes))=some (some .nilIface,1,16):=by kernel_rfl
theorem Tp.und138:Tp.prog.underlying 138=some (.slice 141):=by rw[Tp.und];exact Tryz.underlying138
theorem yZ(g:Nat->Int)(l:List Int):(ldL g l).length=l.length:=by simp[ldL]
theorem JW(g:Nat->Int)(l:List Int)(i:Nat)(h:i<l.length):(ldL g l)[i]?.getD 0=loadAt g l i:=by simp[ldL,h]
def K3(p:Par)(load:Int):qgt:=if p.bears<load then 170 else 171
theorem qax(p:Par)(load:Int):(if p.bears<load then Value.iface 170 (.agg #[]) else .iface 171 (.agg #[]))=.iface (K3 p load) (.agg #[]):=by unfold K3;split<;>rfl
def K0(p:Par)(load:Int):qgb:=.iface (K3 p load) (.agg #[])
theorem Yv{w:qg7}{b b' size n:Nat}{e:qgt}{v:qgb}{xs:List qgb}(h:w.ownsRow b e size v n xs)(hb:b'<=b):w.ownsRow b' e size v n xs:=by
 obtain⟨h1,h2⟩:=h;refine⟨h1,?_⟩;rcases h2 with h2 | ⟨g,cap,cur,e1,e2,e3⟩
 ·exact .inl h2
 ·exact .inr ⟨g,cap,cur,e1,qgi hb e2,e3⟩
def K4(ps:List Par)(g:Nat->Int)(l:List Int)(i:Nat):qgb:=match ps[(l[i]?.getD 0).toNat]? with | some p=>K0 p (loadAt g l i) | none=>.nilIface
def kG(ps:List Par)(g:Nat->Int)(l:List Int):List qgb:=(qgB l.length).map (K4 ps g l)
theorem q3u(ps:List Par)(g:Nat->Int)(l:List Int)(k:Nat)(h:k<l.length):(kG ps g l).take (k+1)=(kG ps g l).take k++[K4 ps g l k]:=by
 rw[qhd];simp[kG,h]
theorem q84(lo hi:Nat)(yv pv:qgb)(ps:List Par)(lim:Int)(l:List Int)(g:Nat->Int)(w:qg7)(hY:ji lo hi w yv ps lim)(hI:qe lo hi w pv l)(hhi:hi<=w.heap.size)(h5:ps.length<=5)(hx:∀x∈l,0<=x/\x<ps.length)(hl:l.length<=1000)(hg:∀i,0<=g i/\g i<=1000) :qhf Tp.prog 126 #[yv,pv,wts g] w λe w'=>∃v',e=.returned v'/\w.grownBy w' none/\w'.ownsRow w.heap.size 141 1 v' l.length (kG ps g l):=by
 obtain⟨i0,g9,g8,g7,g6⟩:=qiv Tp.info141p;obtain⟨qv,rfl,hP⟩:=hY;obtain⟨yb,yc,rfl,l4,-⟩:=hP.cell;obtain⟨base,cap,rfl,m3,-⟩:=hI.cell;obtain⟨A,hA⟩:∃A,A=w.heap.size:=⟨_,rfl⟩;obtain⟨w1,a6⟩:∃w1,w1=(w.alloc (.cells #[.slice yb ps.length yc,.int .i64 lim] 91)).alloc (qF g):=⟨_,rfl⟩;have b9:w.grownBy w1 none:=by rw[a6];exact(qg6 _ _ none).trans (qg6 _ _ none)
 have b6:w1.heap[A]?=some (.cells #[.slice yb ps.length yc,.int .i64 lim] 91 (0,0)):=by rw[a6,hA];exact qq (qgg w _)
 have a7:w1.heap[A+1]?=some (qF g):=by
  rw[a6];have:=qgg (w.alloc (.cells #[.slice yb ps.length yc,.int .i64 lim] 91)) (qF g);rw[qgk,<- hA] at this;exact this
 have l8:w1.heap.size=A+2:=by rw[a6,qgk,qgk,hA]
 have e6:=qg4 (hI.kept b9 (by simp));have k0:=qg4 (hP.kept b9 (by simp));have HX:=qg4 hx;have k6:=qg4 hg;have h9:=qg4 a6;have HA:=qg4 hA;have e8:=qg4 b9;have n3:=qg4 b6;have q0:=q8 b6 (o:=0) rfl;have q1:=q8 b6 (o:=1) rfl;have r0:=ql a7 (show 0<5 by omega);have r1:=ql a7 (show 1<5 by omega);have r2:=ql a7 (show 2<5 by omega);have r3:=ql a7 (show 3<5 by omega);have r4:=ql a7 (show 4<5 by omega);have m4:hi<=A:=by omega
 clear hI hP hx hg a6 hA b9 b6 a7;unfold wts;go_enter Tp.x126,Tryz.ntmps126;go_upto_region 2 with(fail);rw[<- HA.out,show(w.alloc (.cells #[.slice yb ps.length yc,.int .i64 lim] 91)).alloc (.cells #[.int .i64 (g 0),.int .i64 (g 1),.int .i64 (g 2),.int .i64 (g 3),.int .i64 (g 4)] 101)=w1 from h9.out.symm];go_wp2_with (first | (go_at_call 91;go_must (refine(Qt lo hi _ _ l g _ e6.out (by omega) (by intro x hx;have:=HX.out x hx;omega) hl k6.out ⟨_,_,rfl⟩).mono ?_);rintro e w2 ⟨lv,rfl,d8,hL2⟩;have b0:=hL2.cell;rw[yZ] at b0;obtain⟨lb,lc,rfl,-,b0⟩:=b0;have k8:=qg4 b0;clear b0;have b7:=qg4 d8;have n2:=qg4 hL2;clear d8 hL2));have e9:=b7.out.cell q0 (by simp);have l7:=b7.out.size;clear r0 r1 r2 r3 r4 q0 q1;go_loopw [7,15] (λov iv wr=>∃k:Nat,iv=.int .i64 k/\k<=l.length/\w2.grownBy wr none/\wr.ownsRow w2.heap.size 141 1 ov k ((kG ps g l).take k)) (λ_ iv _=>(l.length - qhj iv).toNat)
 case atStart=>exact⟨0,rfl,by omega,qgn _ _,qiq _ _ _ _⟩
 case round=>
  obtain⟨k,rfl,hk,hG,hO⟩:=hrel;obtain⟨oa,om,oc,rfl⟩:=zG hO;have HG:=qg4 hG;have HO:=qg4 hO;have k9:=hG.cell e9 (by simp);have l6:=hG.size;by_cases hlt:k<l.length
  ·have e5:=(e6.out.kept b7.out (by simp)).kept hG (by simp);have e4:=(k0.out.kept b7.out (by simp)).kept hG (by simp);obtain⟨b1,c1,he,-,hc⟩:=e5.cell;cases he;obtain⟨B,o,rfl,b6,m9,m8,d9⟩:=hc (by intro e;rw[e] at hlt;simp at hlt);have hx:=d9 k hlt;obtain⟨x,b8⟩:∃x,l[k]?=some x:=⟨_,qge hlt⟩;obtain⟨l5,c8⟩:=HX.out x (qgj b8);rw[b8] at hx;simp only[qgh] at hx;obtain⟨m,rfl⟩:∃m:Nat,x=m:=⟨x.toNat,by omega⟩;obtain⟨b2,c2,he,-,hc⟩:=e4.cell;cases he;obtain⟨YB,yo,rfl,m7,m6,m5,d7⟩:=hc (by intro e;rw[e] at c8;simp at c8;omega);obtain⟨p,hp,p0,p1,p2,p3⟩:=d7 m (by omega);obtain⟨LB,lo',rfl,hL1,hL2,hL3,hL4⟩:=k8.out (by intro e;have:=yZ g l;rw[e] at this;simp at this;omega);have d5:=HG.out.cell (hL4 k hlt) (by simp);rw[JW g l k hlt] at d5;have d6:Hid (K4 ps g l k=K0 p (loadAt g l k)):=qg4 (by unfold K4;rw[b8];simp[hp]);have l9:(m:Int)<(ps.length:Int):=c8;generalize loadAt g l k=ld at d5 d6;clear hG hO e5 e4 hc d9 d7 hL4 b8 hp;go_wp2;go_region_law
    (first
     | (go_simp;go_at_call 160;refine(q5j p ld _).mono ?_;rintro e w3 ⟨rfl,c9⟩;rw[qax];have g5:=c9.size;have e7:=qg4 ((qc wr none).trans c9);clear c9)
     | (refine step_append_lies _ (by rfl) _ _ _ (by rfl) w2.heap.size 141 i0 _ 1 16 Tp.und138 g9 g8 g7 g6 rfl (by omega) (.slice oa om oc) k ((kG ps g l).take k) (by rfl) (by exact(HO.out.kept e7.out (by cases(qh7 oa om oc).ownBlock<;>simp)).alloc _) ⟨w3.heap.size,0,none⟩ 1 1 [.iface (K3 p ld) (.agg #[])] (by rfl) (by rfl) (qhx (cs:=#[.iface (K3 p ld) (.agg #[])]) (t:=141) (fr:=(0,0)) (qgg w3 _)) (by simp[qid]) (by omega) (by unfold qk9;omega) (by omega) (by simp at g5 ⊢;omega) (w3.heap.size+1) (by simp) ?_;intro gg cap w5 a8 a9 h8 hgl;have k5:=qg4 a8;have k7:=qg4 a9;clear a8 a9 h8 hgl))
   all_goals
    have c3:w2.grownBy w5 none:=((HG.out.trans e7.out).trans (qg6 _ _ none)).andThen k7.out (λj e=>.inl (HO.out.lt j e).1);have HF:=qg4 c3;clear c3;go_wp2;go_roundw
    case rel=>
     refine⟨k+1,by simp,by omega,HF.out,?_⟩;rw[q3u ps g l k hlt,d6.out];exact k5.out
    case measure=>simp[qhj];omega
  ·obtain rfl:k=l.length:=by omega
   clear hG hO;go_wp2;go_ret;have h0:=HO.out;rw[show(kG ps g l).take l.length=kG ps g l from qmB (by simp[kG])] at h0;refine⟨_,rfl,(e8.out.trans b7.out).trans HG.out,?_⟩;exact Yv h0 (by have:=e8.out.size;omega)
theorem jN{w:qg7}{base n:Nat}{e:qgt}{v:qgb}{xs:List qgb}(h:w.ownsRow base e 1 v n xs) :∃a c,v=.slice a n c/\(0<n->∃g,a=some ⟨g,0,none⟩/\base<=g/\g<w.heap.size/\∀i,i<n->w.cell? ⟨g,i,none⟩=xs[i]?):=by
 rcases h.2 with⟨rfl,h0⟩ | ⟨g,cap,cur,rfl,hb,hg,hr⟩
 ·exact⟨_,_,by rw[h0],λhn=>by omega⟩
 ·exact⟨_,_,rfl,λ_=>⟨g,rfl,hb,(qg8.1 hg).1,λi hi=>h.cellAt i (by omega)⟩⟩
@[simp] theorem ta170(w:qg7):(qkk (.iface 170 (.agg #[])) 141 170 true).run Tp.prog w=.ok (.tuple #[.agg #[],.bool true]) w:=by kernel_rfl
@[simp] theorem qg5(w:qg7):(qkk (.iface 171 (.agg #[])) 141 170 true).run Tp.prog w=.ok (.tuple #[.agg #[],.bool false]) w:=by kernel_rfl
@[simp] theorem ta171(w:qg7):(qkk (.iface 171 (.agg #[])) 141 171 true).run Tp.prog w=.ok (.tuple #[.agg #[],.bool true]) w:=by kernel_rfl
def yz(ps:List Par)(g:Nat->Int)(l:List Int)(i:Nat):Bool:=match ps[(l[i]?.getD 0).toNat]? with | some p=>decide (loadAt g l i<=p.bears) | none=>false
def qp(ps:List Par)(g:Nat->Int)(l:List Int):Bool:=(qgB l.length).all (yz ps g l)
theorem kw(lo hi:Nat)(yv pv:qgb)(ps:List Par)(lim:Int)(l:List Int)(g:Nat->Int)(w:qg7)(hY:ji lo hi w yv ps lim)(hI:qe lo hi w pv l)(hhi:hi<=w.heap.size)(h5:ps.length<=5)(hx:∀x∈l,0<=x/\x<ps.length)(hl:l.length<=1000)(hg:∀i,0<=g i/\g i<=1000) :qhf Tp.prog 96 #[yv,pv,wts g] w λe w'=>e=.returned (.bool (qp ps g l))/\w.grownBy w' none:=by
 obtain⟨qv,rfl,hP⟩:=hY;obtain⟨yb,yc,rfl,d9,-⟩:=hP.cell;obtain⟨base,cap,rfl,e7,-⟩:=hI.cell;obtain⟨A,hA⟩:∃A,A=w.heap.size:=⟨_,rfl⟩;obtain⟨w1,a6⟩:∃w1,w1=(w.alloc (.cells #[.slice yb ps.length yc,.int .i64 lim] 91)).alloc (qF g):=⟨_,rfl⟩;have a9:w.grownBy w1 none:=by rw[a6];exact(qg6 _ _ none).trans (qg6 _ _ none)
 have b6:w1.heap[A]?=some (.cells #[.slice yb ps.length yc,.int .i64 lim] 91 (0,0)):=by rw[a6,hA];exact qq (qgg w _)
 have a7:w1.heap[A+1]?=some (qF g):=by
  rw[a6];have:=qgg (w.alloc (.cells #[.slice yb ps.length yc,.int .i64 lim] 91)) (qF g);rw[qgk,<- hA] at this;exact this
 have e6:w1.heap.size=A+2:=by rw[a6,qgk,qgk,hA]
 have d6:=qg4 (hI.kept a9 (by simp));have c9:=qg4 (show ji lo hi w1 (.agg #[.slice yb ps.length yc,.int .i64 lim]) ps lim from⟨_,rfl,hP.kept a9 (by simp)⟩);have HX:=qg4 hx;have d7:=qg4 hg;have d5:=qg4 a6;have HA:=qg4 hA;have c8:=qg4 a9;have q0:=q8 b6 (o:=0) rfl;have q1:=q8 b6 (o:=1) rfl;have r0:=ql a7 (show 0<5 by omega);have r1:=ql a7 (show 1<5 by omega);have r2:=ql a7 (show 2<5 by omega);have r3:=ql a7 (show 3<5 by omega);have r4:=ql a7 (show 4<5 by omega);have e8:hi<=A:=by omega
 clear hI hP hx hg a6 hA a9 b6 a7;unfold wts;go_enter Tp.x96,Tryz.ntmps96;go_upto_region 1 with(fail);rw[<- HA.out,show(w.alloc (.cells #[.slice yb ps.length yc,.int .i64 lim] 91)).alloc (.cells #[.int .i64 (g 0),.int .i64 (g 1),.int .i64 (g 2),.int .i64 (g 3),.int .i64 (g 4)] 101)=w1 from d5.out.symm];go_wp2_with (first | (go_at_call 126;go_must (refine(q84 lo hi _ _ ps lim l g _ c9.out d6.out (by omega) h5 HX.out hl d7.out).mono ?_);rintro e w2 ⟨lv,rfl,b8,hL2⟩;obtain⟨lb,lc,rfl,b7⟩:=jN hL2;have c3:=qg4 b8;have d8:=qg4 b7;clear b8 hL2 b7));clear r0 r1 r2 r3 r4 q0 q1;go_loopw [14] (λiv wr=>∃k:Nat,iv=.int .i64 k/\k<=l.length/\(∀i,i<k->yz ps g l i=true)/\w2=wr) (λiv _=>(l.length - qhj iv).toNat)
 case atStart=>exact⟨0,rfl,by omega,λi hi=>absurd hi (by omega),rfl⟩
 case round=>
  obtain⟨k,rfl,hk,hok,rfl⟩:=hrel;have b9:=qg4 hok;clear hok;by_cases hlt:k<l.length
  ·obtain⟨LB,rfl,hL1,hL2,hL3⟩:=d8.out (by omega);have b0:=hL3 k hlt;obtain⟨x,a8⟩:∃x,l[k]?=some x:=⟨_,qge hlt⟩;obtain⟨e5,e4⟩:=HX.out x (qgj a8);obtain⟨p,hp⟩:∃p,ps[x.toNat]?=some p:=⟨_,qge (by omega)⟩;have hok:yz ps g l k=decide (loadAt g l k<=p.bears):=by unfold yz;rw[a8];simp[hp]
   rw[show(kG ps g l)[k]?=some (K0 p (loadAt g l k)) by simp only[kG,qj1,List.getElem?_range hlt,qi1,K4,a8,qgh,hp]] at b0;by_cases hb:p.bears<loadAt g l k
   ·rw[show K0 p (loadAt g l k)=.iface 170 (.agg #[]) by simp[K0,K3,hb]] at b0;have hf:Hid (qp ps g l=false):=qg4 (by
     have:yz ps g l k=false:=by rw[hok];simp;omega
     unfold qp;rw[Bool.eq_false_iff];intro h;rw[qh9] at h;have:=h k (by simp[hlt])
     simp_all)
    clear hL3 hok hp a8 hb;go_wp2;go_ret;exact⟨by rw[hf.out];rfl,c8.out.trans c3.out⟩
   ·rw[show K0 p (loadAt g l k)=.iface 171 (.agg #[]) by simp[K0,K3,hb]] at b0;have hf:Hid (yz ps g l k=true):=qg4 (by rw[hok];simp;omega);clear hL3 hok hp a8 hb;go_wp2;go_roundw
    case rel=>
     refine⟨k+1,by simp,by omega,λi hi=>?_,by first | rfl | trivial⟩;by_cases e:i=k
     ·rw[e];exact hf.out
     ·exact b9.out i (by omega)
    case measure=>simp[qhj];omega
  ·obtain rfl:k=l.length:=by omega
   have hf:Hid (qp ps g l=true):=qg4 (by
    unfold qp;rw[qh9];intro i hi;exact b9.out i (by simpa using hi))
   go_wp2;go_ret;exact⟨by rw[hf.out];rfl,c8.out.trans c3.out⟩
theorem yJ(x lo hi:Int)(w:qg7)(h1:lo<=x)(h2:x<=hi) :qhf Tp.prog 110 #[.int .i64 x,.int .i64 lo,.int .i64 hi] w λe w'=>e=.returned (.bool true)/\w=w':=by
 go_enter Tp.x110,qp6;go_wp2;go_ret;exact⟨rfl,rfl⟩
theorem km(x lo hi:Int)(w:qg7)(h1:¬ (lo<=x/\x<=hi)) :qhf Tp.prog 110 #[.int .i64 x,.int .i64 lo,.int .i64 hi] w λe w'=>e=.returned (.bool false)/\w=w':=by
 by_cases h2:lo<=x
 ·have h3:¬ x<=hi:=λh=>h1 ⟨h2,h⟩;clear h1;go_enter Tp.x110,qp6;go_wp2;go_ret;exact⟨rfl,rfl⟩
 ·clear h1;go_enter Tp.x110,qp6;go_wp2;go_ret;exact⟨rfl,rfl⟩
def KG(p:Par):Int:=if 1<=p.mn/\p.mn<=12 then if 1<=p.mx/\p.mx<=12 then if p.mx<p.mn then 5 else if 0<=p.bears/\p.bears<=30 then if 1<=p.tall/\p.tall<=3 then 0 else 1 else 1 else 1 else 1
theorem q24(a b c d:Int)(w:qg7)(h1:¬ (1<=a/\a<=12)) :qhf Tp.prog 109 #[.agg #[.int .i64 a,.int .i64 b,.int .i64 c,.int .i64 d]] w λe w'=>e=.returned (.int .i64 1)/\w.grownBy w' none:=by
 have HH:=qg4 h1;clear h1;go_enter Tp.x109,qmc;go_wp2_with (first
  | (go_at_call 110;refine(yJ _ _ _ _ (by have:=HH.out;omega) (by have:=HH.out;omega)).mono ?_;rintro e w' ⟨rfl,rfl⟩)
  | (go_at_call 110;go_must (refine(km _ _ _ _ (by have:=HH.out;omega)).mono ?_);rintro e w' ⟨rfl,rfl⟩))
 go_ret;exact⟨rfl,qg6 _ _ _⟩
theorem q23(a b c d:Int)(w:qg7)(h1:1<=a/\a<=12)(h2:¬ (1<=b/\b<=12)) :qhf Tp.prog 109 #[.agg #[.int .i64 a,.int .i64 b,.int .i64 c,.int .i64 d]] w λe w'=>e=.returned (.int .i64 1)/\w.grownBy w' none:=by
 have HH:=qg4 (qgw h1 h2);clear h1 h2;go_enter Tp.x109,qmc;go_wp2_with (first
  | (go_at_call 110;refine(yJ _ _ _ _ (by have:=HH.out;omega) (by have:=HH.out;omega)).mono ?_;rintro e w' ⟨rfl,rfl⟩)
  | (go_at_call 110;go_must (refine(km _ _ _ _ (by have:=HH.out;omega)).mono ?_);rintro e w' ⟨rfl,rfl⟩))
 go_ret;exact⟨rfl,qg6 _ _ _⟩
theorem q22(a b c d:Int)(w:qg7)(h1:1<=a/\a<=12)(h2:1<=b/\b<=12)(h3:b<a) :qhf Tp.prog 109 #[.agg #[.int .i64 a,.int .i64 b,.int .i64 c,.int .i64 d]] w λe w'=>e=.returned (.int .i64 5)/\w.grownBy w' none:=by
 have HH:=qg4 (qgw h1 (qgw h2 h3));clear h1 h2;go_enter Tp.x109,qmc;go_wp2_with (first
  | (go_at_call 110;refine(yJ _ _ _ _ (by have:=HH.out;omega) (by have:=HH.out;omega)).mono ?_;rintro e w' ⟨rfl,rfl⟩)
  | (go_at_call 110;go_must (refine(km _ _ _ _ (by have:=HH.out;omega)).mono ?_);rintro e w' ⟨rfl,rfl⟩))
 go_ret;exact⟨rfl,qg6 _ _ _⟩
theorem q21(a b c d:Int)(w:qg7)(h1:1<=a/\a<=12)(h2:1<=b/\b<=12)(h3:¬ b<a)(h4:¬ (0<=c/\c<=30)) :qhf Tp.prog 109 #[.agg #[.int .i64 a,.int .i64 b,.int .i64 c,.int .i64 d]] w λe w'=>e=.returned (.int .i64 1)/\w.grownBy w' none:=by
 have HH:=qg4 (qgw h1 (qgw h2 (qgw h3 h4)));clear h1 h2 h4;go_enter Tp.x109,qmc;go_wp2_with (first
  | (go_at_call 110;refine(yJ _ _ _ _ (by have:=HH.out;omega) (by have:=HH.out;omega)).mono ?_;rintro e w' ⟨rfl,rfl⟩)
  | (go_at_call 110;go_must (refine(km _ _ _ _ (by have:=HH.out;omega)).mono ?_);rintro e w' ⟨rfl,rfl⟩))
 go_ret;exact⟨rfl,qg6 _ _ _⟩
theorem q20(a b c d:Int)(w:qg7)(h1:1<=a/\a<=12)(h2:1<=b/\b<=12)(h3:¬ b<a)(h4:0<=c/\c<=30)(h5:¬ (1<=d/\d<=3)) :qhf Tp.prog 109 #[.agg #[.int .i64 a,.int .i64 b,.int .i64 c,.int .i64 d]] w λe w'=>e=.returned (.int .i64 1)/\w.grownBy w' none:=by
 have HH:=qg4 (qgw h1 (qgw h2 (qgw h3 (qgw h4 h5))));clear h1 h2 h4 h5;go_enter Tp.x109,qmc;go_wp2_with (first
  | (go_at_call 110;refine(yJ _ _ _ _ (by have:=HH.out;omega) (by have:=HH.out;omega)).mono ?_;rintro e w' ⟨rfl,rfl⟩)
  | (go_at_call 110;go_must (refine(km _ _ _ _ (by have:=HH.out;omega)).mono ?_);rintro e w' ⟨rfl,rfl⟩))
 go_ret;exact⟨rfl,qg6 _ _ _⟩
theorem q1H(a b c d:Int)(w:qg7)(h1:1<=a/\a<=12)(h2:1<=b/\b<=12)(h3:¬ b<a)(h4:0<=c/\c<=30)(h5:1<=d/\d<=3) :qhf Tp.prog 109 #[.agg #[.int .i64 a,.int .i64 b,.int .i64 c,.int .i64 d]] w λe w'=>e=.returned (.int .i64 0)/\w.grownBy w' none:=by
 have HH:=qg4 (qgw h1 (qgw h2 (qgw h3 (qgw h4 h5))));clear h1 h2 h4 h5;go_enter Tp.x109,qmc;go_wp2_with (first
  | (go_at_call 110;refine(yJ _ _ _ _ (by have:=HH.out;omega) (by have:=HH.out;omega)).mono ?_;rintro e w' ⟨rfl,rfl⟩)
  | (go_at_call 110;go_must (refine(km _ _ _ _ (by have:=HH.out;omega)).mono ?_);rintro e w' ⟨rfl,rfl⟩))
 go_ret;exact⟨rfl,qg6 _ _ _⟩
theorem xC(p:Par)(w:qg7):qhf Tp.prog 109 #[.agg #[.int .i64 p.mn,.int .i64 p.mx,.int .i64 p.bears,.int .i64 p.tall]] w λe w'=>e=.returned (.int .i64 (KG p))/\w.grownBy w' none:=by
 unfold KG;by_cases h1:1<=p.mn/\p.mn<=12
 ·by_cases h2:1<=p.mx/\p.mx<=12
  ·by_cases h3:p.mx<p.mn
   ·rw[if_pos h1,if_pos h2,if_pos h3];exact q22 _ _ _ _ w h1 h2 h3
   ·by_cases h4:0<=p.bears/\p.bears<=30
    ·by_cases h5:1<=p.tall/\p.tall<=3
     ·rw[if_pos h1,if_pos h2,if_neg h3,if_pos h4,if_pos h5];exact q1H _ _ _ _ w h1 h2 h3 h4 h5
     ·rw[if_pos h1,if_pos h2,if_neg h3,if_pos h4,if_neg h5];exact q20 _ _ _ _ w h1 h2 h3 h4 h5
    ·rw[if_pos h1,if_pos h2,if_neg h3,if_neg h4];exact q21 _ _ _ _ w h1 h2 h3 h4
  ·rw[if_pos h1,if_neg h2];exact q23 _ _ _ _ w h1 h2
 ·rw[if_neg h1];exact q24 _ _ _ _ w h1
def Kb(ps:List Par)(lim:Int):Int:=if 5<ps.length then 6 else match ps.find? (λp=>decide (KG p≠0)) with
 | some p=>KG p
 | none=>if 1<=lim/\lim<=12 then 0 else 1
theorem q6u{Y:Type}(q:Y->Bool)(l:List Y)(k:Nat)(x:Y)(h:l[k]?=some x)(hq:q x=true)(hb:∀(i:Nat) (y:Y),i<k->l[i]?=some y->q y=false):l.find? q=some x:=by
 induction l generalizing k with
 | nil=>simp at h
 | cons a t ih=>
  cases k with
  | zero=>simp at h;subst h;simp[hq]
  | succ k=>
   rw[List.find?_cons_of_neg (by rw[hb 0 a (by omega) (by simp)];simp)];exact ih k (by simpa using h) (λi y hi hy=>hb (i+1) y (by omega) (by simpa using hy))
theorem q1z{Y:Type}(q:Y->Bool)(l:List Y)(hb:∀(i:Nat) (y:Y),l[i]?=some y->q y=false):l.find? q=none:=by
 rw[List.find?_eq_none];intro x hx;obtain⟨i,hi⟩:=qna hx;rw[hb i x hi];simp
theorem q8g(lo hi:Nat)(yv:qgb)(ps:List Par)(lim:Int)(w:qg7)(hY:ji lo hi w yv ps lim)(hhi:hi<=w.heap.size) :qhf Tp.prog 52 #[yv] w λe w'=>e=.returned (.int .i64 (Kb ps lim))/\w.grownBy w' none:=by
 obtain⟨qv,rfl,hP⟩:=hY;obtain⟨yb,yc,rfl,d9,-⟩:=hP.cell;by_cases h5:5<ps.length
 ·have HR:=qg4 (show Kb ps lim=6 by unfold Kb;rw[if_pos h5]);have c9:(5:Int)<ps.length:=by omega
  clear hP;go_enter Tp.x52,Tryz.ntmps52;go_wp2;go_ret;exact⟨by rw[HR.out];rfl,qg6 _ _ _⟩
 ·obtain⟨A,hA⟩:∃A,A=w.heap.size:=⟨_,rfl⟩;obtain⟨w1,a7⟩:∃w1,w1=w.alloc (.cells #[.slice yb ps.length yc,.int .i64 lim] 24):=⟨_,rfl⟩;have b0:w.grownBy w1 none:=by rw[a7];exact qg6 _ _ none
  have b6:w1.heap[A]?=some (.cells #[.slice yb ps.length yc,.int .i64 lim] 24 (0,0)):=by rw[a7,hA];exact qgg w _
  have d6:=qg4 (hP.kept b0 (by simp));have d5:=qg4 a7;have HA:=qg4 hA;have b8:=qg4 b0;have q0:=q8 b6 (o:=0) rfl;have q1:=q8 b6 (o:=1) rfl;have c9:¬ (5:Int)<ps.length:=by omega
  clear hP a7 hA b0 b6;go_enter Tp.x52,Tryz.ntmps52;go_upto_region 1 with(fail);rw[<- HA.out,show w.alloc (.cells #[.slice yb ps.length yc,.int .i64 lim] 24)=w1 from d5.out.symm];go_wp2;go_loopw [13] (λiv wr=>∃k:Nat,iv=.int .i64 k/\k<=ps.length/\(∀i p,i<k->ps[i]?=some p->KG p=0)/\w1.grownBy wr none) (λiv _=>(ps.length - qhj iv).toNat)
  case atStart=>exact⟨0,rfl,by omega,λi p hi=>absurd hi (by omega),qgn _ _⟩
  case round=>
   obtain⟨k,rfl,hk,hok,hG⟩:=hrel;have a8:=qg4 hok;have HG:=qg4 hG;have c3:=d6.out.kept hG (by simp);have d8:=hG.cell q0 (by simp);have d7:=hG.cell q1 (by simp);clear hok hG;by_cases hlt:k<ps.length
   ·obtain⟨b2,c2,he,-,hc⟩:=c3.cell;cases he;obtain⟨YB,yo,rfl,e6,e5,e4,b9⟩:=hc (by intro e;rw[e] at hlt;simp at hlt);obtain⟨p,hp,p0,p1,p2,p3⟩:=b9 k (by omega);have c8:=qg4 hp;clear hc b9 hp c3;by_cases hz:KG p=0
    ·go_wp2_with (first | (go_at_call 109;go_must (refine(xC p _).mono ?_);rintro e w3 ⟨rfl,a6⟩;rw[hz];have b7:=qg4 a6;clear a6));go_roundw
     case rel=>
      refine⟨k+1,by simp,by omega,λi q hi hq=>?_,(HG.out.trans (qg6 _ _ _)).trans b7.out⟩;by_cases e:i=k
      ·subst e;rw[c8.out] at hq;cases hq;exact hz
      ·exact a8.out i q (by omega) hq
     case measure=>simp[qhj];omega
    ·have HR:=qg4 (show Kb ps lim=KG p by
      unfold Kb;rw[if_neg h5,q6u _ ps k p c8.out (by simp[hz]) (λi y hi hy=>by simp[a8.out i y hi hy])])
     obtain⟨z,a9⟩:∃z,KG p=z:=⟨_,rfl⟩;rw[a9] at hz HR;have HZ:=qg4 a9;clear a9;go_wp2_with (first | (go_at_call 109;go_must (refine(xC p _).mono ?_);rintro e w3 ⟨rfl,a6⟩;rw[HZ.out];have b7:=qg4 a6;clear a6));go_ret;exact⟨by rw[HR.out];rfl,((b8.out.trans HG.out).trans (qg6 _ _ _)).trans b7.out⟩
   ·obtain rfl:k=ps.length:=by omega
    by_cases hl:1<=lim/\lim<=12
    ·have HR:=qg4 (show Kb ps lim=0 by
      unfold Kb;rw[if_neg h5,q1z _ ps (λi y hy=>by simp[a8.out i y (qgo.1 hy).1 hy])];exact if_pos hl)
     go_wp2_with (first | (go_at_call 110;go_must (refine(yJ _ _ _ _ hl.1 hl.2).mono ?_);rintro e w' ⟨rfl,rfl⟩));go_ret;exact⟨by rw[HR.out];rfl,b8.out.trans HG.out⟩
    ·have HR:=qg4 (show Kb ps lim=1 by
      unfold Kb;rw[if_neg h5,q1z _ ps (λi y hy=>by simp[a8.out i y (qgo.1 hy).1 hy])];exact if_neg hl)
     have HL:=qg4 hl;clear hl;go_wp2_with (first | (go_at_call 110;go_must (refine(km _ _ _ _ HL.out).mono ?_);rintro e w' ⟨rfl,rfl⟩));go_ret;exact⟨by rw[HR.out];rfl,b8.out.trans HG.out⟩
theorem qbe:∀m:Fin 32,∀n:Fin 5,(bits .and .u8 (m.1:Int) ((2 ^ n.1:Nat):Int) != 0)=m.1.testBit n.1:=by decide
theorem qd8:∀m:Fin 32,∀n:Fin 5,bits .or .u8 (m.1:Int) ((2 ^ n.1:Nat):Int)=((m.1 ||| 2 ^ n.1:Nat):Int):=by decide
@[simp] theorem qg3(w:qg7):(qmo 205 (.agg #[.int .u8 1,.int .u8 2,.int .u8 4,.int .u8 8,.int .u8 16]) (.int .i64 0)).run Tp.prog w=.ok (.int .u8 1) w:=by kernel_rfl
@[simp] theorem qg2(w:qg7):(qmo 205 (.agg #[.int .u8 1,.int .u8 2,.int .u8 4,.int .u8 8,.int .u8 16]) (.int .i64 1)).run Tp.prog w=.ok (.int .u8 2) w:=by kernel_rfl
@[simp] theorem qg1(w:qg7):(qmo 205 (.agg #[.int .u8 1,.int .u8 2,.int .u8 4,.int .u8 8,.int .u8 16]) (.int .i64 2)).run Tp.prog w=.ok (.int .u8 4) w:=by kernel_rfl
@[simp] theorem qg0(w:qg7):(qmo 205 (.agg #[.int .u8 1,.int .u8 2,.int .u8 4,.int .u8 8,.int .u8 16]) (.int .i64 3)).run Tp.prog w=.ok (.int .u8 8) w:=by kernel_rfl
@[simp] theorem qfH(w:qg7):(qmo 205 (.agg #[.int .u8 1,.int .u8 2,.int .u8 4,.int .u8 8,.int .u8 16]) (.int .i64 4)).run Tp.prog w=.ok (.int .u8 16) w:=by kernel_rfl
theorem xu(n:Nat)(w:qg7)(h:n<5):qhf Tp.prog 153 #[.int .i64 n] w λe w'=>e=.returned (.int .u8 ((2 ^ n:Nat):Int))/\w=w':=by
 obtain rfl | rfl | rfl | rfl | rfl:n=0\/n=1\/n=2\/n=3\/n=4:=by omega
 all_goals
  go_enter Tp.x153,Tryz.ntmps153;go_wp2;go_ret;exact⟨rfl,rfl⟩
theorem q6r(m n:Nat)(w:qg7)(hm:m<32)(h:n<5):qhf Tp.prog 129 #[.int .u8 m,.int .i64 n] w λe w'=>e=.returned (.bool (m.testBit n))/\w=w':=by
 have hb:=qbe ⟨m,hm⟩ ⟨n,h⟩;simp only at hb;have HB:=qg4 hb;clear hb;obtain⟨z,hz⟩:∃z:Int,((2 ^ n:Nat):Int)=z:=⟨_,rfl⟩;have HZ:=qg4 hz;clear hz;go_enter Tp.x129,Tryz.ntmps129;go_wp2_with (first | (go_at_call 153;go_must (refine(xu n _ h).mono ?_);rintro e w' ⟨rfl,rfl⟩;rw[HZ.out]));go_ret;exact⟨by rw[<- HB.out,HZ.out];rfl,rfl⟩
theorem Y1(m n:Nat)(w:qg7)(hm:m<32)(h:n<5):qhf Tp.prog 151 #[.int .u8 m,.int .i64 n] w λe w'=>e=.returned (.int .u8 ((m ||| 2 ^ n:Nat):Int))/\w=w':=by
 have hb:=qd8 ⟨m,hm⟩ ⟨n,h⟩;simp only at hb;have HB:=qg4 hb;clear hb;obtain⟨z,hz⟩:∃z:Int,((2 ^ n:Nat):Int)=z:=⟨_,rfl⟩;have HZ:=qg4 hz;clear hz;go_enter Tp.x151,Tryz.ntmps151;go_wp2_with (first | (go_at_call 153;go_must (refine(xu n _ h).mono ?_);rintro e w' ⟨rfl,rfl⟩;rw[HZ.out]));go_ret;exact⟨by rw[<- HB.out,HZ.out];rfl,rfl⟩
theorem qa9(k:Int)(w:qg7):qhf Tp.prog 162 #[.bool true,.int .i64 k] w λe w'=>e=.returned (.tuple #[])/\w=w':=by
 go_enter Tp.x162,Tryz.ntmps162;go_wp2;go_end0;exact⟨rfl,rfl⟩
theorem q5v(p:qho)(w:qg7) :CallsD Tp.prog 161 #[.pointer (some p)] .returning w λe u' w'=>e=.returned (.tuple #[])/\u'=.returning/\w'=w.alloc (.cells #[.int .i64 0] 181):=by
 have a6:∀w,(qkk .nilIface 20 181 true).run Tp.prog w=.ok (.tuple #[.agg #[.int .i64 0],.bool false]) w:=λw=>by kernel_rfl
 refine callsD_of_wpS Tp.x161 rfl λc₀ cs hu=>?_;apply wpS_seq;apply qob;simp[wpOpsS,go_sem,recoverD,hu,qnD,Exit.thenS,a6];apply wpS_seq;apply qob;simp[wpOpsS,go_sem,recoverD,hu,qnD,Exit.thenS];refine wpS_cond (t:=false) (by simp[Act.eval,qhk]) ?_;simp only[qh2,if_false];refine wpS_of_wp (wp_skip ?_);cases c₀
 simp_all [bodyPostS,qjo,qq4]
theorem q8h(B:Nat)(x k:Int)(a6:List qln)(w:qg7)(hB:w.heap[B]?=some (.cells #[.int .i64 x] 40 (0,0))) :CallsD Tp.prog 161 #[.pointer (some ⟨B,0,none⟩)] (.panicking ({ v:=.iface 181 (.agg #[.int .i64 k]),recovered:=false }::a6)) w λe u' w' =>e=.returned (.tuple #[])/\u'=.panicking ({ v:=.iface 181 (.agg #[.int .i64 k]),recovered:=true }::a6)/\w'=(w.alloc (.cells #[.int .i64 k] 181)).setCell ⟨B,0,none⟩ (.int .i64 k):=by
 have a7:∀w,(qkk (.iface 181 (.agg #[.int .i64 k])) 20 181 true).run Tp.prog w=.ok (.tuple #[.agg #[.int .i64 k],.bool true]) w:=λw=>by kernel_rfl
 have hc:=q8 (qq (p:=.cells #[.int .i64 k] 181) hB) (o:=0) rfl;have hz:=qn (qq (p:=.cells #[.int .i64 k] 181) hB) (o:=0);refine callsD_of_wpS Tp.x161 rfl λc₀ cs hu=>?_;apply wpS_seq;apply qob;simp[wpOpsS,go_sem,recoverD,hu,qnD,Exit.thenS,a7];apply wpS_seq;apply qob;simp[wpOpsS,go_sem,recoverD,hu,qnD,Exit.thenS];refine wpS_cond (t:=true) (by simp[Act.eval,qhk]) ?_;simp only[if_true];apply qob;simp[wpOpsS,go_sem,hc,hz,bodyPostS,qjo,qq4]
theorem qed(k:Int)(w:qg7):qhf Tp.prog 162 #[.bool false,.int .i64 k] w λe w'=>e=.panicked [{ v:=.iface 181 (.agg #[.int .i64 k]),recovered:=false }]/\w=w':=by
 have a6:∀(x:Bool) (w:qg7),(Op.unary .not (.bool x)).run Tp.prog w=.ok (.bool (!x)) w:=λ_ _=>rfl;go_enter Tp.x162,Tryz.ntmps162;go_wp2;exact⟨rfl,rfl,rfl⟩
def zu(l:List Int):Nat:=l.foldl (λm x=>m ||| 2 ^ x.toNat) 0
theorem q0j(l:List Int)(k:Nat)(x:Int)(h:l[k]?=some x):zu (l.take (k+1))=zu (l.take k) ||| 2 ^ x.toNat:=by
 rw[qhd,h];simp[zu]
theorem Qs(l:List Int)(n:Nat)(h:∀x∈l,x.toNat<n):zu l<2 ^ n:=by
 unfold zu;have key:∀(l:List Int) (m:Nat),m<2 ^ n->(∀x∈l,x.toNat<n)->l.foldl (λm x=>m ||| 2 ^ x.toNat) m<2 ^ n:=by
  intro l;induction l with
  | nil=>exact λm hm _=>hm
  | cons a t ih=>exact λm hm hx=>ih _ (Nat.or_lt_two_pow hm (Nat.pow_lt_pow_right (by omega) (hx a (by simp)))) λx hx'=>hx x (by simp[hx'])
 exact key l 0 (Nat.two_pow_pos n) h
theorem YF(l:List Int)(b:Nat):(zu l).testBit b=true↔∃x∈l,x.toNat=b:=by
 unfold zu;have key:∀(l:List Int) (m:Nat),(l.foldl (λm x=>m ||| 2 ^ x.toNat) m).testBit b=true↔m.testBit b=true\/∃x∈l,x.toNat=b:=by
  intro l;induction l with
  | nil=>simp
  | cons a t ih=>
   intro m;simp only[List.foldl_cons,ih,Nat.testBit_or,qja,Nat.testBit_two_pow,decide_eq_true_eq,qhH,exists_eq_or_imp];constructor
   ·rintro((h | h) | h)
    ·exact .inl h
    ·exact .inr (.inl h)
    ·exact .inr (.inr h)
   ·rintro(h | h | h)
    ·exact .inl (.inl h)
    ·exact .inl (.inr h)
    ·exact .inr h
 rw[key l 0];simp
def vQ(ps:List Par)(x:Int):Int:=match ps[x.toNat]? with | some p=>p.tall | none=>0
def qZ(ps:List Par)(l:List Int):Int:=(l.map (vQ ps)).foldl (·+·) 0
theorem q4k(ps:List Par)(l:List Int)(k:Nat)(x:Int)(h:l[k]?=some x):qZ ps (l.take (k+1))=qZ ps (l.take k)+vQ ps x:=by
 rw[qhd,h];simp[qZ]
def q8f(ps:List Par)(lim:Int)(l:List Int):Int:=if qZ ps l<=lim then 0 else 10
theorem kY(lo hi:Nat)(yv pv:qgb)(ps:List Par)(lim:Int)(l:List Int)(w:qg7)(hY:ji lo hi w yv ps lim)(hI:qe lo hi w pv l)(hhi:hi<=w.heap.size)(h5:ps.length<=5)(hx:∀x∈l,0<=x/\x<ps.length)(c8:l.Nodup)(ht:∀p∈ps,0<=p.tall/\p.tall<=1000)(k6:l.length<=100) :qhf Tp.prog 133 #[yv,pv] w λe w'=>e=.returned (.int .i64 (q8f ps lim l))/\w.grownBy w' none:=by
 have m4:∀(fn:Fn) (first cap:Array qgb) (w:qg7),(Instr.makeFunc fn first cap).run Tp.prog w=.ok (.func fn first cap) w:=λ_ _ _ _=>rfl;have k5:∀(x:Bool) (w:qg7),(Op.unary .not (.bool x)).run Tp.prog w=.ok (.bool (!x)) w:=λ_ _=>rfl;obtain⟨qv,rfl,hP⟩:=hY;obtain⟨yb,yc,rfl,l4,-⟩:=hP.cell;obtain⟨base,cap,rfl,m5,-⟩:=hI.cell;obtain⟨A,hA⟩:∃A,A=w.heap.size:=⟨_,rfl⟩;obtain⟨w1,a8⟩:∃w1,w1=(w.alloc (.cells #[.slice yb ps.length yc,.int .i64 lim] 91)).alloc (.cells #[.int .i64 0] 40):=⟨_,rfl⟩;have b7:w.grownBy w1 none:=by rw[a8];exact(qg6 _ _ none).trans (qg6 _ _ none)
 have b8:w1.heap[A]?=some (.cells #[.slice yb ps.length yc,.int .i64 lim] 91 (0,0)):=by rw[a8,hA];exact qq (qgg w _)
 have e4:w1.heap[A+1]?=some (.cells #[.int .i64 0] 40 (0,0)):=by
  rw[a8];have:=qgg (w.alloc (.cells #[.slice yb ps.length yc,.int .i64 lim] 91)) (.cells #[.int .i64 0] 40);rw[qgk,<- hA] at this;exact this
 have k0:=qg4 (hI.kept b7 (by simp));have g9:=qg4 (hP.kept b7 (by simp));have HX:=qg4 hx;have h8:=qg4 c8;have HT:=qg4 ht;have g7:=qg4 a8;have HA:=qg4 hA;have e8:=qg4 b7;have g8:=qg4 e4;have q0:=q8 b8 (o:=0) rfl;have q1:=q8 b8 (o:=1) rfl;have g6:w1.heap.size=A+2:=by rw[a8,qgk,qgk,hA]
 clear hI hP hx c8 ht a8 hA b7 b8 e4;go_enter_defers Tp.x133,Tryz.ntmps133;go_upto_region 4 with(fail);rw[<- HA.out,show(w.alloc (.cells #[.slice yb ps.length yc,.int .i64 lim] 91)).alloc (.cells #[.int .i64 0] 40)=w1 from g7.out.symm];go_wp2;go_loopw [5,6,12] (λmv tv iv wr=>∃k:Nat,iv=.int .i64 k/\k<=l.length/\mv=.int .u8 (zu (l.take k))/\tv=.int .i64 (qZ ps (l.take k))/\0<=qZ ps (l.take k)/\qZ ps (l.take k)<=1000*k/\w1.grownBy wr none) (λ_ _ iv _=>(l.length - qhj iv).toNat)
 case atStart=>exact⟨0,rfl,by omega,by simp[zu],by simp[qZ],by simp[qZ],by simp[qZ],qgn _ _⟩
 case round=>
  obtain⟨k,rfl,hk,rfl,rfl,ht0,ht1,hG⟩:=hrel;have HG:=qg4 hG;have k8:=hG.cell q0 (by simp);have k7:=hG.cell q1 (by simp);have l7:=hG.size;clear hG;by_cases hlt:k<l.length
  ·have e7:=k0.out.kept HG.out (by simp);have e6:=g9.out.kept HG.out (by simp);obtain⟨b1,c1,he,-,hc⟩:=e7.cell;cases he;obtain⟨B,o,rfl,b8,n4,n3,e5⟩:=hc (by intro e;rw[e] at hlt;simp at hlt);have hx:=e5 k hlt;obtain⟨x,a6⟩:∃x,l[k]?=some x:=⟨_,qge hlt⟩;obtain⟨l6,c3⟩:=HX.out x (qgj a6);rw[a6] at hx;simp only[qgh] at hx;have a7:(zu (l.take k)).testBit x.toNat=false:=by
    rw[Bool.eq_false_iff];intro h;obtain⟨y,hy,k9⟩:=(YF _ _).1 h;obtain⟨j,hj⟩:=qna hy;have d8:j<k:=by have:=(qgo.1 hj).1;simp at this;omega
    rw[qj3 d8] at hj;have l5:=HX.out y (qgj hj);obtain rfl:y=x:=by omega
    obtain⟨h1,h2⟩:=qgo.1 hj;obtain⟨h3,h4⟩:=qgo.1 a6;exact List.pairwise_iff_getElem.1 h8.out j k h1 h3 d8 (h2.trans h4.symm)
   have hM:zu (l.take k)<32:=Qs _ 5 λy hy=>by have:=HX.out y (ql6 hy);omega
   have b6:=q0j l k x a6;have a9:=q4k ps l k x a6;obtain⟨m,rfl⟩:∃m:Nat,x=m:=⟨x.toNat,by omega⟩;obtain⟨b2,c2,he,-,hc⟩:=e6.cell;cases he;obtain⟨YB,yo,rfl,m8,m7,m6,d9⟩:=hc (by intro e;rw[e] at c3;simp at c3;omega);obtain⟨p,hp,p0,p1,p2,p3⟩:=d9 m (by omega);have l9:=HT.out p (qgj hp);rw[show vQ ps m=p.tall by unfold vQ;simp[hp]] at a9;simp only[Int.toNat_natCast] at a7 b6;have m3:(m:Int)<(ps.length:Int):=c3;have d7:m<5:=by omega
   generalize zu (l.take k)=M at a7 hM b6;generalize qZ ps (l.take k)=T at ht0 ht1 a9;have e9:=qg4 a7;have h9:=qg4 b6;have d5:=qg4 a9;have n6:=qg4 a6;clear e7 e6 hc e5 d9 hp a7 b6 a9 a6;go_wp2_with (first
    | (go_at_call 110;go_must (refine(yJ _ _ _ _ (by omega) (by omega)).mono ?_);rintro e w' ⟨rfl,rfl⟩)
    | (go_at_call 162;go_must (refine(qa9 _ _).mono ?_);rintro e w' ⟨rfl,rfl⟩)
    | (go_at_call 129;go_must (refine(q6r M m _ hM d7).mono ?_);rintro e w' ⟨rfl,rfl⟩;rw[e9.out])
    | (go_at_call 151;go_must (refine(Y1 M m _ hM d7).mono ?_);rintro e w' ⟨rfl,rfl⟩)
    | (go_at_call 145;go_must (refine(q2r _ _ _ T p.tall _ (by exact qe.laid _ [T,p.tall] 2 rfl (by simp)) (by omega) (by omega)).mono ?_);rintro e w' ⟨rfl,rfl⟩))
   go_roundw
   case rel=>
    refine⟨k+1,by simp,by omega,by rw[h9.out],by rw[d5.out],by rw[d5.out];omega,by rw[d5.out];omega,HG.out.trans (qg6 _ _ _)⟩
   case measure=>simp[qhj];omega
  ·obtain rfl:k=l.length:=by omega
   rw[qha] at ht0 ht1;rw[qha];have HZ:=qg4 (show q8f ps lim l=if qZ ps l<=lim then 0 else 10 from rfl);generalize qZ ps l=T at ht0 ht1 HZ;generalize zu l=M;have b0:=blk HG.out (by simp) g8.out;have n2:=q8 (o:=0) b0 rfl;have m9:=qn (o:=0) b0;have d6:=qg4 b0;have l8:=g6;clear b0;by_cases b9:T<=lim
   ·have HC:=qg4 (HZ.out.trans (if_pos b9));go_wp2_with (first
     | (go_at_call 162;go_must (refine(qa9 _ _).mono ?_);rintro e w' ⟨rfl,rfl⟩))
    refine leaves_cons (f:=161) (args:=#[.pointer (some ⟨A+1,0,none⟩)]) (by simp) (by simp[go_sem]) ?_;refine(q5v ⟨A+1,0,none⟩ _).mono ?_;rintro e u' g5 ⟨rfl,rfl,rfl⟩;have c9:(((wr.setCell ⟨A+1,0,none⟩ (.int .i64 0)).alloc (.cells #[.int .i64 0] 181)).heap[A+1]?=some (.cells #[.int .i64 0] 40 (0,0))):=qq (by rw[qh d6.out];rfl);refine⟨.int .i64 0,?_,by rw[HC.out],?_⟩
    ·simp[qjo,qq5,go_sem,qh6,c9]
    ·have hh:=e8.out.trans HG.out;exact(hh.andThen (qf _ _ _ _) (by rintro j e;cases e;exact .inl (by have:=HA.out;omega))).trans (qg6 _ _ _)
   ·have HC:=qg4 (HZ.out.trans (if_neg b9));have c8:decide (T<=lim)=false:=by simp;omega
    go_wp2_with (first
     | (go_at_call 162;go_must (refine(qed _ _).mono ?_);rintro e w' ⟨rfl,rfl⟩))
    refine leaves_cons (f:=161) (args:=#[.pointer (some ⟨A+1,0,none⟩)]) (by simp) (by simp[go_sem]) ?_;refine(q8h (A+1) 0 10 [] _ d6.out).mono ?_;rintro e u' g5 ⟨rfl,rfl,rfl⟩;have hh:=e8.out.trans HG.out;have c9:=qh (o:=0) (v:=.int .i64 10) (qq (p:=.cells #[.int .i64 10] 181) d6.out);simp[Leaves,settle,qjo,qq5,go_sem,qh6,c9,HC.out];exact(hh.trans (qg6 _ _ none)).andThen (qf _ _ _ _) (by rintro j e;cases e;exact .inl (by have:=HA.out;omega))
structure YOk(ps:List Par)(lim:Int):Prop where
 len:ps.length<=5
 each:∀p∈ps,1<=p.mn/\p.mn<=p.mx/\p.mx<=12/\0<=p.bears/\p.bears<=30/\1<=p.tall/\p.tall<=3
 l1:1<=lim
 l2:lim<=12
theorem YOk.chk{ps:List Par}{lim:Int}(h:YOk ps lim):Kb ps lim=0:=by
 have h1:=h.len;unfold Kb;rw[if_neg (by omega),q1z _ ps (λi y hy=>by
  have:=h.each y (qgj hy);have hz:KG y=0:=by unfold KG;rw[if_pos (by omega),if_pos (by omega),if_neg (by omega),if_pos (by omega),if_pos (by omega)]
  simp[hz])]
 exact if_pos ⟨h.l1,h.l2⟩
structure POk(ps:List Par)(lim:Int)(l:List Int):Prop where
 ok:∀x∈l,0<=x/\x<ps.length
 nd:l.Nodup
 tall:qZ ps l<=lim
 len:l.length<=100
structure PIn(ps:List Par)(l:List Int):Prop where
 ok:∀x∈l,0<=x/\x<ps.length
 nd:l.Nodup
 len:l.length<=100
theorem POk.pin{ps:List Par}{lim:Int}{l:List Int}(h:POk ps lim l):PIn ps l:=⟨h.ok,h.nd,h.len⟩
theorem POk.chk{ps:List Par}{lim:Int}{l:List Int}(h:POk ps lim l):q8f ps lim l=0:=if_pos h.tall
theorem qa3(lo hi:Nat)(pv qv:qgb)(ps:List Par)(lim:Int)(l:List Int)(w:qg7)(hP:qr lo hi w pv ps)(hI:qe lo hi w qv l)(hhi:hi<=w.heap.size)(hok:YOk ps lim)(hp:PIn ps l) :qhf Tp.prog 81 #[.agg #[pv,.int .i64 lim],qv] w λe w'=>e=.returned (.tuple #[.agg #[pv,.int .i64 lim],.int .i64 (q8f ps lim l)])/\w.grownBy w' none:=by
 obtain⟨yb,yc,rfl,k0,-⟩:=hP.cell;obtain⟨base,cap,rfl,k8,-⟩:=hI.cell;obtain⟨A,hA⟩:∃A,A=w.heap.size:=⟨_,rfl⟩;obtain⟨w1,a8⟩:∃w1,w1=(w.alloc (.cells #[.slice yb ps.length yc,.int .i64 lim] 24)).alloc (.cells #[.slice none 0 0,.int .i64 0] 91):=⟨_,rfl⟩;have b9:w.grownBy w1 none:=by rw[a8];exact(qg6 _ _ none).trans (qg6 _ _ none)
 have c8:w1.heap[A]?=some (.cells #[.slice yb ps.length yc,.int .i64 lim] 24 (0,0)):=by rw[a8,hA];exact qq (qgg w _)
 have d7:w1.heap[A+1]?=some (.cells #[.slice none 0 0,.int .i64 0] 91 (0,0)):=by
  rw[a8];have:=qgg (w.alloc (.cells #[.slice yb ps.length yc,.int .i64 lim] 24)) (.cells #[.slice none 0 0,.int .i64 0] 91);rw[qgk,<- hA] at this;exact this
 have k7:w1.heap.size=A+2:=by rw[a8,qgk,qgk,hA]
 have g8:=qg4 (hI.kept b9 (by simp));have e5:=qg4 (hP.kept b9 (by simp));have e8:=qg4 a8;have HA:=qg4 hA;have h9:=qg4 b9;have g5:=qg4 d7;have l5:=qg4 c8;have q0:=q8 c8 (o:=0) rfl;have q1:=q8 c8 (o:=1) rfl;have k9:hi<=A:=by omega
 have HY:=qg4 hok;have c9:=qg4 hp;clear hP hI hok hp a8 hA b9 d7 c8;go_enter Tp.x81,Tryz.ntmps81;go_upto_region 1 with(fail);rw[<- HA.out,show(w.alloc (.cells #[.slice yb ps.length yc,.int .i64 lim] 24)).alloc (.cells #[.slice none 0 0,.int .i64 0] 91)=w1 from e8.out.symm];go_upto_region 4 with(first
  | (go_at_call 52;go_must (refine(q8g lo hi _ ps lim _ ⟨_,rfl,e5.out⟩ (by omega)).mono ?_);rintro e w2 ⟨rfl,e4⟩;rw[HY.out.chk];have a7:=qg4 e4;clear e4))
 have p0:=a7.out.cell q0 (by simp);have p1:=a7.out.cell q1 (by simp);have k6:=a7.out.size;clear q0 q1;go_upto_region 5 with(fail);obtain⟨Y,b7⟩:∃Y,Y=w2.heap.size:=⟨_,rfl⟩;obtain⟨w3,a9⟩:∃w3,w3=w2.alloc (.cells #[.slice yb ps.length yc,.int .i64 lim] 91):=⟨_,rfl⟩;have b0:w2.grownBy w3 none:=by rw[a9];exact qg6 _ _ none
 have c3:w3.heap[Y]?=some (.cells #[.slice yb ps.length yc,.int .i64 lim] 91 (0,0)):=by rw[a9,b7];exact qgg _ _
 have k5:w3.heap.size=Y+1:=by rw[a9,qgk,b7]
 rw[<- b7,<- a9];have q0:=q8 c3 (o:=0) rfl;have q1:=q8 c3 (o:=1) rfl;have b6:=qg4 (blk b0 (by simp) (blk a7.out (by simp) g5.out));have e6:=qg4 c3;have h8:=qg4 ((h9.out.trans a7.out).trans b0);have g7:=qg4 ((g8.out.kept a7.out (by simp)).kept b0 (by simp));have g6:=qg4 ((e5.out.kept a7.out (by simp)).kept b0 (by simp));have l4:A+1<Y:=by omega
 clear b0 c3 a9 b7 p0 p1;go_region_law
  (first
   | (go_simp;go_at_call 133;refine(kY lo hi _ _ ps lim l _ ⟨_,rfl,g6.out.kept (qc _ none) (by simp)⟩ (g7.out.kept (qc _ none) (by simp)) (by simp;omega) HY.out.len c9.out.ok c9.out.nd (λp hp=>by have:=HY.out.each p hp;omega) c9.out.len).mono ?_;rintro e w4 ⟨rfl,d9⟩;have a6:=qg4 ((qc w3 none).trans d9);have r0:=q8 (o:=0) (blk a6.out (by simp) e6.out) rfl;have r1:=q8 (o:=1) (blk a6.out (by simp) e6.out) rfl;have s0:=q8 (o:=0) (blk a6.out (by simp) b6.out) rfl;have s1:=q8 (o:=1) (blk a6.out (by simp) b6.out) rfl;have f0:=qn (o:=0) (blk a6.out (by simp) b6.out);have f1:=qn (o:=1) (blk a6.out (by simp) b6.out);clear d9))
 all_goals
  have d5:=blk a6.out (by simp) b6.out;obtain⟨W,b8⟩:∃W,W=(w4.setCell ⟨A+1,0,none⟩ (.slice yb ps.length yc)).setCell ⟨A+1,1,none⟩ (.int .i64 lim):=⟨_,rfl⟩;have d6:W.heap[A+1]?=some (.cells #[.slice yb ps.length yc,.int .i64 lim] 91 (0,0)):=by rw[b8,qh (qh d5)];rfl
  have d8:w.grownBy W none:=(h8.out.trans a6.out).andThen (row':=some (A+1)) (by rw[b8];exact(qf _ _ _ _).trans (qf _ _ _ _)) (by rintro j e;cases e;exact .inl (by have:=HA.out;omega));have e9:=qg4 d6;have g9:=qg4 d8;have e7:=qg4 b8;clear d5 d6 d8 b8;go_wp2;rw[<- e7.out];exact qji (v:=.tuple #[.agg #[.slice yb ps.length yc,.int .i64 lim],.int .i64 (q8f ps lim l)]) (by simp[qjo,Tryz.results81,go_sem,qh6,e9.out]) rfl ⟨rfl,g9.out⟩
theorem vX(lo hi:Nat)(pv qv:qgb)(ps:List Par)(lim:Int)(l:List Int)(w:qg7)(hP:qr lo hi w pv ps)(hI:qe lo hi w qv l)(hhi:hi<=w.heap.size)(hok:YOk ps lim)(hp:POk ps lim l) :qhf Tp.prog 81 #[.agg #[pv,.int .i64 lim],qv] w λe w'=>e=.returned (.tuple #[.agg #[pv,.int .i64 lim],.int .i64 0])/\w.grownBy w' none:=by
 have h:=qa3 lo hi pv qv ps lim l w hP hI hhi hok hp.pin
 rwa [hp.chk] at h
def qby(a b:Bool):Int:=if a != b then 3 else if a then 1 else 2
theorem q2c(a b:Bool)(w:qg7):qhf Tp.prog 95 #[.bool a,.bool b] w λe w'=>e=.returned (.int .i64 (qby a b))/\w=w':=by
 cases a<;>cases b;all_goals
  go_enter Tp.x95,Tryz.ntmps95;go_wp2;go_ret;exact⟨rfl,rfl⟩
theorem q53(a b c d:Int)(w:qg7):qhf Tp.prog 39 #[.int .i64 a,.int .i64 b,.int .i64 c,.int .i64 d] w λe w'=>e=.returned (.agg #[.int .i64 a,.int .i64 b,.int .i64 c,.int .i64 d])/\w.grownBy w' none:=by
 obtain⟨A,hA⟩:∃A,A=w.heap.size:=⟨_,rfl⟩;obtain⟨w1,a6⟩:∃w1,w1=w.alloc (.cells #[.int .i64 0,.int .i64 0,.int .i64 0,.int .i64 0] 28):=⟨_,rfl⟩;have hR:w1.heap[A]?=some (.cells #[.int .i64 0,.int .i64 0,.int .i64 0,.int .i64 0] 28 (0,0)):=by rw[a6,hA];exact qgg w _
 have hG:w.grownBy w1 none:=by rw[a6];exact qg6 _ _ none
 have HA:=qg4 hA;have b6:=qg4 a6;have HR:=qg4 hR;have HG:=qg4 hG;have r0:=q8 (o:=0) hR rfl;have r1:=q8 (o:=1) hR rfl;have r2:=q8 (o:=2) hR rfl;have r3:=q8 (o:=3) hR rfl;have fz:∀o,w1.frozen? ⟨A,o,none⟩=false:=λo=>qn hR;clear hA a6 hR hG;go_enter Tp.x39,Tryz.ntmps39;go_upto_region 1 with(fail);rw[<- HA.out,show w.alloc (.cells #[.int .i64 0,.int .i64 0,.int .i64 0,.int .i64 0] 28)=w1 from b6.out.symm];obtain⟨W,a7⟩:∃W,W=(((w1.setCell ⟨A,0,none⟩ (.int .i64 a)).setCell ⟨A,1,none⟩ (.int .i64 b)).setCell ⟨A,2,none⟩ (.int .i64 c)).setCell ⟨A,3,none⟩ (.int .i64 d):=⟨_,rfl⟩;have a8:W.heap[A]?=some (.cells #[.int .i64 a,.int .i64 b,.int .i64 c,.int .i64 d] 28 (0,0)):=by rw[a7,qh (qh (qh (qh HR.out)))];rfl
 have a9:w.grownBy W none:=HG.out.andThen (row':=some A) (by rw[a7];exact(((qf _ _ _ _).trans (qf _ _ _ _)).trans (qf _ _ _ _)).trans (qf _ _ _ _)) (by rintro j e;cases e;exact .inl (by have:=HA.out;omega));have b7:=qg4 a8;have b8:=qg4 a9;have b0:=qg4 a7;clear a8 a9 a7;go_wp2;rw[<- b0.out];exact qji (v:=.agg #[.int .i64 a,.int .i64 b,.int .i64 c,.int .i64 d]) (by simp[qjo,Tryz.results39,go_sem,qh6,b7.out]) rfl ⟨rfl,b8.out⟩
def ze(n:Int):List Par:=[⟨8,10,n,2⟩,⟨4,6,6,2⟩,⟨2,3,3,1⟩,⟨5,5,0,1⟩]
theorem YOk.mn{ps:List Par}{lim:Int}(h:YOk ps lim)(i:Nat):0<=pre Par.mn ps ps.length i/\pre Par.mn ps ps.length i<=1000:=by
 unfold pre;split
 ·rename_i hi
  rw[qge hi];have:=h.each _ (qm8 hi);simp only;omega
 ·omega
theorem YOk.mx{ps:List Par}{lim:Int}(h:YOk ps lim)(i:Nat):0<=pre Par.mx ps ps.length i/\pre Par.mx ps ps.length i<=1000:=by
 unfold pre;split
 ·rename_i hi
  rw[qge hi];have:=h.each _ (qm8 hi);simp only;omega
 ·omega
def q1a(ps:List Par)(l:List Int):Int:=qby (qp ps (pre Par.mn ps ps.length) l) (qp ps (pre Par.mx ps ps.length) l)
theorem q77(lo hi:Nat)(pv qv:qgb)(ps:List Par)(lim:Int)(l:List Int)(w:qg7)(hP:qr lo hi w pv ps)(hI:qe lo hi w qv l)(hhi:hi<=w.heap.size)(hok:YOk ps lim)(hp:POk ps lim l) :qhf Tp.prog 37 #[.agg #[pv,.int .i64 lim],qv] w λe w'=>e=.returned (.tuple #[.int .i64 (q1a ps l),.int .i64 0])/\w.grownBy w' none:=by
 obtain⟨yb,yc,rfl,k8,-⟩:=hP.cell;obtain⟨base,cap,rfl,k9,-⟩:=hI.cell;obtain⟨A,hA⟩:∃A,A=w.heap.size:=⟨_,rfl⟩;obtain⟨w1,a8⟩:∃w1,w1=w.alloc (.cells #[.slice yb ps.length yc,.int .i64 lim] 24):=⟨_,rfl⟩;have b7:w.grownBy w1 none:=by rw[a8];exact qg6 _ _ none
 have c9:w1.heap[A]?=some (.cells #[.slice yb ps.length yc,.int .i64 lim] 24 (0,0)):=by rw[a8,hA];exact qgg w _
 have g7:w1.heap.size=A+1:=by rw[a8,qgk,hA]
 have e7:=qg4 (hI.kept b7 (by simp));have e6:=qg4 (hP.kept b7 (by simp));have g8:=qg4 a8;have HA:=qg4 hA;have k5:=qg4 b7;have q0:=q8 c9 (o:=0) rfl;have q1:=q8 c9 (o:=1) rfl;have l4:hi<=A:=by omega
 have HY:=qg4 hok;have d6:=qg4 hp;clear hP hI hok hp a8 hA b7 c9;go_enter Tp.x37,Tryz.ntmps37;go_upto_region 1 with(fail);rw[<- HA.out,show w.alloc (.cells #[.slice yb ps.length yc,.int .i64 lim] 24)=w1 from g8.out.symm];go_upto_region 2 with(first
  | (go_at_call 81;go_must (refine(vX lo hi _ _ ps lim l _ e6.out e7.out (by omega) HY.out d6.out).mono ?_);rintro e w2 ⟨rfl,e5⟩;have b9:=qg4 e5;clear e5))
 have g6:=b9.out.size;obtain⟨Y,b0⟩:∃Y,Y=w2.heap.size:=⟨_,rfl⟩;obtain⟨w3,a7⟩:∃w3,w3=w2.alloc (.cells #[.slice yb ps.length yc,.int .i64 lim] 91):=⟨_,rfl⟩;have b6:w2.grownBy w3 none:=by rw[a7];exact qg6 _ _ none
 have b8:w3.heap[Y]?=some (.cells #[.slice yb ps.length yc,.int .i64 lim] 91 (0,0)):=by rw[a7,b0];exact qgg _ _
 have g5:w3.heap.size=Y+1:=by rw[a7,qgk,b0]
 rw[<- b0,<- a7];clear q0 q1;have s0:=q8 b8 (o:=0) rfl;have s1:=q8 b8 (o:=1) rfl;have a6:=qg4 b8;have k0:=qg4 ((k5.out.trans b9.out).trans b6);have h9:=qg4 ((e7.out.kept b9.out (by simp)).kept b6 (by simp));have g9:=qg4 ((e6.out.kept b9.out (by simp)).kept b6 (by simp));have l5:A<Y:=by omega
 have a9:hi<=w3.heap.size:=by omega
 clear b6 b8 a7 b0 g7 g6 g5;go_upto_region 4 with(fail);have HT:=qg4 (qgn w3 none);have d7:∀W,w3.grownBy W none->ji lo hi W (.agg #[.slice yb ps.length yc,.int .i64 lim]) ps lim:=λW h=>⟨_,rfl,g9.out.kept h (by simp)⟩;have d8:∀W,w3.grownBy W none->qe lo hi W (.slice base l.length cap) l:=λW h=>h9.out.kept h (by simp);have d5:=qg4 d7;have h8:=qg4 d8;clear d7 d8;have SC:=qg4 (qgw s0 s1);obtain⟨gm,c8⟩:∃gm,gm=pre Par.mn ps ps.length:=⟨_,rfl⟩;obtain⟨gx,c3⟩:∃gx,gx=pre Par.mx ps ps.length:=⟨_,rfl⟩;have e4:∀i,0<=gm i/\gm i<=1000:=by rw[c8];exact HY.out.mn
 have d9:∀i,0<=gx i/\gx i<=1000:=by rw[c3];exact HY.out.mx
 have e9:=qg4 c8;have e8:=qg4 c3;have k7:=qg4 e4;have k6:=qg4 d9;clear c8 c3 e4 d9;go_region_held3 (λw'=>w'.cell? ⟨Y,0,none⟩=some (.slice yb ps.length yc)/\w'.cell? ⟨Y,1,none⟩=some (.int .i64 lim))
  (first | exact SC.out)
  (first
   | (go_at_call 93;refine(Qu lo hi _ ps lim _ (d5.out _ (by first | exact HT.out | exact HT.out.trans (qc _ _))) (qgi a9 (by first | exact HT.out.size | exact(HT.out.trans (qc _ none)).size)) HY.out.len).mono ?_;rintro e w5 ⟨rfl,hg⟩;rw[<- e9.out];replace HT:=qg4 (show w3.grownBy w5 none by first | exact HT.out.trans hg | exact(HT.out.trans (qc _ _)).trans hg);replace SC:=qg4 (show w5.cell? ⟨Y,0,none⟩=some (.slice yb ps.length yc)/\w5.cell? ⟨Y,1,none⟩=some (.int .i64 lim) from⟨q8 (blk HT.out (by simp) a6.out) rfl,q8 (blk HT.out (by simp) a6.out) rfl⟩);clear hg)
   | (go_at_call 92;refine(Q0 lo hi _ ps lim _ (d5.out _ (by first | exact HT.out | exact HT.out.trans (qc _ _))) (qgi a9 (by first | exact HT.out.size | exact(HT.out.trans (qc _ none)).size)) HY.out.len).mono ?_;rintro e w5 ⟨rfl,hg⟩;rw[<- e8.out];replace HT:=qg4 (show w3.grownBy w5 none by first | exact HT.out.trans hg | exact(HT.out.trans (qc _ _)).trans hg);replace SC:=qg4 (show w5.cell? ⟨Y,0,none⟩=some (.slice yb ps.length yc)/\w5.cell? ⟨Y,1,none⟩=some (.int .i64 lim) from⟨q8 (blk HT.out (by simp) a6.out) rfl,q8 (blk HT.out (by simp) a6.out) rfl⟩);clear hg)
   | (go_at_call 96;refine(kw lo hi _ _ ps lim l _ _ (d5.out _ (by first | exact HT.out | exact HT.out.trans (qc _ _))) (h8.out _ (by first | exact HT.out | exact HT.out.trans (qc _ _))) (qgi a9 (by first | exact HT.out.size | exact(HT.out.trans (qc _ none)).size)) HY.out.len d6.out.ok (by have:=d6.out.len;omega) (by first | exact k7.out | exact k6.out)).mono ?_;rintro e w5 ⟨rfl,hg⟩;replace HT:=qg4 (show w3.grownBy w5 none by first | exact HT.out.trans hg | exact(HT.out.trans (qc _ _)).trans hg);replace SC:=qg4 (show w5.cell? ⟨Y,0,none⟩=some (.slice yb ps.length yc)/\w5.cell? ⟨Y,1,none⟩=some (.int .i64 lim) from⟨q8 (blk HT.out (by simp) a6.out) rfl,q8 (blk HT.out (by simp) a6.out) rfl⟩);clear hg)
   | (go_at_call 95;refine(q2c _ _ _).mono ?_;rintro e w5 ⟨rfl,rfl⟩))
 have HV:=qg4 (show q1a ps l=qby (qp ps gm l) (qp ps gx l) by rw[e9.out,e8.out];rfl);generalize qby (qp ps gm l) (qp ps gx l)=z at HV ⊢;go_wp2;go_ret2;exact⟨by rw[HV.out];rfl,k0.out.trans HT.out⟩
def zP(ps:List Par)(g:Nat->Int)(l:List Int):Nat->Int
 | 0=>30
 | k+1=>match ps[(l[k]?.getD 0).toNat]? with | some p=>min (zP ps g l k) (p.bears - loadAt g l k) | none=>zP ps g l k
theorem q05(lo hi:Nat)(yv pv:qgb)(ps:List Par)(lim:Int)(l:List Int)(g:Nat->Int)(w:qg7)(hY:ji lo hi w yv ps lim)(hI:qe lo hi w pv l)(hhi:hi<=w.heap.size)(h5:ps.length<=5)(hx:∀x∈l,0<=x/\x<ps.length)(hl:l.length<=1000)(hg:∀i,0<=g i/\g i<=1000)(hb:∀p∈ps,0<=p.bears/\p.bears<=1000) :qhf Tp.prog 94 #[yv,pv,wts g] w λe w'=>e=.returned (.int .i64 (zP ps g l l.length))/\w.grownBy w' none:=by
 obtain⟨qv,rfl,hP⟩:=hY;obtain⟨yb,yc,rfl,g6,-⟩:=hP.cell;obtain⟨base,cap,rfl,k0,-⟩:=hI.cell;obtain⟨A,hA⟩:∃A,A=w.heap.size:=⟨_,rfl⟩;obtain⟨w1,a6⟩:∃w1,w1=(w.alloc (.cells #[.slice yb ps.length yc,.int .i64 lim] 91)).alloc (qF g):=⟨_,rfl⟩;have b7:w.grownBy w1 none:=by rw[a6];exact(qg6 _ _ none).trans (qg6 _ _ none)
 have a9:w1.heap[A]?=some (.cells #[.slice yb ps.length yc,.int .i64 lim] 91 (0,0)):=by rw[a6,hA];exact qq (qgg w _)
 have a7:w1.heap[A+1]?=some (qF g):=by
  rw[a6];have:=qgg (w.alloc (.cells #[.slice yb ps.length yc,.int .i64 lim] 91)) (qF g);rw[qgk,<- hA] at this;exact this
 have h8:w1.heap.size=A+2:=by rw[a6,qgk,qgk,hA]
 have d7:=qg4 (hI.kept b7 (by simp));have e6:=qg4 (hP.kept b7 (by simp));have HX:=qg4 hx;have d8:=qg4 hg;have e5:=qg4 a6;have HA:=qg4 hA;have e7:=qg4 b7;have l7:=qg4 a9;have q0:=q8 a9 (o:=0) rfl;have q1:=q8 a9 (o:=1) rfl;have r0:=ql a7 (show 0<5 by omega);have r1:=ql a7 (show 1<5 by omega);have r2:=ql a7 (show 2<5 by omega);have r3:=ql a7 (show 3<5 by omega);have r4:=ql a7 (show 4<5 by omega);have k5:hi<=A:=by omega
 clear hI hP hx hg a6 hA b7 a9 a7;unfold wts;go_enter Tp.x94,Tryz.ntmps94;go_upto_region 2 with(fail);rw[<- HA.out,show(w.alloc (.cells #[.slice yb ps.length yc,.int .i64 lim] 91)).alloc (.cells #[.int .i64 (g 0),.int .i64 (g 1),.int .i64 (g 2),.int .i64 (g 3),.int .i64 (g 4)] 101)=w1 from e5.out.symm];go_wp2_with (first | (go_at_call 91;go_must (refine(Qt lo hi _ _ l g _ d7.out (by omega) (by intro x hx;have:=HX.out x hx;omega) hl d8.out ⟨_,_,rfl⟩).mono ?_);rintro e w2 ⟨lv,rfl,c8,hL2⟩;have a8:=hL2.cell;rw[yZ] at a8;obtain⟨lb,lc,rfl,-,a8⟩:=a8;have e8:=qg4 a8;clear a8;have b0:=qg4 c8;have l6:=qg4 hL2;clear c8 hL2));have d9:=b0.out.cell q0 (by simp);have g9:=b0.out.size;clear r0 r1 r2 r3 r4 q0 q1;have e9:=qg4 hb;clear hb;go_loopw [7,15] (λnv iv wr=>∃k:Nat,iv=.int .i64 k/\k<=l.length/\nv=.int .i64 (zP ps g l k)/\w2.grownBy wr none) (λ_ iv _=>(l.length - qhj iv).toNat)
 case atStart=>exact⟨0,rfl,by omega,rfl,qgn _ _⟩
 case round=>
  obtain⟨k,rfl,hk,rfl,hG⟩:=hrel;have HG:=qg4 hG;have g5:=hG.cell d9 (by simp);have g8:=hG.size;by_cases hlt:k<l.length
  ·have d6:=(d7.out.kept b0.out (by simp)).kept hG (by simp);have d5:=(e6.out.kept b0.out (by simp)).kept hG (by simp);obtain⟨b1,c1,he,-,hc⟩:=d6.cell;cases he;obtain⟨B,o,rfl,a9,l5,l4,c9⟩:=hc (by intro e;rw[e] at hlt;simp at hlt);have hx:=c9 k hlt;obtain⟨x,b6⟩:∃x,l[k]?=some x:=⟨_,qge hlt⟩;obtain⟨g7,b8⟩:=HX.out x (qgj b6);rw[b6] at hx;simp only[qgh] at hx;obtain⟨m,rfl⟩:∃m:Nat,x=m:=⟨x.toNat,by omega⟩;obtain⟨b2,c2,he,-,hc⟩:=d5.cell;cases he;obtain⟨YB,yo,rfl,k9,k8,k7,c3⟩:=hc (by intro e;rw[e] at b8;simp at b8;omega);obtain⟨p,hp,p0,p1,p2,p3⟩:=c3 m (by omega);obtain⟨LB,lo',rfl,hL1,hL2,hL3,hL4⟩:=e8.out (by intro e;have:=yZ g l;rw[e] at this;simp at this;omega);have b9:=HG.out.cell (hL4 k hlt) (by simp);rw[JW g l k hlt] at b9;have hs:zP ps g l (k+1)=min (zP ps g l k) (p.bears - loadAt g l k):=by simp[zP,b6,hp]
   have k6:=e9.out p (qgj hp);have e4:=J5 g l k d8.out hl;have h9:(m:Int)<(ps.length:Int):=b8;generalize loadAt g l k=ld at b9 hs e4;generalize zP ps g l k=S0 at hs;obtain⟨M,hM⟩:∃M,min S0 (p.bears - ld)=M:=⟨_,rfl⟩;have hmm:(if p.bears - ld<S0 then p.bears - ld else S0)=M:=by rw[<- hM];omega
   have HS:=qg4 (hs.trans hM);clear hG d6 d5 hc c9 c3 hL4 b6 hp hs;go_upto_region 5 with(fail);go_quiet (fail);go_wp2;go_roundw
   case rel=>exact⟨k+1,by simp,by omega,by rw[HS.out],HG.out.trans (qi _ _ _)⟩
   case measure=>simp[qhj];omega
  ·obtain rfl:k=l.length:=by omega
   clear hG;go_wp2;go_ret;exact⟨rfl,(e7.out.trans b0.out).trans HG.out⟩
theorem jZ(la ha lb hb:Nat)(va vb:qgb)(a b:List Int)(w:qg7)(hA:qe la ha w va a)(hB:qe lb hb w vb b) :qhf Tp.prog 31 #[va,vb] w λe w'=>e=.returned (.bool (decide (a=b)))/\w.grownBy w' none:=by
 obtain⟨ba,ca,rfl,b7,h1⟩:=hA.cell;obtain⟨bb,cb,rfl,hl2,h2⟩:=hB.cell;have H1:=qg4 h1;have H2:=qg4 h2;clear h1 h2 hA hB;by_cases a6:a.length=b.length
 ·have HL:=qg4 a6;have a8:((a.length:Int) != (b.length:Int))=false:=by rw[a6];simp
  clear a6;go_enter Tp.x31,Tryz.ntmps31;go_wp2;go_loopw [5] (λiv wr=>∃k:Nat,iv=.int .i64 k/\k<=a.length/\(∀i,i<k->a[i]?=b[i]?)/\w.grownBy wr none) (λiv _=>(a.length - qhj iv).toNat)
  case atStart=>exact⟨0,rfl,by omega,λi hi=>absurd hi (by omega),qgn _ _⟩
  case round=>
   obtain⟨k,rfl,hk,hok,hG⟩:=hrel;have b6:=qg4 hok;have HG:=qg4 hG;clear hok;by_cases hlt:k<a.length
   ·have a7:k<b.length:=by have:=HL.out;omega
    obtain⟨A1,o1,rfl,d7,d6,d5,b0⟩:=H1.out (by intro e;rw[e] at hlt;simp at hlt);obtain⟨B1,o2,rfl,c9,c8,c3,a9⟩:=H2.out (by intro e;rw[e] at a7;simp at a7);have x1:=hG.cell (b0 k hlt) (by simp);have x2:=hG.cell (a9 k a7) (by simp);have e1:a[k]?=some (a[k]?.getD 0):=by simp[qge hlt]
    have e2:b[k]?=some (b[k]?.getD 0):=by simp[qge a7]
    generalize a[k]?.getD 0=x at x1 e1;generalize b[k]?.getD 0=y at x2 e2;have b8:(k:Int)<(b.length:Int):=by omega
    have b9:(k:Int)<(a.length:Int):=by omega
    have E1:=qg4 e1;have E2:=qg4 e2;clear b0 a9 hG e1 e2;by_cases hxy:x=y
    ·subst hxy;go_upto_region 6 with(fail);go_quiet (fail);go_wp2;go_roundw
     case rel=>
      refine⟨k+1,by simp,by omega,λi hi=>?_,HG.out.trans (qi _ _ _)⟩;by_cases e:i=k
      ·rw[e,E1.out,E2.out]
      ·exact b6.out i (by omega)
     case measure=>simp[qhj];omega
    ·have HR:=qg4 (show decide (a=b)=false by
      rw[decide_eq_false_iff_not];intro e;have h1:=E1.out;rw[e,E2.out] at h1;exact hxy (by cases h1;rfl))
     have hne:(x != y)=true:=by simp[hxy]
     go_upto_region 6 with(fail);go_quiet (fail);go_wp2;go_ret;exact⟨by rw[HR.out];rfl,HG.out.trans (qi _ _ _)⟩
   ·obtain rfl:k=a.length:=by omega
    have HR:=qg4 (show decide (a=b)=true by
     rw[decide_eq_true_eq];refine qmC λi=>?_;by_cases hi:i<a.length
     ·exact b6.out i hi
     ·rw[qic (by omega),qic (by have:=HL.out;omega)])
    clear hG;go_wp2;go_ret;exact⟨by rw[HR.out];rfl,HG.out⟩
 ·have HR:=qg4 (show decide (a=b)=false by
   rw[decide_eq_false_iff_not];intro e;exact a6 (by rw[e]))
  have a8:((a.length:Int) != (b.length:Int))=true:=by simp;omega
  clear a6;go_enter Tp.x31,Tryz.ntmps31;go_wp2;go_ret;exact⟨by rw[HR.out];rfl,qgn _ _⟩
def qS(w:qg7)(b g:Nat):Prop :=
 ∃(base:Option qho) (len cap:Nat) (g':Nat) (s:Int),g'<=g/\w.heap[b]?=some (.cells #[.slice base len cap,.int .i64 g',.int .u64 s] 89 (0,0))/\(len:Int)<=9223372036854775807 /\
  (0<len->∃lb lo,base=some ⟨lb,lo,none⟩/\lb<b/\∀i,i<len->∃x,w.cell? ⟨lb,lo+i,none⟩=some (.int .i64 x))
theorem qS.mono{w:qg7}{b g g':Nat}(h:qS w b g)(hg:g<=g'):qS w b g':=by
 obtain⟨base,len,cap,k,s,hk,r⟩:=h;exact⟨base,len,cap,k,s,by omega,r⟩
theorem q2m{w:qg7}{b g:Nat}{base:Option qho}{len cap:Nat}{s s':Int}{z:qgb}(hb:w.heap[b]?=some (.cells #[.slice base len cap,.int .i64 g,.int .u64 s] 89 (0,0)))(hl:(len:Int)<=9223372036854775807)(hr:0<len->∃lb lo,base=some ⟨lb,lo,none⟩/\lb<b/\∀i,i<len->∃x,w.cell? ⟨lb,lo+i,none⟩=some (.int .i64 x))(nq:Nat) :w.grownBy ((((w.drewN nq).setCell ⟨b,1,none⟩ (.int .i64 (g+1))).setCell ⟨b,2,none⟩ z).setCell ⟨b,2,none⟩ (.int .u64 s')).drew (some b) /\qS ((((w.drewN nq).setCell ⟨b,1,none⟩ (.int .i64 (g+1))).setCell ⟨b,2,none⟩ z).setCell ⟨b,2,none⟩ (.int .u64 s')).drew b (g+1) /\((((w.drewN nq).setCell ⟨b,1,none⟩ (.int .i64 (g+1))).setCell ⟨b,2,none⟩ z).setCell ⟨b,2,none⟩ (.int .u64 s')).drew.heap.size=w.heap.size:=by
 refine⟨((((qi w nq _).trans (qf _ b 1 _)).trans (qf _ b 2 _)).trans (qf _ b 2 _)).trans (qc _ _),?_,by simp[qix,World.drewN,World.drew]⟩;have h1:(w.drewN nq).heap[b]?=some (.cells #[.slice base len cap,.int .i64 g,.int .u64 s] 89 (0,0)):=hb;have h2:=qh (o:=2) (v:=.int .u64 s') (qh (o:=2) (v:=z) (qh (o:=1) (v:=.int .i64 (g+1)) h1));refine⟨base,len,cap,g+1,s',qg9 _,by simpa[World.drew] using h2,hl,λhp=>?_⟩;obtain⟨lb,lo,e1,e2,e4⟩:=hr hp;refine⟨lb,lo,e1,e2,λi hi=>?_⟩;obtain⟨x,hx⟩:=e4 i hi;refine⟨x,?_⟩;have hne:∀o,(⟨b,o,none⟩:qho)≠⟨lb,lo+i,none⟩:=λo e=>by cases e;omega
 show qh6 ((((w.drewN nq).setCell ⟨b,1,none⟩ (.int .i64 (g+1))).setCell ⟨b,2,none⟩ z).setCell ⟨b,2,none⟩ (.int .u64 s')) _=_;rw[qib _ _ _ _ (hne _),qib _ _ _ _ (hne _),qib _ _ _ _ (hne _)];exact hx
theorem qS.lt{w:qg7}{b g:Nat}(h:qS w b g):b<w.heap.size:=by
 obtain⟨_,_,_,_,_,_,hb,_⟩:=h;exact(qg8.1 hb).1
theorem qS.kept{w w':qg7}{b g:Nat}{row:Option Nat}(h:qS w b g)(hg:w.grownBy w' row)(hr:∀B,row=some B->b<B):qS w' b g:=by
 have hlt:=h.lt;have hne:some b≠row:=λe=>by have:=hr b e.symm;omega
 obtain⟨base,len,cap,g',s,hk,hb,hl,hr'⟩:=h;refine⟨base,len,cap,g',s,hk,(hg.block b hlt hne).trans hb,hl,λhp=>?_⟩;obtain⟨lb,lo,e1,e2,e4⟩:=hr' hp;exact⟨lb,lo,e1,e2,λi hi=>(e4 i hi).imp λx hx=>hg.cell hx (λe=>by have:=hr lb e.symm;omega)⟩
theorem qS.alloc{w:qg7}{b g:Nat}(h:qS w b g)(o:Obj):qS (w.alloc o) b g:=h.kept (qg6 w o none) (by simp)
theorem qS.set{w:qg7}{b g X o:Nat}{v:qgb}(h:qS w b g)(hX:b<X):qS (w.setCell ⟨X,o,none⟩ v) b g:=h.kept (qf w X o v) (by rintro B e;cases e;exact hX)
theorem qdC{w w':qg7}{b B e size n:Nat}{v:qgb}{xs:List qgb}(hg:w.grownBy w' (some b))(h:w.ownsRow B e size v n xs)(hb:b<B):w'.ownsRow B e size v n xs :=
 h.kept hg (by
  by_cases e:v.ownBlock=some b
  ·have:=(h.lt b e).1;omega
  ·exact .inr e)
theorem q5e{w w1 w2:qg7}{b:Nat}{row:Option Nat}(h:w.grownBy w1 (some b))(k:w1.grownBy w2 row)(hr:∀j,row=some j->w.heap.size<=j):w.grownBy w2 (some b) :=
 h.andThen k λj e=>.inl (hr j e)
def Tn(b g:Nat)(w w':qg7):Prop:=w.grownBy w' (some b)/\qS w' b g
def QN(k:IntKind)(b g:Nat)(w:qg7)(p:Int->Prop)(e:Ending)(w':qg7):Prop:=∃r,p r/\e=.returned (.int k r)/\Tn b g w w'/\w'.heap.size=w.heap.size
theorem qbw(x:Int):0<=IntKind.u64.wrap x/\IntKind.u64.wrap x<18446744073709551616:=by
 have h:IntKind.u64.bits=64:=rfl;have hs:IntKind.u64.signed=false:=rfl;simp only[IntKind.wrap,h,hs];constructor
 ·simp;omega
 ·simp;omega
theorem qd9(op:BinOp)(x y:Int):0<=bits op .u64 x y/\bits op .u64 x y<18446744073709551616:=by
 unfold bits;exact qbw _
theorem qeH(x y:Int):0<=bits .xor .u64 x y / 512/\bits .xor .u64 x y / 512<36028797018963968:=by
 have:=qd9 .xor x y;omega
theorem q8H(b:Nat)(lb lo:Nat)(len cap:Nat)(g:Nat)(s x:Int)(w:qg7)(hg:g<4611686018427387904)(hb:w.heap[b]?=some (.cells #[.slice (some ⟨lb,lo,none⟩) len cap,.int .i64 g,.int .u64 s] 89 (0,0)))(hl:(len:Int)<=9223372036854775807)(hlt:g<len)(hr:0<len->∃lb' lo',(some ⟨lb,lo,none⟩:Option qho)=some ⟨lb',lo',none⟩/\lb'<b/\∀i,i<len->∃x,w.cell? ⟨lb',lo'+i,none⟩=some (.int .i64 x))(cx:w.cell? ⟨lb,lo+g,none⟩=some (.int .i64 x)) :qhf Tp.prog 125 #[.pointer (some ⟨b,0,none⟩)] w (QN .u64 b (g+1) w λu=>0<=u/\u<36028797018963968):=by
 have c0:w.cell? ⟨b,0,none⟩=some (.slice (some ⟨lb,lo,none⟩) len cap):=by simp[qh6,hb]
 have c1:w.cell? ⟨b,1,none⟩=some (.int .i64 g):=by simp[qh6,hb]
 have c2:w.cell? ⟨b,2,none⟩=some (.int .u64 s):=by simp[qh6,hb]
 have f1:w.frozen? ⟨b,1,none⟩=false:=by simp[qk4,hb]
 have f2:w.frozen? ⟨b,2,none⟩=false:=by simp[qk4,hb]
 have a6:(g:Int)<(len:Int):=by omega
 have hs:∀(nq:Nat) (u v z:qgb),((((w.drewN nq).setCell ⟨b,1,none⟩ u).setCell ⟨b,2,none⟩ v).setCell ⟨b,2,none⟩ z).cell? ⟨b,2,none⟩=some z:=by
  intro nq u v z;refine qlf _ _ _ (u:=v) ?_;refine qlf _ _ _ (u:=.int .u64 s) ?_;rw[qib _ _ _ _ (by simp)];simpa using c2
 have HP:=λnq z s'=>q2m (z:=z) (s':=s') hb hl hr nq;have HB:=qg4 HP;have HL:=qg4 hb;have HR:=qg4 hr;clear HP hb hr;go_enter Tp.x125,Tryz.ntmps125;go_wp2;go_quiet (fail);go_wp2;go_quiet (fail);go_wp2;go_region;all_goals go_wp2
 all_goals go_ret
 all_goals exact⟨_,qeH _ _,rfl,⟨(HB.out _ _ _).1,(HB.out _ _ _).2.1⟩,(HB.out _ _ _).2.2⟩
theorem q90(b:Nat)(base:Option qho)(len cap:Nat)(g:Nat)(s:Int)(w:qg7)(hg:g<4611686018427387904)(hb:w.heap[b]?=some (.cells #[.slice base len cap,.int .i64 g,.int .u64 s] 89 (0,0)))(hl:(len:Int)<=9223372036854775807)(hlt:¬ g<len)(hr:0<len->∃lb' lo',base=some ⟨lb',lo',none⟩/\lb'<b/\∀i,i<len->∃x,w.cell? ⟨lb',lo'+i,none⟩=some (.int .i64 x)) :qhf Tp.prog 125 #[.pointer (some ⟨b,0,none⟩)] w (QN .u64 b (g+1) w λu=>0<=u/\u<36028797018963968):=by
 have c0:w.cell? ⟨b,0,none⟩=some (.slice base len cap):=by simp[qh6,hb]
 have c1:w.cell? ⟨b,1,none⟩=some (.int .i64 g):=by simp[qh6,hb]
 have c2:w.cell? ⟨b,2,none⟩=some (.int .u64 s):=by simp[qh6,hb]
 have f1:w.frozen? ⟨b,1,none⟩=false:=by simp[qk4,hb]
 have f2:w.frozen? ⟨b,2,none⟩=false:=by simp[qk4,hb]
 have a6:(len:Int)<=(g:Int):=by omega
 have hs:∀(nq:Nat) (u v z:qgb),((((w.drewN nq).setCell ⟨b,1,none⟩ u).setCell ⟨b,2,none⟩ v).setCell ⟨b,2,none⟩ z).cell? ⟨b,2,none⟩=some z:=by
  intro nq u v z;refine qlf _ _ _ (u:=v) ?_;refine qlf _ _ _ (u:=.int .u64 s) ?_;rw[qib _ _ _ _ (by simp)];simpa using c2
 have HP:=λnq z s'=>q2m (z:=z) (s':=s') hb hl hr nq;have HB:=qg4 HP;have HL:=qg4 hb;have HR:=qg4 hr;clear HP hb hr;go_enter Tp.x125,Tryz.ntmps125;go_wp2;go_quiet (fail);go_wp2;go_region;all_goals go_wp2
 all_goals go_ret
 all_goals exact⟨_,qeH _ _,rfl,⟨(HB.out _ _ _).1,(HB.out _ _ _).2.1⟩,(HB.out _ _ _).2.2⟩
theorem KR(b g:Nat)(w:qg7)(ht:qS w b g)(hg:g<4611686018427387904) :qhf Tp.prog 125 #[.pointer (some ⟨b,0,none⟩)] w (QN .u64 b (g+1) w λu=>0<=u/\u<36028797018963968):=by
 obtain⟨base,len,cap,g',s,hk,hb,hl,hr⟩:=ht;have fin:∀e w',QN .u64 b (g'+1) w (λu=>0<=u/\u<36028797018963968) e w'->QN .u64 b (g+1) w (λu=>0<=u/\u<36028797018963968) e w':=by
  rintro e w' ⟨r,h1,h2,h3,h4⟩;exact⟨r,h1,h2,⟨h3.1,h3.2.mono (by omega)⟩,h4⟩
 by_cases hlt:g'<len
 ·obtain⟨lb,lo,rfl,e2,e4⟩:=hr (by omega);obtain⟨x,hx⟩:=e4 g' hlt;exact(q8H b lb lo len cap g' s x w (by omega) hb hl hlt hr hx).mono fin
 ·exact(q90 b base len cap g' s w (by omega) hb hl hlt hr).mono fin
def q8q(b:Nat)(w:qg7)(v:qgb)(l:List Int):Prop :=
 ∃base cap,v=.slice base l.length cap/\(l.length:Int)<=9223372036854775807/\(l≠[]->∃B o,base=some ⟨B,o,none⟩/\B≠b/\B<w.heap.size/\∀i,i<l.length->w.cell? ⟨B,o+i,none⟩=some (.int .i64 (l[i]?.getD 0)))
theorem q8q.laid{b:Nat}(w:qg7)(l:List Int)(n:Nat)(hn:n=l.length)(hb:b<w.heap.size)(hl:l.length<=1000)(fr:Nat × Nat:=(0,0)) :q8q b (w.alloc (.cells (l.map (qgy .i64)).toArray 3 fr)) (.slice (some ⟨w.heap.size,0,none⟩) n n) l:=by
 subst hn;refine⟨_,_,rfl,by omega,λ_=>⟨w.heap.size,0,rfl,by omega,by simp,λi hi=>?_⟩⟩;have:=qgg w (.cells (l.map (qgy .i64)).toArray 3 fr);unfold qh6;rw[this];simp[qge hi]
theorem qcd{u n:Int}(_:0<=u)(hn:0<=n):0<=u % (n+1)/\u % (n+1)<=n:=by
 have h1:=Int.emod_nonneg u (show n+1≠0 by omega);have h2:=Int.emod_lt_of_pos u (show 0<n+1 by omega);omega
theorem q8y(b g:Nat)(n:Int)(w:qg7)(ht:qS w b g)(hg:g<4611686018427387904)(hn:n<1) :qhf Tp.prog 68 #[.pointer (some ⟨b,0,none⟩),.int .i64 n] w (QN .i64 b (g+1) w λr=>r=0):=by
 have HT:=qg4 ht;clear ht;go_enter Tp.x68,Tryz.ntmps68;go_wp2_with (go_at_call 125;refine(KR b g _ HT.out hg).mono ?_;rintro e w' ⟨u,⟨a9,a8⟩,rfl,HN,HS⟩;have a7:=qg4 HN;have a6:=qg4 HS;clear HN HS);go_ret;exact⟨0,rfl,rfl,a7.out,a6.out⟩
theorem q8z(b g:Nat)(n:Int)(w:qg7)(ht:qS w b g)(hg:g<4611686018427387904)(hn:1<=n)(hm:n<=1000000000) :qhf Tp.prog 68 #[.pointer (some ⟨b,0,none⟩),.int .i64 n] w (QN .i64 b (g+1) w λr=>0<=r/\r<=n):=by
 have HT:=qg4 ht;clear ht;go_enter Tp.x68,Tryz.ntmps68;go_wp2_with (go_at_call 125;refine(KR b g _ HT.out hg).mono ?_;rintro e w' ⟨u,⟨a6,a9⟩,rfl,HN,HS⟩;have a8:=qg4 HN;have a7:=qg4 HS;clear HN HS);go_ret;have hf:=qcd a6 (show 0<=n by omega);refine⟨_,?_,rfl,a8.out,a7.out⟩;rw[IntWalk.wrap64_in (u % (n+1)) ⟨by omega,by omega⟩];exact hf
theorem kg(b g:Nat)(n:Int)(w:qg7)(ht:qS w b g)(hg:g<4611686018427387904)(hm:n<=1000000000) :qhf Tp.prog 68 #[.pointer (some ⟨b,0,none⟩),.int .i64 n] w (QN .i64 b (g+1) w λr=>0<=r/\(r<=n\/r=0)):=by
 by_cases hn:n<1
 ·refine(q8y b g n w ht hg hn).mono ?_;rintro e w' ⟨r,h1,h2⟩;exact⟨r,by omega,h2⟩
 ·refine(q8z b g n w ht hg (by omega) hm).mono ?_;rintro e w' ⟨r,h1,h2⟩;exact⟨r,by omega,h2⟩
theorem xK(b g:Nat)(lo hi:Int)(w:qg7)(ht:qS w b g)(hg:g<4611686018427387904)(h1:-1000000000<=lo)(h2:lo<=400000000)(h3:-400000000<=hi)(h4:hi<=400000000)(h5:hi - lo<=1000000000) :qhf Tp.prog 70 #[.pointer (some ⟨b,0,none⟩),.int .i64 lo,.int .i64 hi] w (QN .i64 b (g+1) w λr=>lo<=r/\(r<=hi\/r=lo)):=by
 have HT:=qg4 ht;clear ht;go_enter Tp.x70,Tryz.ntmps70;go_wp2_with (go_at_call 68;refine(kg b g _ _ HT.out hg (by omega)).mono ?_;rintro e w' ⟨u,⟨b0,a9⟩,rfl,HN,HS⟩;have a7:=qg4 HN;have a6:=qg4 HS;clear HN HS;have a8:u<=1400000000:=by omega);go_ret;refine⟨_,?_,rfl,a7.out,a6.out⟩;omega
theorem xN(b g:Nat)(v:qgb)(l:List Int)(w:qg7)(ht:qS w b g)(hg:g<4611686018427387904)(hl:q8q b w v l)(hne:0<l.length)(hm:l.length<=1000) :qhf Tp.prog 90 #[.pointer (some ⟨b,0,none⟩),v] w (QN .i64 b (g+1) w λr=>r∈l):=by
 obtain⟨base,cap,rfl,b0,hr⟩:=hl;obtain⟨B,o,rfl,e2,e3,e4⟩:=hr (by intro e;rw[e] at hne;simp at hne);have HT:=qg4 ht;have E4:=qg4 e4;clear ht e4 hr;go_enter Tp.x90,Tryz.ntmps90;go_wp2_with (first | (go_at_call 68;go_must (refine(kg b g _ _ HT.out hg (by omega)).mono ?_);rintro e w' ⟨u,⟨a7,a9⟩,rfl,HN,HS⟩;have a6:=qg4 HN;have a8:=qg4 HS;clear HN HS;go_must (obtain⟨k,rfl⟩:=Int.eq_ofNat_of_zero_le a7);go_must (have hk:k<l.length:=by omega);go_must (have b6:(k:Int)<(l.length:Int):=by omega);go_must (have hc:w'.cell? ⟨B,o+k,none⟩=some (.int .i64 (l[k]?.getD 0)):=a6.out.1.cell (E4.out k hk) (λe=>e2 (by cases e;rfl)))));go_ret;refine⟨_,?_,rfl,a6.out,a8.out⟩;simp[qge hk]
theorem q2h(b g:Nat)(n:Int)(w:qg7)(ht:qS w b g)(hg:g<4611686018427387904)(h1:1<=n)(h2:n<=1000) :qhf Tp.prog 69 #[.pointer (some ⟨b,0,none⟩),.int .i64 n] w λe w'=>(∃t:Bool,e=.returned (.bool t))/\Tn b (g+1) w w'/\w'.heap.size=w.heap.size:=by
 have HT:=qg4 ht;clear ht;go_enter Tp.x69,Tryz.ntmps69;go_wp2_with (go_at_call 68;refine(kg b g _ _ HT.out hg (by omega)).mono ?_;rintro e w' ⟨u,⟨a9,a8⟩,rfl,HN,HS⟩;have a7:=qg4 HN;have a6:=qg4 HS;clear HN HS);go_ret;exact⟨⟨_,rfl⟩,a7.out,a6.out⟩
theorem q57(base:Option qho)(len cap:Nat)(w:qg7)(hl:(len:Int)<=9223372036854775807)(hr:0<len->∃lb lo,base=some ⟨lb,lo,none⟩/\∀i,i<len->∃x,w.cell? ⟨lb,lo+i,none⟩=some (.int .i64 x)) :qhf Tp.prog 24 #[.slice base len cap] w λe w'=>e=.returned (.pointer (some ⟨w.heap.size,0,none⟩))/\w.grownBy w' none/\qS w' w.heap.size 0:=by
 have HR:=qg4 hr;clear hr;go_enter Tp.x24,Tryz.ntmps24;go_wp2;go_ret;refine⟨rfl,qg6 _ _ _,base,len,cap,0,7640891576956012809,qg9 _,qgg _ _,hl,λhp=>?_⟩;obtain⟨lb,lo,e,h⟩:=HR.out hp;obtain⟨x0,a6⟩:=h 0 hp;have hlt:lb<w.heap.size:=block_lt_of_cell a6;refine⟨lb,lo,e,hlt,λi hi=>?_⟩;obtain⟨x,hx⟩:=h i hi;exact⟨x,(qg6 w _ none).cell hx (by simp)⟩
structure q48(p:Par):Prop where
 a:1<=p.mn
 b:p.mn<=8
 c:p.mn<=p.mx
 d:p.mx<=p.mn+2
 e:0<=p.bears
 f:p.bears<=30
 g:1<=p.tall
 h:p.tall<=2
def qfd(p:Par):qgb:=.agg #[.int .i64 p.mn,.int .i64 p.mx,.int .i64 p.bears,.int .i64 p.tall]
theorem q16{w w1 w2:qg7}{b g:Nat}(h:w.grownBy w1 (some b))(k:Tn b g w1 w2):w.grownBy w2 (some b):=h.trans k.1
theorem q1r(b g:Nat)(w:qg7)(ht:qS w b g)(hg:g<1000000):qhf Tp.prog 62 #[.pointer (some ⟨b,0,none⟩)] w λe w'=>∃p,q48 p/\e=.returned (qfd p)/\Tn b (g+7) w w':=by
 obtain⟨Z,hZ⟩:∃Z,Z=w.heap.size:=⟨_,rfl⟩;have b8:b<Z:=by rw[hZ];exact ht.lt
 obtain⟨w1,a8⟩:∃w1,w1=w.alloc (.cells #[.int .i64 0,.int .i64 0,.int .i64 0,.int .i64 0] 28):=⟨_,rfl⟩;have hR:w1.heap[Z]?=some (.cells #[.int .i64 0,.int .i64 0,.int .i64 0,.int .i64 0] 28 (0,0)):=by rw[a8,hZ];exact qgg w _
 have hG:w.grownBy w1 (some b):=by rw[a8];exact qg6 _ _ _
 have HT:=qg4 (show qS w1 b g by rw[a8];exact ht.alloc _);have HZ:=qg4 hZ;have c3:=qg4 a8;have HR:=qg4 hR;have HG:=qg4 hG;clear hZ a8 hR hG ht;go_enter Tp.x62,Tryz.ntmps62;go_upto_region 1 with(fail);rw[<- HZ.out,show w.alloc (.cells #[.int .i64 0,.int .i64 0,.int .i64 0,.int .i64 0] 28)=w1 from c3.out.symm];go_upto_region 2 with(first
  | (go_at_call 70;refine(xK b g 1 8 _ HT.out (by omega) (by omega) (by omega) (by omega) (by omega) (by omega)).mono ?_;rintro e w2 ⟨lo,hlo,rfl,hn,-⟩;replace HR:=qg4 (blk hn.1 (by simp;omega) HR.out);replace HG:=qg4 (q16 HG.out hn);replace HT:=qg4 hn.2;clear hn))
 have a7:Z≠b:=by omega
 go_wp2_with (fail);refine(xN b (g+1) _ [0,0,1,2] _ (HT.out.alloc _) (by omega) (q8q.laid _ [0,0,1,2] 4 rfl HT.out.lt (by decide)) (by decide) (by decide)).mono ?_;rintro e w3 ⟨k,hk,rfl,hn,-⟩;simp only[qhH,qif,or_false] at hk;have a6:=qg6 w2 (.cells #[.int .i64 0,.int .i64 0,.int .i64 1,.int .i64 2] 3) (some b);replace HR:=qg4 (blk hn.1 (by simpa using a7) (blk a6 (by simpa using a7) HR.out));replace HG:=qg4 ((HG.out.trans a6).trans hn.1);replace HT:=qg4 hn.2;clear hn a6;have d5:0<=k/\k<=2:=by omega
 clear hk;go_wp2_with (first
  | (go_at_call 68;refine(kg b _ _ _ HT.out (by omega) (by omega)).mono ?_;rintro e w4 ⟨u,hu,rfl,hn,-⟩;replace HR:=qg4 (blk hn.1 (by simpa using a7) HR.out);replace HG:=qg4 (q16 HG.out hn);replace HT:=qg4 hn.2;clear hn))
 rename_i u1 b7 wx u2 b6 wy wz
 refine(xN b (g+1+1+1+1+1) _ [0,u1,u2,u] _ (HT.out.alloc _) (by omega) (q8q.laid _ [0,u1,u2,u] 4 rfl HT.out.lt (by simp)) (by simp) (by simp)).mono ?_;rintro e w7 ⟨r,hr,rfl,hn,-⟩;simp only[qhH,qif,or_false] at hr;have a6:=qg6 w4 (.cells #[.int .i64 0,.int .i64 u1,.int .i64 u2,.int .i64 u] 3) (some b);replace HR:=qg4 (blk hn.1 (by simpa using a7) (blk a6 (by simpa using a7) HR.out));replace HG:=qg4 ((HG.out.trans a6).trans hn.1);replace HT:=qg4 hn.2;clear hn a6;have c9:0<=r/\r<=30:=by omega
 clear hr hu b7 b6;have f:=λ(w9:qg7) (h:w9.heap[Z]?=some (.cells #[.int .i64 0,.int .i64 0,.int .i64 0,.int .i64 0] 28 (0,0))) (o:Nat)=>qn (o:=o) h;have F:=qg4 f;clear f;go_wp2_with (first
  | (go_at_call 70;refine(xK b _ 1 2 _ HT.out (by omega) (by omega) (by omega) (by omega) (by omega) (by omega)).mono ?_;rintro e w8 ⟨ta,c8,rfl,hn,-⟩;replace HR:=qg4 (blk hn.1 (by simpa using a7) HR.out);replace HG:=qg4 (q16 HG.out hn);replace HT:=qg4 hn.2;clear hn;have z0:=q8 (o:=0) HR.out rfl;have z1:=q8 (o:=1) HR.out rfl;have z2:=q8 (o:=2) HR.out rfl;have z3:=q8 (o:=3) HR.out rfl;have t0:=qn (o:=0) HR.out;have t1:=qn (o:=1) HR.out;have t2:=qn (o:=2) HR.out;have t3:=qn (o:=3) HR.out))
 obtain⟨W,a9⟩:∃W,W=(((w8.setCell ⟨Z,0,none⟩ (.int .i64 lo)).setCell ⟨Z,1,none⟩ (.int .i64 (lo+k))).setCell ⟨Z,2,none⟩ (.int .i64 r)).setCell ⟨Z,3,none⟩ (.int .i64 ta):=⟨_,rfl⟩;have b9:W.heap[Z]?=some (.cells #[.int .i64 lo,.int .i64 (lo+k),.int .i64 r,.int .i64 ta] 28 (0,0)):=by rw[a9,qh (qh (qh (qh HR.out)))];rfl
 have b0:w8.grownBy W (some Z):=by rw[a9];exact(((qf _ _ _ _).trans (qf _ _ _ _)).trans (qf _ _ _ _)).trans (qf _ _ _ _)
 rw[<- a9];exact qji (v:=.agg #[.int .i64 lo,.int .i64 (lo+k),.int .i64 r,.int .i64 ta]) (by simp[qjo,Tryz.results62,go_sem,qh6,b9]) rfl ⟨⟨lo,lo+k,r,ta⟩,⟨by dsimp only;omega,by dsimp only;omega,by dsimp only;omega,by dsimp only;omega,by dsimp only;omega,by dsimp only;omega,by dsimp only;omega,by dsimp only;omega⟩,rfl,q5e HG.out b0 (by rintro j e;cases e;have:=HZ.out;omega),HT.out.kept b0 (by rintro B e;cases e;exact b8)⟩
end
end Go.Proofs.YtidgnkmjgioapaaGreat
section
namespace Go
theorem xm(z:Array qgb):z=((qgB z.size).map λj=>z[j]?.getD qgd).toArray:=by
 apply Array.ext
 ·simp
 ·intro i h1 h2;simp[h1]
end Go
namespace Go.Co
open Go
def zn(w:qg7)(B:Nat):Prop:=∃cs e f,w.heap[B]?=some (.cells cs e f)/\∀(i:Nat) v,cs[i]?=some v->∃k m,v=qgy k m
def zm(xs:List qgb):Prop:=∀v∈xs,∃k m,v=qgy k m
theorem zm.app{xs ys:List qgb}(h:zm xs)(h':zm ys):zm (xs++ys):=λv hv=>(qiD.1 hv).elim (h v) (h' v)
theorem q2a{z:Array qgb}(hz:zm z.toList)(hp:0<z.size)(n:Nat):zm (qiz z n).toList:=by
 intro v hv;simp only[qiz,Array.toList_map,qjr] at hv;obtain⟨i,_,rfl⟩:=hv;have hlt:i % z.size<z.size:=Nat.mod_lt _ hp;rw[getElem!_pos z _ hlt];exact hz _ (Array.getElem_mem_toList hlt)
theorem ZD{w:qg7}{B:Nat}{xs:Array qgb}{e:qgt}{f:Nat × Nat}(h:w.heap[B]?=some (.cells xs e f))(hx:zm xs.toList):zn w B:=⟨xs,e,f,h,λi v hv=>hx v (qiF.2 (qi5 hv))⟩
theorem zn.all{w:qg7}{B:Nat}{xs:Array qgb}{e:qgt}{f:Nat × Nat}(h:zn w B)(hx:w.heap[B]?=some (.cells xs e f)):zm xs.toList:=by
 obtain⟨cs,e',f',h1,h2⟩:=h;rw[hx] at h1;cases h1;intro v hv;obtain⟨i,hi⟩:=qkG.1 hv;exact h2 i v (by simpa using hi)
theorem JG{P:qgl}(w:qg7)(t ty:qgt)(base:Nat)(e:qgt)(i:ql2)(z:qgb)(size qnt:Nat)(ht:P.underlying t=some (.slice e))(hi:P.info? e=some i)(hz:i.zero=some z)(hsize:i.size=size)(hby:i.bytes=qnt)(hzs:z.cells.size=size)(hsz:0<size)(v:qgb)(n:Nat)(xs:List qgb)(hown:w.ownsRow base e size v n xs)(ad:qho)(m c:Nat)(news:List qgb)(hl:news.length=m*size)(hnews:∀j u,news[j]?=some u->w.cell? (ad.add j)=some u)(h1:∀u∈news,u.oneCell'=true)(hm:0<m)(h63:n+m<=qk9)(hbytes:(n+m)*qnt<=140737488355328)(hbase:base<=w.heap.size)(H:Nat)(hH:w.heap.size=H)(hI:∀g,v.ownBlock=some g->zn w g)(hni:zm news)(hzi:zm z.cells.toList) :∃g cap w',(ql0 #[t,t] ty #[v,.slice (some ad) m c]).run P w=.ok (.slice (some ⟨g,0,none⟩) (n+m) cap) w' /\w'.ownsRow base e size (.slice (some ⟨g,0,none⟩) (n+m) cap) (n+m) (xs++news)/\w.grownBy w' v.ownBlock/\(v.ownBlock=some g\/g=H)/\g<w'.heap.size/\zn w' g:=by
 obtain⟨g,cap,w',hr,h2,h3,h4,h5⟩:=run_append_lies (P:=P) w t ty base e i z size qnt ht hi hz hsize hby hzs hsz v n xs hown ad m c news hl hnews h1 hm h63 hbytes hbase H hH;refine⟨g,cap,w',hr,h2,h3,h4,h5,?_⟩;subst hsize;subst hby
 have b0:n+m<=9223372036854775807:=by simp only[qk9] at h63;omega
 have a8:=λk=>q2a (z:=z.cells) hzi (by rw[hzs];exact hsz) k;rcases hown.2 with⟨rfl,rfl⟩ | ⟨g0,cap0,cur,rfl,hbg,hg,hnc,hcm,hcs,htake⟩
 ·have hr':=run_append_nil (P:=P) w t ty e i z ht hi hz ad m c news hl hnews hm (by omega) (by have hb:=hbytes;simp only[qgz] at hb;omega);have he:=hr.symm.trans hr';simp only[Result.ok.injEq,Value.slice.injEq,qhc,Addr.mk.injEq] at he;obtain⟨⟨⟨rfl,_⟩,_⟩,rfl⟩:=he;exact ZD (qgg w.drew _) (by simpa using hni.app (a8 _))
 ·by_cases a6:n+m<=cap0
  ·have a9:n*i.size+news.length<=cur.size:=by rw[hl,hcs,<- qmq];exact Nat.mul_le_mul_right _ a6
   have hr':=run_append_room (P:=P) w t ty e i ht hi g0 n cap0 cur hg ad m c news hl hnews h1 a6 a9;have he:=hr.symm.trans hr';simp only[Result.ok.injEq,Value.slice.injEq,qhc,Addr.mk.injEq] at he;obtain⟨⟨⟨rfl,_⟩,_⟩,rfl⟩:=he;have hc:=(hI g rfl).all hg;refine ZD (setRow_heap w g cur _ e _ hg) ?_;exact((zm.app (λv hv=>hc v (ql6 hv)) hni).app λv hv=>hc v (List.mem_of_mem_drop hv))
  ·have a7:∀j u,xs[j]?=some u->w.cell? ((⟨g0,0,none⟩:qho).add j)=some u:=hown.cells (g:=g0) rfl;have hr':=run_append_grow (P:=P) w t ty e i z ht hi hz ⟨g0,0,none⟩ n cap0 xs hown.1 a7 ad m c news hl hnews (by omega) (by omega) (growslice_fits (by omega) hbytes);have he:=hr.symm.trans hr';simp only[Result.ok.injEq,Value.slice.injEq,qhc,Addr.mk.injEq] at he;obtain⟨⟨⟨rfl,_⟩,_⟩,rfl⟩:=he;have hc:=(hI g0 rfl).all hg;refine ZD (qgg w.drew _) ?_;have hx:zm xs:=λv hv=>hc v (by rw[<- htake] at hv;exact ql6 hv);simpa using(hx.app hni).app (a8 _)
theorem xH{P:qgl}{w:qg7}{o:qi6}{a:Act}{K:Act->qg7->Prop}{Q:Exit->Act->qg7->Prop}(s x:qhh)(t:qgt)(ho:o.op=.call { callee:=.builtin .append,args:=#[s,x],argTypes:=#[t,t] })(base:Nat)(e:qgt)(i:ql2)(z:qgb)(size qnt:Nat)(ht:P.underlying t=some (.slice e))(hi:P.info? e=some i)(hz:i.zero=some z)(hsize:i.size=size)(hby:i.bytes=qnt)(hzs:z.cells.size=size)(hsz:0<size)(v:qgb)(n:Nat)(xs:List qgb)(hs:a.eval s=v)(hown:w.ownsRow base e size v n xs)(ad:qho)(m c:Nat)(news:List qgb)(hx:a.eval x=.slice (some ad) m c)(hl:news.length=m*size)(hnews:∀j u,news[j]?=some u->w.cell? (ad.add j)=some u)(h1:∀u∈news,u.oneCell'=true)(hm:0<m)(h63:n+m<=qk9)(hbytes:(n+m)*qnt<=140737488355328)(hbase:base<=w.heap.size)(H:Nat)(hH:w.heap.size=H)(hI:∀g,v.ownBlock=some g->zn w g)(hni:zm news)(hzi:zm z.cells.toList)(h:∀g cap w',w'.ownsRow base e size (.slice (some ⟨g,0,none⟩) (n+m) cap) (n+m) (xs++news)->w.grownBy w' v.ownBlock->(v.ownBlock=some g\/g=H)->g<w'.heap.size->zn w' g->K (a.put o.dst (.slice (some ⟨g,0,none⟩) (n+m) cap)) w'):o.wp P a w K Q:=by
 obtain⟨g,cap,w',hr,h2,h3,h4,h5,h6⟩:=JG (P:=P) w t o.type base e i z size qnt ht hi hz hsize hby hzs hsz v n xs hown ad m c news hl hnews h1 hm h63 hbytes hbase H hH hI hni hzi;unfold Oper.wp qjt;simp only[ho,resolve,invoke,builtin,qi7,qmA,qi8,List.map_toArray,qkm,List.map_nil,hs,hx,hr];exact h g cap w' h2 h3 h4 h5 h6
theorem zn.kept{w w':qg7}{j:Nat}{r:Option Nat}(h:zn w j)(hg:w.grownBy w' r)(hr:some j≠r):zn w' j:=by
 obtain⟨cs,e,f,h1,h2⟩:=h;exact⟨cs,e,f,(hg.block j (qg8.1 h1).1 hr).trans h1,h2⟩
theorem vw{P:qgl}{w:qg7}{ops:Array qi6}{o:qi6}{a:Act}{K:Act->qg7->Prop}{Q:Exit->Act->qg7->Prop}{E:Prop}(a6:o.guard=none)(s x:qhh)(t:qgt)(ho:o.op=.call { callee:=.builtin .append,args:=#[s,x],argTypes:=#[t,t] })(base:Nat)(e:qgt)(i:ql2)(z:qgb)(size qnt:Nat)(ht:P.underlying t=some (.slice e))(hi:P.info? e=some i)(hz:i.zero=some z)(hsize:i.size=size)(hby:i.bytes=qnt)(hzs:z.cells.size=size)(hsz:0<size)(v:qgb)(n:Nat)(xs:List qgb)(hs:a.eval s=v)(hown:w.ownsRow base e size v n xs)(ad:qho)(m c:Nat)(news:List qgb)(hx:a.eval x=.slice (some ad) m c)(hl:news.length=m*size)(hnews:∀j u,news[j]?=some u->w.cell? (ad.add j)=some u)(h1:∀u∈news,u.oneCell'=true)(hm:0<m)(h63:n+m<=qk9)(hbytes:(n+m)*qnt<=140737488355328)(hbase:base<=w.heap.size)(H:Nat)(hH:w.heap.size=H)(hI:∀g,v.ownBlock=some g->zn w g)(hni:zm news)(hzi:zm z.cells.toList)(h:∀g cap w',w'.ownsRow base e size (.slice (some ⟨g,0,none⟩) (n+m) cap) (n+m) (xs++news)->w.grownBy w' v.ownBlock->(v.ownBlock=some g\/g=H)->g<w'.heap.size->zn w' g->K (a.put o.dst (.slice (some ⟨g,0,none⟩) (n+m) cap)) w') :if qhi o (qj7 ops a.tmps)=true then Oper.wp P o a w K Q else E:=by
 rw[if_pos (by simp[qhi,a6])];exact xH s x t ho base e i z size qnt ht hi hz hsize hby hzs hsz v n xs hs hown ad m c news hx hl hnews h1 hm h63 hbytes hbase H hH hI hni hzi h
theorem QQ{P:qgl}{w:qg7}{ops:Array qi6}{rest:List qi6}{o:qi6}{a:Act}{Q:Exit->Act->qg7->Prop}(a6:o.guard=none)(s x:qhh)(t:qgt)(ho:o.op=.call { callee:=.builtin .append,args:=#[s,x],argTypes:=#[t,t] })(base:Nat)(e:qgt)(i:ql2)(z:qgb)(size qnt:Nat)(ht:P.underlying t=some (.slice e))(hi:P.info? e=some i)(hz:i.zero=some z)(hsize:i.size=size)(hby:i.bytes=qnt)(hzs:z.cells.size=size)(hsz:0<size)(v:qgb)(n:Nat)(xs:List qgb)(hs:a.eval s=v)(hown:w.ownsRow base e size v n xs)(ad:qho)(m c:Nat)(news:List qgb)(hx:a.eval x=.slice (some ad) m c)(hl:news.length=m*size)(hnews:∀j u,news[j]?=some u->w.cell? (ad.add j)=some u)(h1:∀u∈news,u.oneCell'=true)(hm:0<m)(h63:n+m<=qk9)(hbytes:(n+m)*qnt<=140737488355328)(hbase:base<=w.heap.size)(H:Nat)(hH:w.heap.size=H)(hI:∀g,v.ownBlock=some g->zn w g)(hni:zm news)(hzi:zm z.cells.toList)(h:∀g cap w',w'.ownsRow base e size (.slice (some ⟨g,0,none⟩) (n+m) cap) (n+m) (xs++news)->w.grownBy w' v.ownBlock->(v.ownBlock=some g\/g=H)->g<w'.heap.size->zn w' g->wpList P ops Q rest (a.put o.dst (.slice (some ⟨g,0,none⟩) (n+m) cap)) w'):wpList P ops Q (o::rest) a w :=
 wpList_plain a6 λ_ hK=>xH s x t ho base e i z size qnt ht hi hz hsize hby hzs hsz v n xs hs hown ad m c news hx hl hnews h1 hm h63 hbytes hbase H hH hI hni hzi λg cap w' h2 h3 h4 h5 h6=>hK _ _ (h g cap w' h2 h3 h4 h5 h6)
end Go.Co
end
namespace Go.Proofs.YtidgnkmjgioapaaGreat
section
open Go.RowKit Go.Co
theorem Tp.und22:Tp.prog.underlying 22=some (.slice 28):=by rw[Tp.und];exact Tryz.underlying22
theorem Tp.info28p:(Tp.prog.info? 28).map (λi=>(i.zero,i.size,i.bytes))=some (some (.agg #[.int .i64 0,.int .i64 0,.int .i64 0,.int .i64 0]),4,32):=by kernel_rfl
def Zv(p:Par):List qgb:=[.int .i64 p.mn,.int .i64 p.mx,.int .i64 p.bears,.int .i64 p.tall]
def Zu(ps:List Par):List qgb:=ps.flatMap Zv
theorem q52(ps:List Par)(p:Par):Zu (ps++[p])=Zu ps++Zv p:=by simp[Zu]
theorem q7o(ps:List Par)(i:Nat)(p:Par)(h:ps[i]?=some p)(d:Nat)(hd:d<4):(Zu ps)[i*4+d]?=(Zv p)[d]?:=by
 induction ps generalizing i with
 | nil=>simp at h
 | cons q t ih=>
  unfold Zu;rw[qiB];cases i with
  | zero=>
   simp at h;subst h;rw[qh0 (by simp[Zv];omega),Nat.zero_mul,qgz]
  | succ i=>
   simp at h;rw[qin (by simp[Zv];omega)];rw[show(i+1)*4+d - (Zv q).length=i*4+d from by simp[Zv];omega];exact ih i h
theorem qr.own{lo n:Nat}{w:qg7}{v:qgb}{ps:List Par}(h:w.ownsRow lo 28 4 v n (Zu ps))(hn:ps.length=n)(hl:(ps.length:Int)<=1000000):qr lo w.heap.size w v ps:=by
 subst hn;obtain⟨h1,h2⟩:=h;rcases h2 with⟨rfl,h0⟩ | ⟨g,cap,cur,rfl,hb,hg,hc,hm,hs,ht⟩
 ·exact⟨none,0,by rw[h0],hl,λhne=>absurd (qhC h0) hne⟩
 ·refine⟨_,cap,rfl,hl,λ_=>⟨g,0,cur,(0,0),rfl,hb,(qg8.1 hg).1,hg,λi hi=>?_⟩⟩;have hp:ps[i]?=some ps[i]:=qge hi;have key:∀d,d<4->cur[i*4+d]?=(Zv ps[i])[d]?:=λd hd=>by
   have h3:(cur.toList.take (ps.length*4))[i*4+d]?=(Zv ps[i])[d]?:=by rw[ht];exact q7o ps i _ hp d hd
   rw[qj3 (by omega)] at h3;simpa using h3
  have k0:=key 0 (by omega);have k1:=key 1 (by omega);have k2:=key 2 (by omega);have k3:=key 3 (by omega);rw[Nat.add_zero] at k0;refine⟨_,hp,?_,?_,?_,?_⟩;all_goals simp only[qgz]
  ·exact k0
  ·exact k1
  ·exact k2
  ·exact k3
theorem JN{P:qgl}{c:qiw}{Q:Exit->Act->qg7->Prop}{a:Act}{w:qg7}(F:qg7->Prop)(hF:F w)(h:∀u,F u->c.wp P Q a u):c.wp P Q a w:=h w hF
theorem J4{w:qg7}{k:Nat}{o:Obj}(h:w.heap[k]?=some o):k<w.heap.size:=(qg8.1 h).1
def YR(b g Z X:Nat)(u:Nat)(lim:Int)(w:qg7)(i:qgb)(wr:qg7):Prop :=
 ∃(k:Nat) (fv:qgb) (ps:List Par),i=.int .i64 ((u:Int) - k)/\k<=u/\ps.length=k/\(∀p∈ps,q48 p) /\
  wr.heap[X]?=some (.cells #[fv,.int .i64 lim] 24 (0,0))/\wr.ownsRow (X+1) 28 4 fv k (Zu ps)/\qS wr b (g+7*k)/\w.grownBy wr (some b)/\X<wr.heap.size/\wr.heap[Z]?=some (.cells #[.slice none 0 0,.int .i64 0] 24 (0,0))/\∀j,fv.ownBlock=some j->zn wr j
theorem YR.step{b g Z X u k gg cap:Nat}{lim:Int}{w w5:qg7}{ps:List Par}{p:Par}(hk:k<u)(hl:ps.length=k)(hd:∀x∈ps,q48 x)(hp:q48 p){fv:qgb}(hB:w5.heap[X]?=some (.cells #[fv,.int .i64 lim] 24 (0,0)))(hO:w5.ownsRow (X+1) 28 4 (.slice (some ⟨gg,0,none⟩) (k+1) cap) (k+1) (Zu ps++Zv p))(hT:qS w5 b (g+7*k+7))(hG:w.grownBy w5 (some b))(hX:w.heap.size<=X)(hb:b<X)(hZ:w5.heap[Z]?=some (.cells #[.slice none 0 0,.int .i64 0] 24 (0,0)))(a6:Z<X)(hI:zn w5 gg) :YR b g Z X u lim w (.int .i64 ((u:Int) - k - 1)) (w5.setCell ⟨X,0,none⟩ (.slice (some ⟨gg,0,none⟩) (k+1) cap)):=by
 have hn:gg≠X:=by have:=(hO.lt gg rfl).1;omega
 refine⟨k+1,_,ps++[p],by simp;omega,by omega,by simp[hl],?_,by rw[qh hB];rfl,?_,?_,q5e hG (qf _ X 0 _) (by rintro j e;cases e;exact hX),?_,blk (qf _ _ _ _) (by simp;omega) hZ,λj e=>by
  simp[qh3] at e;subst e;exact hI.kept (qf _ X 0 _) (by simpa using hn)⟩
 ·intro x hx;rcases qiD.1 hx with h | h
  ·exact hd x h
  ·rw[qj2.1 h];exact hp
 ·rw[q52];exact hO.kept (qf _ X 0 _) (.inr (by simp[qh3];exact hn))
 ·rw[show g+7*(k+1)=g+7*k+7 by omega];exact hT.set hb
 ·have:=(qg8.1 hB).1;simpa[qix] using this
structure qey(n:Nat)(ps:List Par)(lim:Int):Prop where
 len:ps.length<=n
 each:∀p∈ps,q48 p
 l1:2<=lim
 l2:lim<=6\/lim=12
theorem q4d(b g n:Nat)(w:qg7)(ht:qS w b g)(hg:g<100000)(hn:n<=1000):qhf Tp.prog 33 #[.pointer (some ⟨b,0,none⟩),.int .i64 n] w λe w'=>∃ps lim v,qey n ps lim/\e=.returned (.agg #[v,.int .i64 lim])/\Tn b (g+3+7*n) w w'/\qr w.heap.size w'.heap.size w' v ps/\∀ad m c,v=.slice (some ad) m c->zn w' ad.block:=by
 obtain⟨i0,g8,e9,e8,e7⟩:=qiv Tp.info28p;obtain⟨Z,hZ⟩:∃Z,Z=w.heap.size:=⟨_,rfl⟩;have k0:b<Z:=by rw[hZ];exact ht.lt
 have HT:=qg4 ht;have HZ:=qg4 hZ;clear ht hZ;go_enter Tp.x33,Tryz.ntmps33;go_upto_region 1 with(fail);rw[<- HZ.out];refine JN (λu=>u.heap[Z]?=some (.cells #[.slice none 0 0,.int .i64 0] 24 (0,0))/\w.grownBy u (some b)/\qS u b g) ⟨by rw[HZ.out];exact qgg _ _,qg6 _ _ _,HT.out.alloc _⟩ (λw1 hF=>?_);obtain⟨r1,g1,t1⟩:=hF;have R1:=qg4 r1;have G1:=qg4 g1;have T1:=qg4 t1;clear r1 g1 t1;have b6:Z≠b:=by omega
 go_upto_region 2 with(first
  | (go_at_call 70;refine(xK b g 2 6 _ T1.out (by omega) (by omega) (by omega) (by omega) (by omega) (by omega)).mono ?_;rintro e w2 ⟨lo,hlo,rfl,d5,-⟩;have N2:=qg4 d5;clear d5)
  | (go_at_call 90;refine(xN b (g+1) _ [lo,12] _ (N2.out.2.alloc _) (by omega) (q8q.laid _ [lo,12] 2 rfl N2.out.2.lt (by simp)) (by simp) (by simp)).mono ?_;rintro e w3 ⟨lim,a6,rfl,c9,-⟩;have N3:=qg4 c9;have b8:=qg4 a6;clear c9 a6))
 have a6:=b8.out;simp only[qhH,qif,or_false] at a6;have hl2:2<=lim/\(lim<=6\/lim=12):=by omega
 clear a6 b8 hlo;have b9:=qg6 w2 (.cells #[.int .i64 lo,.int .i64 12] 3) (some b);have g3:w.grownBy w3 (some b):=((G1.out.trans N2.out.1).trans b9).trans N3.out.1;have z3:=blk N3.out.1 (by simpa using b6) (blk b9 (by simpa using b6) (blk N2.out.1 (by simpa using b6) R1.out));obtain⟨X,hX⟩:∃X,X=w3.heap.size:=⟨_,rfl⟩;rw[<- hX];refine JN (λu=>u.heap[X]?=some (.cells #[.slice none 0 0,.int .i64 lim] 24 (0,0))/\w.grownBy u (some b)/\qS u b (g+2)/\u.heap[Z]?=some (.cells #[.slice none 0 0,.int .i64 0] 24 (0,0))) ⟨by rw[hX];exact qgg _ _,g3.trans (qg6 _ _ _),N3.out.2.alloc _,qq z3⟩ (λw4 hF=>?_);obtain⟨x4,g4,t4,z4⟩:=hF;have k6:Z<X:=by have:=J4 z3;omega
 have g5:w.heap.size<=X:=by have:=HZ.out;omega
 have X4:=qg4 x4;have G4:=qg4 g4;have T4:=qg4 t4;have Z4:=qg4 z4;clear b9 g3 z3 hX x4 g4 t4 z4 R1 G1 T1 N2 N3;have k5:b<X:=by omega
 go_wp2_with (first
  | (go_at_call 68;refine(kg b (g+2) _ _ T4.out (by omega) (by omega)).mono ?_;rintro e w5 ⟨u,hu,rfl,c8,-⟩;have N5:=qg4 c8;clear c8))
 obtain⟨m,rfl⟩:=Int.eq_ofNat_of_zero_le hu.1;have hm:m<=n:=by omega
 have x5:=blk N5.out.1 (by simp;omega) X4.out;have z5:=blk N5.out.1 (by simpa using b6) Z4.out;have X5:=qg4 x5;have Z5:=qg4 z5;have G5:=qg4 (G4.out.trans N5.out.1);have T5:=qg4 N5.out.2;clear x5 z5 X4 Z4 G4 T4 N5 hu;go_loopw [6] (YR b (g+3) Z X m lim w) (λi _=>(qhj i).toNat)
 case atStart=>exact⟨0,_,[],by simp,by omega,rfl,by simp,X5.out,qiq _ _ _ _,by simpa using T5.out,G5.out,J4 X5.out,Z5.out,λj e=>by cases e⟩
 case round=>
  obtain⟨k,fv,ps,rfl,h1,h2,h3,h4,h5,h6,h7,h8,h9,d9⟩:=hrel;have e5:=qg4 d9;have c0:wr.cell? ⟨X,0,none⟩=some fv:=q8 h4 rfl;have c1:wr.cell? ⟨X,1,none⟩=some (.int .i64 lim):=q8 h4 rfl;have H4:=qg4 h4;have H5:=qg4 h5;have H6:=qg4 h6;have H7:=qg4 h7;have H2:=qg4 h2;have H3:=qg4 h3;have H9:=qg4 h9;clear h4 h5 h6 h7 h2 h3 h9 d9;by_cases hlt:k<m
  ·have l4:(0:Int)<(m:Int) - (k:Int):=by omega
   have l6:IntKind.i64.wrap ((m:Int) - (k:Int) - 1)=(m:Int) - (k:Int) - 1:=qgH _ (by omega);have g9:some X≠fv.ownBlock:=λe=>by have:=(H5.out.lt X e.symm).1;omega
   have fX:wr.frozen? ⟨X,0,none⟩=false:=qn H4.out;have d7:b<X+1:=by omega
   go_wp2_with (fail);go_region_law
    (first
     | (go_simp;go_at_call 62;refine(q1r b (g+3+7*k) _ (by exact H6.out) (by omega)).mono ?_;rintro e w2 ⟨p,hp,rfl,HN⟩;have g6:wr.heap.size<=w2.heap.size:=HN.1.size;have l5:X<w2.heap.size:=(by omega);have l9:w2.cell? ⟨X,0,none⟩=some fv:=q8 (blk HN.1 (by simp;omega) H4.out) rfl;have a7:=qg4 HN;have HP:=qg4 hp;clear HN hp;unfold qfd)
     | (refine vw (by rfl) _ _ _ (by rfl) (X+1) 28 i0 _ 4 32 Tp.und22 g8 e9 e8 e7 rfl (by omega) fv k (Zu ps) (by rfl) (by exact(qdC a7.out.1 H5.out d7).alloc _) ⟨w2.heap.size,0,none⟩ 1 1 (Zv p) (by rfl) (by rfl) (qhx (cs:=(Zv p).toArray) (t:=28) (fr:=(0,0)) (qgg w2 _)) (by simp[Zv,qid]) (by omega) (by unfold qk9;omega) (by omega) (by simp at g6 ⊢;omega) (w2.heap.size+1) (by simp) (λj e=>((((e5.out j e).kept (qc _ none) (by simp)).kept a7.out.1 (λe2=>by have:=(H5.out.lt j e).1;cases e2;omega)).kept (qg6 w2 _ none) (by simp))) (by intro v hv;simp[Zv] at hv;rcases hv with rfl | rfl | rfl | rfl<;>exact⟨_,_,rfl⟩) (by intro v hv;simp[Value.cells] at hv;exact⟨_,_,hv⟩) ?_;intro gg cap w5 a8 a9 l7 hgl b7;have k8:=qg4 b7;clear b7;have B5:=blk a9 g9 (qq (blk a7.out.1 (by simp;omega) H4.out));have l8:w5.cell? ⟨X,0,none⟩=some fv:=q8 B5 rfl;have c5:w5.frozen? ⟨X,0,none⟩=false:=qn B5;have k9:=qg4 B5;have HG:=qg4 a9;have HO:=qg4 a8;clear B5 a8))
   all_goals
    have d6:=q5e (((H7.out.trans (qc _ _)).trans a7.out.1).trans (qg6 w2 _ _)) HG.out (λj e=>by have:=(H5.out.lt j e).1;omega);have e4:qS w5 b (g+3+7*k+7):=((a7.out.2.alloc _).kept HG.out (λj e=>by have:=(H5.out.lt j e).1;omega));have d8:=blk HG.out (λe=>by have:=(H5.out.lt Z e.symm).1;omega) (qq (blk a7.out.1 (by simpa using b6) H9.out));have e6:=YR.step (g:=g+3) (w:=w) hlt H2.out H3.out HP.out k9.out HO.out e4 d6 g5 k5 d8 k6 k8.out;have FF:=qg4 e6;clear e6 d6 e4 d8;go_wp2;go_roundw
    case rel=>exact FF.out
    case measure=>simp[qhj];omega
  ·obtain rfl:k=m:=by omega
   obtain⟨fa,fm,fc,rfl⟩:=zG H5.out;have d0:=q8 H9.out (o:=0) rfl;have d1:=q8 H9.out (o:=1) rfl;have f0:=qn H9.out (o:=0);have f1:=qn H9.out (o:=1);go_wp2;obtain⟨W,c3⟩:∃W,W=(wr.setCell ⟨Z,0,none⟩ (.slice fa fm fc)).setCell ⟨Z,1,none⟩ (.int .i64 lim):=⟨_,rfl⟩;have k7:W.heap[Z]?=some (.cells #[.slice fa fm fc,.int .i64 lim] 24 (0,0)):=by rw[c3,qh (qh H9.out)];rfl
   have b0:wr.grownBy W (some Z):=by rw[c3];exact(qf _ _ _ _).trans (qf _ _ _ _)
   have hps:ps.length<=1000:=by have:=H2.out;omega
   have g7:=(qr.own H5.out H2.out (by omega)).kept b0 (by rintro R e;cases e;exact .inl (by omega));rw[<- c3];refine qji (v:=.agg #[.slice fa fm fc,.int .i64 lim]) (by simp[qjo,Tryz.results33,go_sem,qh6,k7]) rfl ⟨ps,lim,_,⟨by have:=H2.out;omega,H3.out,hl2.1,hl2.2⟩,rfl,⟨q5e H7.out b0 (by rintro j e;cases e;have:=HZ.out;omega),(H6.out.kept b0 (by rintro B e;cases e;exact k0)).mono (by have:=H2.out;omega)⟩,g7.mono (by omega) b0.size,λad m2 c2 e=>by
    cases e;exact(e5.out _ rfl).kept b0 (λe2=>by have:=(H5.out.lt _ rfl).1;cases e2;omega)⟩
end
section
open Go.RowKit
structure q8o(n:Nat)(l:List Int):Prop where
 len:l.length=n
 nd:l.Nodup
 all:∀x∈l,0<=x/\x<n
def Zx(l:List Int)(i k:Nat):List Int:=(l++[l[k]?.getD 0]).set k i
theorem q9y{l:List Int}{k:Nat}{x:Int}(y:Int)(h:l[k]?=some x):(l.set k y++[x]).Perm (y::l):=by
 induction l generalizing k with
 | nil=>simp at h
 | cons a t ih=>
  cases k with
  | zero=>
   simp at h;subst h;simp only[List.set_cons_zero,qgD];exact(qon (l₁:=t) (l₂:=[a])).cons y
  | succ k=>
   simp at h;simp only[List.set_cons_succ,qgD];exact((ih h).cons a).trans (List.Perm.swap _ _ _)
theorem q8o.step{i k:Nat}{l:List Int}(h:q8o i l)(hk:k<=i):q8o (i+1) (Zx l i k):=by
 have hp:(Zx l i k).Perm ((i:Int)::l):=by
  unfold Zx;by_cases e:k<i
  ·obtain⟨x,hx⟩:∃x,l[k]?=some x:=⟨_,qge (by rw[h.len];exact e)⟩;rw[hx,List.set_append_left _ _ (by rw[h.len];exact e)];exact q9y _ hx
  ·obtain rfl:k=i:=by omega
   rw[List.set_append_right _ _ (by rw[h.len];exact qg9 _),h.len,Nat.sub_self];exact qon (l₁:=l) (l₂:=[(k:Int)])
 refine⟨by rw[hp.length_eq,qgq,h.len],hp.nodup_iff.2 (List.nodup_cons.2 ⟨λhm=>?_,h.nd⟩),λx hx=>?_⟩
 ·have:=h.all _ hm;omega
 ·rcases qhH.1 (hp.mem_iff.1 hx) with rfl | h1
  ·omega
  ·have:=h.all x h1;omega
theorem q7u(b g n:Nat)(w:qg7)(ht:qS w b g)(hg:g<100000)(hn:n<=1000):qhf Tp.prog 72 #[.pointer (some ⟨b,0,none⟩),.int .i64 n] w λe w'=>∃l v,q8o n l/\e=.returned v/\Tn b (g+n) w w'/\qe w.heap.size w'.heap.size w' v l:=by
 have a8:∀w,(Instr.makeSlice 29 (.int .i64 n) (.int .i64 n)).run Tp.prog w=.ok (.slice (some ⟨w.heap.size,0,none⟩) n n) (w.alloc (.cells (qjE #[.int .i64 0] n) 3)):=λw=>by
  have:=run_make (P:=Tp.prog) w 29 3 qpn (.int .i64 0) (by rw[Tp.und];exact ql5) (by rw[Qy _ _ Tp.tables];exact Tryz.type3) rfl .i64 .i64 n n (by omega) (by omega) (by simp[qpn];omega) (by omega);simpa[Value.cells,qpn] using this
 obtain⟨D,hD⟩:∃D,D=w.heap.size:=⟨_,rfl⟩;have b6:b<D:=by rw[hD];exact ht.lt
 have HT:=qg4 ht;have HD:=qg4 hD;have b7:=qg4 a8;clear ht hD a8;go_enter Tp.x72,Tryz.ntmps72;go_upto_region 2 with(first | rw[b7.out]);rw[<- HD.out];show Code.wp _ _ _ _ (w.alloc (.cells (qjE #[.int .i64 0] n) 3));refine JN (λu=>w.grownBy u (some b)/\qS u b g/\yT u D n λ_=>0) ⟨qg6 _ _ _,HT.out.alloc _,by rw[HD.out];exact yT.made w n⟩ (λw1 hF=>?_);obtain⟨g1,t1,r1⟩:=hF;have G1:=qg4 g1;have T1:=qg4 t1;have R1:=qg4 r1;clear g1 t1 r1;go_wp2;go_loopw [6] (λiv wr=>∃(i:Nat) (l:List Int),iv=.int .i64 i/\i<=n/\q8o i l/\w.grownBy wr (some b)/\qS wr b (g+i)/\yT wr D n λj=>l[j]?.getD 0) (λiv _=>(n - qhj iv).toNat)
 case atStart=>exact⟨0,[],rfl,by omega,⟨rfl,List.nodup_nil,by simp⟩,G1.out,T1.out,R1.out.congr λi hi=>by simp⟩
 case round=>
  obtain⟨i,l,rfl,hi,hl,hG,hT,hR⟩:=hrel;have HL:=qg4 hl;have HG:=qg4 hG;have b0:=qg4 hT;have a6:=qg4 hR;clear hl hG hT hR;by_cases hlt:i<n
  ·have b8:(i:Int)<(n:Int):=by omega
   have b9:IntKind.i64.wrap ((i:Int)+1)=(i:Int)+1:=qgH _ (by omega);go_upto_region 6 with(first
    | (go_at_call 68;refine(kg b (g+i) _ _ b0.out (by omega) (by omega)).mono ?_;rintro e w5 ⟨u,hu,rfl,a7,-⟩;have N5:=qg4 a7;clear a7))
   obtain⟨k,rfl⟩:=Int.eq_ofNat_of_zero_le hu.1;have hk:k<=i:=by omega
   have c3:(k:Int)<(n:Int):=by omega
   have r5:=a6.out.kept N5.out.1 (by simp;omega);have ck:=r5.cell (i:=k) (by omega);have ci:=r5.cell (i:=i) hlt;have fi:=r5.thaw i;have r6:=r5.set (i:=i) (x:=l[k]?.getD 0) hlt;have c9:=r6.cell (i:=k) (by omega);have fk:=r6.thaw k;have r7:=r6.set (i:=k) (x:=(i:Int)) (by omega);have R7:=qg4 r7;have c8:=r5.lt;clear r5 r6 r7 hu;go_wp2;go_roundw
   case rel=>
    have a9:w5.grownBy ((w5.setCell ⟨D,i,none⟩ (.int .i64 (l[k]?.getD 0))).setCell ⟨D,k,none⟩ (.int .i64 i)) (some D):=(qf _ _ _ _).trans (qf _ _ _ _);refine⟨i+1,Zx l i k,by simp,by omega,HL.out.step hk,q5e (HG.out.trans N5.out.1) a9 (by rintro j e;cases e;have:=HD.out;omega),N5.out.2.kept a9 (by rintro B e;cases e;exact b6),R7.out.congr λj hj=>?_⟩;unfold Zx;by_cases e1:j=k
    ·subst e1;rw[if_pos rfl,qkx (by simp[HL.out.len];omega)];rfl
    ·rw[if_neg e1,qjx (λe=>e1 e.symm)];by_cases e2:j=i
     ·subst e2;rw[if_pos rfl,qin (by rw[HL.out.len];exact qg9 _),HL.out.len,Nat.sub_self];rfl
     ·rw[if_neg e2];by_cases e3:j<i
      ·rw[qh0 (by rw[HL.out.len];exact e3)]
      ·rw[qic (by rw[HL.out.len];omega),qic (by simp[HL.out.len];omega)]
   case measure=>simp[qhj];omega
  ·obtain rfl:i=n:=by omega
   go_wp2;go_ret;exact⟨l,_,HL.out,rfl,⟨HG.out,b0.out⟩,a6.out.ints (by have:=HD.out;omega) a6.out.lt HL.out.len (by omega) λj hj=>by rw[qge (by rw[HL.out.len];exact hj)];rfl⟩
end
end Go.Proofs.YtidgnkmjgioapaaGreat
namespace Go.Proofs
section
open Go Go.RowKit
theorem Tp.x200:Tp.F 200 Tryz.f200:=Tp.fn
theorem Tp.x211:Tp.F 211 Tryz.f211:=Tp.fn
theorem Tp.x217:Tp.F 217 Tryz.f217:=Tp.fn
@[simp] theorem Tp.callPf2:Tp.C 200/\Tp.C 211/\Tp.C 217:=⟨Tp.cl 200,Tp.cl 211,Tp.cl 217⟩
end
end Go.Proofs
namespace Go.Proofs.YtidgnkmjgioapaaGreat
section
open Go.RowKit
theorem Qv(x:Int)(w:qg7):qhf Tp.prog 198 #[.int .i64 x] w λe w'=>e=.returned (.bool false)/\w=w':=by
 go_enter Tp.x198,Tryz.ntmps198;go_wp2;go_ret;exact⟨rfl,rfl⟩
theorem q3f(x y:Int)(w:qg7):qhf Tp.prog 217 #[.int .i64 x,.int .i64 y] w λe w'=>e=.returned (.bool (decide (x<y)))/\w=w':=by
 go_enter Tp.x217,Tryz.ntmps217;go_wp2_with (first | (go_at_call 198;refine(Qv _ _).mono ?_;rintro e w2 ⟨rfl,rfl⟩));go_ret;exact⟨rfl,rfl⟩
theorem q7y(n:Nat)(h:n<=12)(w:qg7):qhf Tp.prog 197 #[.int .u64 n] w λe w'=>∃v,e=.returned (.int .i64 v)/\w=w':=by
 obtain rfl | rfl | rfl | rfl | rfl | rfl | rfl | rfl | rfl | rfl | rfl | rfl | rfl:n=0\/n=1\/n=2\/n=3\/n=4\/n=5\/n=6\/n=7\/n=8\/n=9\/n=10\/n=11\/n=12:=by omega
 all_goals
  go_enter Tp.x197,Tryz.ntmps197;go_wp2;go_ret;exact⟨_,rfl,rfl⟩
end
end Go.Proofs.YtidgnkmjgioapaaGreat
namespace Go
section
section
variable{P:qgl}{ops:Array qi6}{md:qkc}{Q:Exit->Act->qg7->Prop}{S:qg7->Prop}
def ja(P:qgl)(md:qkc)(ops:Array qi6)(Q:Exit->Act->qg7->Prop)(S:qg7->Prop)(n:Nat)(L:Array Bool->Act->qg7->Prop):Nat->Array Bool->Act->qg7->Prop
 | 0,listed,a,w=>L listed a w
 | f+1,listed,a,w=>
  qgu md ops listed≠[]/\∀i∈qgu md ops listed,i<n/\wpOp P ops Q i (λa' w'=>S w'/\ja P md ops Q S n L f (listed.setIfInBounds i true) a' w') a w
theorem kl{n g:Nat}{L:Array Bool->Act->qg7->Prop}(hL:∀listed a w,L listed a w->wpAny P md ops Q g listed a w) :∀(f:Nat) (listed:Array Bool) (a:Act) (w:qg7),ja P md ops Q S n L f listed a w->wpAny P md ops Q (f+g) listed a w
 | 0,listed,a,w,h=>by rw[qgz];exact hL _ _ _ h
 | f+1,listed,a,w,h=>by
  rw[show f+1+g=(f+g)+1 by omega];exact⟨λh0=>absurd h0 h.1,λi hi=>wpOp_mono (λa' w' h'=>kl hL f _ a' w' h'.2) (h.2 i hi).2⟩
theorem q12{n i:Nat}{oi:qi6}{v:qgb}{L:Array Bool->Act->qg7->Prop}(hi:ops[i]?=some oi)(b7:∀(j:Nat) (o:qi6) cs b,ops[j]?=some o->o.op≠.select cs b)(hs:qoc md ops n=true)(hc:qnE md ops n=true)(hn:n<ops.size)(hin:i<n)(hQ:∀c a w,Q (.panic c) (a.put oi.dst v) w->Q (.panic c) a w)(hdone:∀listed a w,L listed a w->∀j∈qgu md ops listed,n<=j) :∀(f:Nat) (listed:Array Bool) (a:Act) (w:qg7),HeadInv md ops n listed ->(∀j oj,ops[j]?=some oj->j≠i->listed.getD j true=false->(∀e∈oj.after,qhq md e=true->e.on≠i)->oi.apart ops oj=true) ->i∈qgu md ops listed->YieldsIf P ops S oi v a->S w ->ja P md ops Q S n L f (listed.setIfInBounds i true) (a.put oi.dst v) w->ja P md ops Q S n L (f+1) listed a w:=by
 intro f;induction f with
 | zero=>
  intro listed a w a9 _ hr hy hS H;have a7:=(mem_ready.1 hr).1;refine⟨λh=>(by rw[h] at hr;cases hr),λj hj=>?_⟩;have b0:j<n:=by
   rcases qia j n with h | h
   ·exact h
   ·exact absurd hj (tail_waits hs hc hn a9 _ i rfl hin a7 j h)
  refine⟨b0,?_⟩;by_cases a6:j=i
  ·subst a6;exact hy.wpOp hi hS ⟨hS,H⟩
  ·have:=hdone _ _ _ H j (ready_mono hj a6);omega
 | succ f ih=>
  intro listed a w a9 a8 hr hy hS H;have a7:=(mem_ready.1 hr).1;refine⟨λh=>(by rw[h] at hr;cases hr),λj hj=>?_⟩;have b0:j<n:=by
   rcases qia j n with h | h
   ·exact h
   ·exact absurd hj (tail_waits hs hc hn a9 _ i rfl hin a7 j h)
  refine⟨b0,?_⟩;by_cases a6:j=i
  ·subst a6;exact hy.wpOp hi hS ⟨hS,H⟩
  ·have h1:=(H.2 j (ready_mono hj a6)).2;obtain⟨b8,oj,b9,c9⟩:=mem_ready.1 hj;have c3:∀e∈oj.after,qhq md e=true->e.on≠i:=λe he hb d7=>by
    have h1:=c9 e he hb;rw[d7,getD_both a7] at h1;cases h1
   have h2:=wpOp_putIf b9 (a8 j oj b9 a6 b8 c3) (λcs b=>b7 i oi cs b hi) (λcs b=>b7 j oj cs b b9) hQ hy h1;have b6:∀k ok,ops[k]?=some ok->k≠i->(listed.setIfInBounds j true).getD k true=false ->
     (∀e∈ok.after,qhq md e=true->e.on≠i)->oi.apart ops ok=true:=λk ok hk d6 a7 d5=>by
    refine a8 k ok hk d6 ?_ d5;by_cases c8:j=k
    ·subst c8;exact b8
    ·rw[getD_set_ne true c8] at a7;exact a7
   refine wpOp_mono (λa' w' h3=>⟨h3.2.1,ih (listed.setIfInBounds j true) a' w' (a9.set hj b0) b6 (ready_mono hr (Ne.symm a6)) h3.1 h3.2.1 ?_⟩) h2;rw[Array.setIfInBounds_comm _ _ a6];exact h3.2.2
def q3l(md:qkc)(ops:Array qi6)(n:Nat)(listed:Array Bool):Bool :=
 decide (listed.size=ops.size) && (qgB ops.size).all (λj=>!listed.getD j false || ((ops[j]?).map (·.after.all λe=>!qhq md e || listed.getD e.on false)).getD true) &&
  (qgB ops.size).all λt=>decide (t<n) || !listed.getD t true
theorem q7E{n:Nat}{listed:Array Bool}(h:q3l md ops n listed=true):HeadInv md ops n listed:=by
 simp only[q3l,qgv,decide_eq_true_eq] at h;obtain⟨⟨h1,h2⟩,h3⟩:=h;refine⟨h1,λj oj hj hl e he hb=>?_,λt ht a6=>?_⟩
 ·have:=qh9.1 h2 j (qi4.2 (qg8.1 hj).1);simp only[hl,hj,qld,Bool.false_or,qi1,qgh] at this;have h4:=(qi2.1 this) e he;simpa[hb] using h4
 ·have:=qh9.1 h3 t (qi4.2 a6);simp only[qja,decide_eq_true_eq,qj0] at this;exact this.elim (λe=>absurd e (by omega)) id
theorem Je{n i g:Nat}{oi:qi6}{v:qgb}{f:Nat}{listed:Array Bool}{a:Act}{w:qg7}{R:Act->qg7->Prop}(hi:ops[i]?=some oi)(hB:(qoh ops && qoc md ops n && qnE md ops n && decide (n<ops.size) && decide (i<n) && q3l md ops n listed && qq1 md ops listed i && (qgu md ops listed).contains i)=true)(hQ:∀c a w,Q (.panic c) (a.put oi.dst v) w->Q (.panic c) a w)(hy:YieldsIf P ops S oi v a)(hS:S w)(h:ja P md ops Q S n (λlisted a w=>qm0 md ops g n listed=true/\R a w) f (listed.setIfInBounds i true) (a.put oi.dst v) w) :ja P md ops Q S n (λlisted a w=>qm0 md ops g n listed=true/\R a w) (f+1) listed a w:=by
 simp only[qgv,decide_eq_true_eq] at hB;obtain⟨⟨⟨⟨⟨⟨⟨h1,h2⟩,h3⟩,h4⟩,h5⟩,h6⟩,h7⟩,h8⟩:=hB;exact q12 hi (Region.noSelect_spec h1) h2 h3 h4 h5 hQ (λlisted a w hL=>seqB_ready hL.1) f listed a w (q7E h6) (Region.free_spec hi h7) (by simpa using h8) hy hS h
theorem tk(i:Nat){n g:Nat}{oi:qi6}{v:qgb}{f:Nat}{listed:Array Bool}{a:Act}{w:qg7}{R:Act->qg7->Prop}(h:ja P md ops Q S n (λlisted a w=>qm0 md ops g n listed=true/\R a w) f (listed.setIfInBounds i true) (a.put oi.dst v) w)(hi:ops[i]?=some oi:=by rfl)(hy:∀w,S w->(qjt a.eval oi).run P w=.ok (.value v) w:=by intro w a6;(try dsimp only at a6);go_simp;try with_reducible rfl)(hB:(qoh ops && qoc md ops n && qnE md ops n && decide (n<ops.size) && decide (i<n) && q3l md ops n listed && qq1 md ops listed i && (qgu md ops listed).contains i)=true:=by kernel_rfl)(hQ:∀c a w,Q (.panic c) (a.put oi.dst v) w->Q (.panic c) a w:=by exact λ_ _ _ h=>h)(hw:qhi oi (qj7 ops a.tmps)=true:=by kernel_rfl)(hS:S w:=by assumption) :ja P md ops Q S n (λlisted a w=>qm0 md ops g n listed=true/\R a w) (f+1) listed a w:=Je hi hB hQ (Or.inl ⟨hw,hy⟩) hS h
theorem tku(i:Nat){n g:Nat}{oi:qi6}{f:Nat}{listed:Array Bool}{a:Act}{w:qg7}{R:Act->qg7->Prop}(h:ja P md ops Q S n (λlisted a w=>qm0 md ops g n listed=true/\R a w) f (listed.setIfInBounds i true) (a.put oi.dst qgd) w)(hi:ops[i]?=some oi:=by rfl)(hB:(qoh ops && qoc md ops n && qnE md ops n && decide (n<ops.size) && decide (i<n) && q3l md ops n listed && qq1 md ops listed i && (qgu md ops listed).contains i)=true:=by kernel_rfl)(hQ:∀c a w,Q (.panic c) (a.put oi.dst qgd) w->Q (.panic c) a w:=by exact λ_ _ _ h=>h)(hw:qhi oi (qj7 ops a.tmps)=false:=by kernel_rfl)(hS:S w:=by assumption) :ja P md ops Q S n (λlisted a w=>qm0 md ops g n listed=true/\R a w) (f+1) listed a w:=Je hi hB hQ (Or.inr ⟨hw,rfl⟩) hS h
def qm(P:qgl)(md:qkc)(ops:Array qi6)(Q:Exit->Act->qg7->Prop)(S:qg7->Prop)(n:Nat)(L:Array Bool->Act->qg7->Prop)(f:Nat)(listed:Array Bool)(a:Act)(w:qg7)(rs:List Nat):Prop :=
 ∀i∈rs,i<n/\wpOp P ops Q i (λa' w'=>S w'/\ja P md ops Q S n L f (listed.setIfInBounds i true) a' w') a w
theorem qm.nil{n f:Nat}{L:Array Bool->Act->qg7->Prop}{listed:Array Bool}{a:Act}{w:qg7}:qm P md ops Q S n L f listed a w []:=λ_ h=>by cases h
theorem qm.cons{n i:Nat}{oi:qi6}{f:Nat}{listed:Array Bool}{a:Act}{w:qg7}{L:Array Bool->Act->qg7->Prop}{rs:List Nat}(hi:ops[i]?=some oi)(hn:decide (i<n)=true)(h:∀K':Act->qg7->Prop,Shut (∀a w,S w->(S w->ja P md ops Q S n L f (listed.setIfInBounds i true) a w)->K' a w)->if qhi oi (qj7 ops a.tmps)=true then Oper.wp P oi a w K' Q else K' (a.put oi.dst qgd) w)(hs:qm P md ops Q S n L f listed a w rs):qm P md ops Q S n L f listed a w (i::rs):=λj hj=>by
 rcases qhH.1 hj with rfl | hj
 ·exact⟨by simpa using hn,wpOp_step hi (λK' hK=>h K' (λa w hS hW=>hK a w ⟨hS,hW hS⟩))⟩
 ·exact hs j hj
theorem q11{n f:Nat}{listed:Array Bool}{a:Act}{w:qg7}{L:Array Bool->Act->qg7->Prop}(rs:List Nat)(hr:decide (qgu md ops listed=rs)=true)(hne:rs≠[])(h:qm P md ops Q S n L f listed a w rs) :ja P md ops Q S n L (f+1) listed a w:=by
 have hr':qgu md ops listed=rs:=by simpa using hr
 exact⟨λe=>hne (hr' ▸ e),hr' ▸ h⟩
theorem rdy(rs:List Nat){n f:Nat}{listed:Array Bool}{a:Act}{w:qg7}{L:Array Bool->Act->qg7->Prop}(h:qm P md ops Q S n L f listed a w rs)(hr:decide (qgu md ops listed=rs)=true:=by kernel_rfl)(hne:rs≠[]:=by simp):ja P md ops Q S n L (f+1) listed a w:=q11 rs hr hne h
theorem cns(i:Nat){n:Nat}{oi:qi6}{f:Nat}{listed:Array Bool}{a:Act}{w:qg7}{L:Array Bool->Act->qg7->Prop}{rs:List Nat}(h:∀K':Act->qg7->Prop,Shut (∀a w,S w->(S w->ja P md ops Q S n L f (listed.setIfInBounds i true) a w)->K' a w)->if qhi oi (qj7 ops a.tmps)=true then Oper.wp P oi a w K' Q else K' (a.put oi.dst qgd) w)(hs:qm P md ops Q S n L f listed a w rs)(hi:ops[i]?=some oi:=by rfl)(hn:decide (i<n)=true:=by rfl):qm P md ops Q S n L f listed a w (i::rs):=qm.cons hi hn h hs
theorem zf{id:Nat}{a:Act}{w:qg7}{l:List qi6}(n:Nat)(S:qg7->Prop)(hm:P.follows .mixedOrders=true)(hn:decide (n<=l.length)=true)(hS:S w.drew)(h:S w.drew->ja P .any l.toArray Q S n (λlisted a w=>qm0 .any l.toArray (l.length - n) n listed=true/\wpList P l.toArray Q (l.drop n) a w) n (qhk l.length false) a w.drew) :(Code.region id l.toArray true).wp P Q a w:=by
 have a6:n<=l.length:=by simpa using hn
 refine wp_region_any hm ?_;have:=kl (g:=l.length - n) (λlisted a w hL=>by
  have:=wpAny_of_seq (md:=.any) (Q':=Q) (ops:=l.toArray) (l.drop n) n listed a w (λj=>by simp[List.getElem?_drop]) (by rw[qm7];exact hL.1) hL.2
  rwa [qm7] at this) _ _ _ _ (h hS)
 rw[show n+(l.length - n)=l.toArray.size by simp;omega] at this;simpa using this
end
end
end Go
namespace Go.Proofs.YtidgnkmjgioapaaGreat
section
open Go.RowKit
def zT(B:Nat)(w:qg7)(L:List Int):Prop:=∃cs,w.heap[B]?=some (.cells cs 3 (0,0))/\∀i,i<L.length->cs[i]?=some (.int .i64 (L[i]?.getD 0))
def xT:Nat->List Int->List Int
 | 0,L=>L
 | j+1,L=>if L[j+1]?.getD 0<L[j]?.getD 0 then xT j ((L.set (j+1) (L[j]?.getD 0)).set j (L[j+1]?.getD 0)) else L
def j4(k:Nat)(L:List Int):List Int:=(qgB k).foldl (λL i=>xT i L) L
theorem kQ(k:Nat)(L:List Int):j4 (k+1) L=xT k (j4 k L):=by simp[j4,qjz]
theorem q7f(j:Nat)(L:List Int):(xT j L).length=L.length:=by
 induction j generalizing L with
 | zero=>rfl
 | succ j ih=>
  unfold xT;split
  ·rw[ih];simp
  ·rfl
theorem xk(k:Nat)(L:List Int):(j4 k L).length=L.length:=by
 induction k with
 | zero=>rfl
 | succ k ih=>rw[kQ,q7f,ih]
theorem YV{l:List Int}(h:∀i,i+1<l.length->l[i]?.getD 0<=l[i+1]?.getD 0):∀k,k<=l.length->j4 k l=l
 | 0,_=>rfl
 | k+1,hk=>by
  rw[kQ,YV h k (by omega)];cases k with
  | zero=>rfl
  | succ k=>
   unfold xT;have:=h k (by omega);rw[if_neg (by omega)]
section
variable{B:Nat}{w w':qg7}{L:List Int}
theorem zT.kept{r:Option Nat}(h:zT B w L)(hg:w.grownBy w' r)(hr:some B≠r):zT B w' L:=let ⟨cs,h1,h2⟩:=h;⟨cs,blk hg hr h1,h2⟩
theorem zT.at{k:Nat}(h:zT B w L)(hk:k<L.length):w.cell? ⟨B,k,none⟩=some (.int .i64 (L[k]?.getD 0)):=let ⟨_,h1,h2⟩:=h;q8 h1 (h2 k hk)
theorem zT.thaw{k:Nat}(h:zT B w L):w.frozen? ⟨B,k,none⟩=false:=let ⟨_,h1,_⟩:=h;qn h1
theorem zT.step{j:Nat}{y v:qgb}(h:zT B w L)(hy:w.cell? ⟨B,j,none⟩=some y):(w.setCell ⟨B,j+1,none⟩ v).cell? ⟨B,j,none⟩=some y/\(w.setCell ⟨B,j+1,none⟩ v).frozen? ⟨B,j,none⟩=false:=by
 obtain⟨cs,h1,-⟩:=h;have g1:(w.setCell ⟨B,j+1,none⟩ v).heap[B]?=some (.cells (cs.setIfInBounds (j+1) v) 3 (0,0)):=by rw[qh h1]
 have c2:cs[j]?=some y:=by simpa[qh6,h1] using hy
 exact⟨q8 g1 (by rw[qhv (by omega)];exact c2),qn g1⟩
theorem zT.swap{j:Nat}{a b:Int}(h:zT B w L)(hj:j+1<L.length) :zT B ((w.setCell ⟨B,j+1,none⟩ (.int .i64 b)).setCell ⟨B,j,none⟩ (.int .i64 a)) ((L.set (j+1) b).set j a):=by
 obtain⟨cs,h1,h2⟩:=h;have g1:(w.setCell ⟨B,j+1,none⟩ (.int .i64 b)).heap[B]?=some (.cells (cs.setIfInBounds (j+1) (.int .i64 b)) 3 (0,0)):=by rw[qh h1]
 have g2:((w.setCell ⟨B,j+1,none⟩ (.int .i64 b)).setCell ⟨B,j,none⟩ (.int .i64 a)).heap[B]?=some (.cells ((cs.setIfInBounds (j+1) (.int .i64 b)).setIfInBounds j (.int .i64 a)) 3 (0,0)):=by rw[qh g1]
 have s1:=(qg8.1 (h2 (j+1) hj)).1;refine⟨_,g2,λi hi=>?_⟩;simp only[qmg] at hi;by_cases e:i=j
 ·subst e;rw[qju (by rw[Array.size_setIfInBounds];omega),qkx (by rw[qmg];omega)];rfl
 ·by_cases e':i=j+1
  ·subst e';rw[qhv (by omega),qju (by omega),qjx (by omega),qkx (by omega)];rfl
  ·rw[qhv (by omega),qhv (by omega),qjx (by omega),qjx (by omega)];exact h2 i hi
end
theorem q5b(B c:Nat)(L:List Int)(w:qg7)(hI:zT B w L)(h9:L.length<=1000) :qhf Tp.prog 211 #[.slice (some ⟨B,0,none⟩) L.length c,.int .i64 0,.int .i64 L.length] w λe w'=>e=.returned (.tuple #[])/\w.grownBy w' (some B)/\zT B w' (j4 L.length L):=by
 have HI:=qg4 hI;have g7:(L.length:Int)<=1000:=by omega
 clear hI;go_enter Tp.x211,Tryz.ntmps211;go_wp2;go_loopw [6] (λiv wr=>∃k:Nat,iv=.int .i64 (k+1:Nat)/\k<=1000/\w.grownBy wr (some B)/\zT B wr (j4 (min (k+1) L.length) L)) (λiv _=>(L.length - qhj iv).toNat)
 case atStart=>exact⟨0,rfl,by omega,qgn _ _,by
  by_cases h:L.length=0
  ·rw[h];exact HI.out
  ·rw[show min (0+1) L.length=0+1 by omega,kQ];exact HI.out⟩
 case round=>
  obtain⟨k,rfl,hk,hG,hR⟩:=hrel;have HG:=qg4 hG;have HR:=qg4 hR;clear hG hR;by_cases hlt:k+1<L.length
  ·have e6:(k:Int)+1<(L.length:Int):=by omega
   have e5:IntKind.i64.wrap ((k:Int)+1+1)=(k:Int)+1+1:=qgH _ (by omega);have e8:IntKind.i64.wrap ((k:Int)+1)=(k:Int)+1:=qgH _ (by omega);go_wp2;go_loopw [7] (λjv w2=>∃(j:Nat) (Lj:List Int),jv=.int .i64 j/\j<=k+1/\xT (k+1) (j4 (min (k+1) L.length) L)=xT j Lj/\Lj.length=L.length/\w.grownBy w2 (some B)/\zT B w2 Lj) (λjv _=>(qhj jv).toNat)
   case atStart=>exact⟨k+1,_,rfl,qg9 _,rfl,xk _ _,HG.out,HR.out⟩
   case round=>
    obtain⟨j0,Lj,rfl,hj,hs,c8,d5,c9⟩:=hrel;have b9:=qg4 hs;have d7:=qg4 c8;have c3:=qg4 d5;have a8:=qg4 c9;clear hs c8 d5 c9;have hout:xT (k+1) (j4 (min (k+1) L.length) L)=Lj->∀w5,w.grownBy w5 (some B)->zT B w5 Lj->∃k',qgy .i64 ((k:Int)+1+1)=.int .i64 ((k'+1:Nat):Int)/\k'<=1000/\w.grownBy w5 (some B)/\zT B w5 (j4 (min (k'+1) L.length) L):=λe w5 h1 h2=>
     ⟨k+1,by simp,by omega,h1,by rw[show min (k+1+1) L.length=(k+1)+1 by omega,kQ,<- show min (k+1) L.length=k+1 by omega,show min (k+1) L.length=k+1 by omega];rw[show min (k+1) L.length=k+1 by omega] at e;rw[e];exact h2⟩
    have a9:=qg4 hout;clear hout;cases j0 with
    | zero=>
     go_wp2_with (fail);go_quiet (fail);go_wp2;go_roundw
     case rel=>exact a9.out b9.out _ (c3.out.andThen (qi _ _ none) (by simp)) (a8.out.kept (qi _ _ none) (by simp))
     case measure=>simp[qhj];omega
    | succ j=>
     have b0:j+1<Lj.length:=by have:=d7.out;omega
     have x1:=a8.out.at (k:=j+1) b0;have y1:=a8.out.at (k:=j) (by omega);have z1:=a8.out.thaw (k:=j+1);have z0:=a8.out.thaw (k:=j);have a7:xT (j+1) Lj=if Lj[j+1]?.getD 0<Lj[j]?.getD 0 then xT j ((Lj.set (j+1) (Lj[j]?.getD 0)).set j (Lj[j+1]?.getD 0)) else Lj:=rfl;generalize Lj[j+1]?.getD 0=a at a7 x1;generalize Lj[j]?.getD 0=b at a7 y1;have e9:IntKind.i64.wrap (j:Int)=(j:Int):=qgH _ (by omega);have g6:((j:Int)+1).toNat=j+1:=by omega
     have g9:(j:Int)+1<(L.length:Int):=by omega
     have e7:(j:Int)<(L.length:Int):=by omega
     have h8:(0:Int)<=(j:Int)+1:=by omega
     have g8:(0:Int)<(j:Int)+1:=by omega
     have g5:(j:Int)+1 - 1=(j:Int):=by omega
     have e4:=qg4 b0;clear b0;by_cases hz:a<b
     ·rw[if_pos hz] at a7;have b8:=qg4 a7;clear a7;go_wp2_with (fail);go_quiet (first | (go_at_call 217;refine qii ((q3f _ _ _).mono (λe w5 h=>⟨h.1,h.2.symm⟩))));go_upto_region 6 with(fail);have b6:=qi wr nq none;generalize wr.drewN nq=wa at b6 ⊢;have hgb:wr.grownBy wa.drew none:=b6.trans (qc wa none);have RA:=a8.out.kept hgb (by simp);have x2:=hgb.cell x1 (by simp);have y2:=hgb.cell y1 (by simp);have d8:=qg4 (RA.swap (a:=a) (b:=b) e4.out);have d9:=qg4 (((c3.out.andThen hgb (by simp)).andThen (qf _ B (j+1) (.int .i64 b)) (λj e=>.inr e)).andThen (qf _ B j (.int .i64 a)) (λj e=>.inr e));have z2:=RA.thaw (k:=j+1);have z3:=RA.thaw (k:=j);have b7:=RA.step (v:=.int .i64 b) y2;have d6:=qg4 b7;have z4:=b7.2;clear RA b7 x1 y1 z1 z0 b6 hgb;refine zf 16 (λw'=>w'.cell? ⟨B,j,none⟩=some (.int .i64 b)/\w'.frozen? ⟨B,j,none⟩=false) (by kernel_rfl) (by kernel_rfl) ⟨y2,z3⟩ (λa6=>?_);simp only[qgq,qgx,qgG,qil,qgz,qhl,qhm,qhA,qhb,qgD];refine tk 0 ?_;try go_frame
      refine tk 1 ?_;try go_frame
      refine tk 2 ?_;try go_frame
      refine tk 3 ?_;try go_frame
      refine tk 4 ?_;try go_frame
      refine tk 5 ?_;try go_frame
      refine tk 6 ?_;try go_frame
      refine tk 7 ?_;try go_frame
      refine tk 8 ?_;try go_frame
      refine tk 9 ?_;try go_frame
      refine tk 10 ?_;try go_frame
      refine tk 11 ?_;try go_frame
      refine tk 12 ?_;try go_frame
      refine rdy [13] ?_;refine cns 13 (λK hK=>?_) ?_
      ·skip;go_simp;refine hK.out _ _ (by first | exact a6 | exact⟨y2,z3⟩ | exact d6.out) (λa6=>?_);clear hK K;try go_frame
       refine tk 14 ?_;try go_frame
       refine rdy [15] ?_;refine cns 15 (λK hK=>?_) ?_
       ·skip;go_simp;refine hK.out _ _ (by first | exact a6 | exact⟨y2,z3⟩ | exact d6.out) (λa6=>?_);clear hK K;try go_frame
        refine⟨by kernel_rfl,?_⟩;simp only[qhE,qiu];go_wp2;refine⟨?_,?measure⟩
        repeat apply Exists.intro
        refine⟨?rel,rfl⟩
        case rel=>exact⟨j,_,rfl,by omega,b9.out.trans b8.out,by simp[d7.out],d9.out,d8.out⟩
        case measure=>simp[qhj]
       exact qm.nil
      exact qm.nil
     ·rw[if_neg hz] at a7;have b8:=qg4 a7;clear a7;go_wp2_with (fail);go_quiet (first | (go_at_call 217;refine qii ((q3f _ _ _).mono (λe w5 h=>⟨h.1,h.2.symm⟩))));go_wp2;go_roundw
      case rel=>exact a9.out (b9.out.trans b8.out) _ (c3.out.andThen (qi _ _ none) (by simp)) (a8.out.kept (qi _ _ none) (by simp))
      case measure=>simp[qhj];omega
  ·have he:min (k+1) L.length=L.length:=by omega
   rw[he] at HR;go_wp2;go_end0;exact⟨rfl,HG.out,HR.out⟩
def QO(base:Option qho)(B:Nat)(w:qg7)(L:List Int):Prop:=(base=some ⟨B,0,none⟩/\zT B w L)\/L=[]
theorem q5c(base:Option qho)(B c:Nat)(L:List Int)(w:qg7)(hI:QO base B w L)(a6:L.length<=1000) :qhf Tp.prog 211 #[.slice base L.length c,.int .i64 0,.int .i64 L.length] w λe w'=>e=.returned (.tuple #[])/\w.grownBy w' (some B)/\QO base B w' (j4 L.length L):=by
 rcases hI with⟨rfl,hI⟩ | rfl
 ·exact(q5b B c L w hI a6).mono λe w' ⟨h1,h2,h3⟩=>⟨h1,h2,.inl ⟨rfl,h3⟩⟩
 ·go_enter Tp.x211,Tryz.ntmps211;go_wp2;go_loopw [6] (λiv wr=>iv=.int .i64 1/\w.grownBy wr (some B)) (λ_ _=>0)
  case atStart=>exact⟨rfl,qgn _ _⟩
  case round=>
   obtain⟨rfl,hG⟩:=hrel;go_wp2;go_end0;exact⟨rfl,hG,.inr rfl⟩
end
section
open Go.RowKit
theorem JC(n:Nat)(h:n<=12)(w:qg7):qhf Tp.prog 156 #[.int .u64 n] w λe w'=>∃v,e=.returned (.int .i64 v)/\w=w':=by
 go_enter Tp.x156,Tryz.ntmps156;go_wp2_with (first | (go_at_call 197;refine(q7y n h _).mono ?_;rintro e w2 ⟨v,rfl,rfl⟩));go_ret;exact⟨_,rfl,rfl⟩
theorem pdqI(base:Option qho)(B c:Nat)(L:List Int)(lim:Int)(w:qg7)(hI:QO base B w L)(a6:L.length<=12) :qhf Tp.prog 200 #[.slice base L.length c,.int .i64 0,.int .i64 L.length,.int .i64 lim] w λe w'=>e=.returned (.tuple #[])/\w.grownBy w' (some B)/\QO base B w' (j4 L.length L):=by
 have HI:=qg4 hI;clear hI;go_enter Tp.x200,Tryz.ntmps200;go_wp2;go_loopw [1,2,3] (λa b c wr=>a=.int .i64 0/\b=.int .i64 L.length/\c=.int .i64 lim/\w=wr) (λ_ _ _ _=>0)
 case atStart=>exact⟨rfl,rfl,rfl,rfl⟩
 case round=>
  obtain⟨rfl,rfl,rfl,rfl⟩:=hrel;have h1:IntKind.i64.wrap (L.length:Int)=(L.length:Int):=qgH _ (by omega);have h2:(L.length:Int)<=12:=by omega
  go_wp2_with (first | (go_at_call 211;refine(q5c base B c L _ HI.out (by omega)).mono ?_;rintro e w2 ⟨rfl,hg,hr⟩));refine qji (results_none rfl _ _ _) rfl ?_;exact⟨rfl,hg,hr⟩
theorem qf9(base:Option qho)(B c:Nat)(L:List Int)(w:qg7)(hI:QO base B w L)(a6:L.length<=12) :qhf Tp.prog 164 #[.slice base L.length c] w λe w'=>e=.returned (.tuple #[])/\w.grownBy w' (some B)/\QO base B w' (j4 L.length L):=by
 have HI:=qg4 hI;clear hI;have hw:IntKind.u64.wrap (L.length:Int)=(L.length:Int):=by simp[IntKind.wrap,IntKind.signed,IntKind.bits];omega
 go_enter Tp.x164,Tryz.ntmps164;go_wp2_with (first
  | (go_at_call 156;refine(JC L.length a6 _).mono ?_;rintro e w2 ⟨v,rfl,rfl⟩)
  | (go_at_call 200;refine(pdqI base B c L _ _ HI.out a6).mono ?_;rintro e w2 ⟨rfl,hg,hr⟩))
 go_end0;exact⟨rfl,hg,hr⟩
theorem QR(b:Option qho)(n c:Nat)(w:qg7):qhf Tp.prog 135 #[.slice b n c] w λe w'=>e=.returned (.func (.func 165) #[] #[.pointer (some ⟨w.heap.size,0,none⟩)])/\w'=w.alloc (.cells #[.slice b n c] 29):=by
 go_enter Tp.x135,Tryz.ntmps135;go_wp2;go_ret;exact⟨rfl,rfl⟩
def zJ(ws:List Int):Nat->List Int->Nat->List (List Int)
 | 0,now,_=>[now]
 | m+1,now,from_=>(qmr from_ (ws.length - from_)).flatMap λi=>zJ ws m (now++[ws[i]?.getD 0]) (i+1)
theorem Z3{ws:List Int}{m:Nat}{now:List Int}{i:Nat}(h:i<ws.length):zJ ws (m+1) now i=zJ ws m (now++[ws[i]?.getD 0]) (i+1)++zJ ws (m+1) now (i+1):=by
 have e:ws.length - i=(ws.length - (i+1))+1:=by omega
 simp only[zJ];rw[e,List.range'_succ,qiB]
theorem q0u{ws:List Int}{m:Nat}{now:List Int}{i:Nat}(h:ws.length<=i):zJ ws (m+1) now i=[]:=by
 simp only[zJ];rw[show ws.length - i=0 by omega];rfl
def j3(ws:List Int)(k:Nat):List (List Int):=(qmr k (ws.length+1 - k)).flatMap λm=>zJ ws m [] 0
theorem ZT{ws:List Int}{k:Nat}(h:k<ws.length+1):j3 ws k=zJ ws k [] 0++j3 ws (k+1):=by
 have e:ws.length+1 - k=(ws.length+1 - (k+1))+1:=by omega
 unfold j3;rw[e,List.range'_succ,qiB]
theorem q2s{ws:List Int}{k:Nat}(h:ws.length+1<=k):j3 ws k=[]:=by
 unfold j3;rw[show ws.length+1 - k=0 by omega];rfl
end
end Go.Proofs.YtidgnkmjgioapaaGreat
namespace Go
section
open Go.RowKit
section
variable{F:Fence}{n:Nat}{P:qgl}
structure Stp(n1 B:Nat)(G:Nat->Prop)(A C:qg7):Prop where
 os:C.os=A.os
 tape:C.tape=A.tape
 output:C.output=A.output
 size:A.heap.size<=C.heap.size
 keep:∀k,k<A.heap.size->((k<n1/\k≠B)\/G k)->C.heap[k]?=A.heap[k]?
structure Bod(n1 B:Nat)(G G':Nat->Prop)(A C:qg7):Prop where
 tape:C.tape=A.tape
 size:A.heap.size<=C.heap.size
 keep:∀k,k<A.heap.size->(n1<=k\/k=B)->¬ G k->C.heap[k]?=A.heap[k]?
 fp:∀k,G' k->G k\/A.heap.size<=k
theorem Bod.trans{n1 B:Nat}{G G' a6:Nat->Prop}{A C E:qg7}(h:Bod n1 B G G' A C)(k:Bod n1 B G' a6 C E):Bod n1 B G a6 A E :=
 ⟨k.tape.trans h.tape,qgi h.size k.size,λj hj hn hf=>(k.keep j (qgp hj h.size) hn (λe=>(h.fp j e).elim hf (by omega))).trans (h.keep j hj hn hf),
  λj hj=>(k.fp j hj).elim (h.fp j) (λe=>.inr (qgi h.size e))⟩
theorem Stp.mono{n1 n2 B:Nat}{G:Nat->Prop}{A C:qg7}(h:Stp n2 B G A C)(hn:n1<=n2):Stp n1 B G A C:=⟨h.os,h.tape,h.output,h.size,λk hk hc=>h.keep k hk (hc.imp (λe=>⟨by omega,e.2⟩) id)⟩
theorem Bod.mono{n1 n2 B:Nat}{G G':Nat->Prop}{A C:qg7}(h:Bod n1 B G G' A C)(hn:n1<=n2):Bod n2 B G G' A C:=⟨h.tape,h.size,λk hk hc=>h.keep k hk (hc.imp (λe=>by omega) id),h.fp⟩
def qfB{Y:Type}(F:Fence)(n:Nat)(P:qgl)(g:Nat)(lb:Array qgb)(a6:Y->Array qgb)(Xp:Y->qg7->Prop)(S Sp:List Y->Prop)(B:Nat)(w0:qg7):Prop :=
 ∀(l:Nat) (J Jx:List Y->(Nat->Prop)->qg7->Prop) (G0:Nat->Prop) (W:qg7),Below w0.heap.size w0 W->¬ G0 B->(∀s G A,J s G A->∀k,G k->k<A.heap.size) ->
  (∀s G A C,J s G A->Stp W.heap.size B G A C->J s G C)->(∀s G A C,Jx s G A->Stp W.heap.size B G A C->Jx s G C) ->
  (∀pre G x W1,J pre G W1->Xp x W1->Sp (pre++[x])->YieldAt F (n - 1) P l (a6 x) W1 λe W'=>
   ∃G',(e=.returned (.bool true)/\J (pre++[x]) G' W'/\Bod W.heap.size B G G' W1 W')\/(e=.returned (.bool false)/\Jx (pre++[x]) G' W'/\Bod W.heap.size B G G' W1 W')) ->
  J [] G0 W ->
  CallsIn F n P g (#[.func (.yield l) #[] #[]]++lb) W λe W'=>(∃v,e=.returned v)/\((∃xs G,S xs/\J xs G W')\/(∃pre G,Sp pre/\Jx pre G W'))
def qfb{Y:Type}(n1 B:Nat)(G:Nat->Prop)(I:List Y->(Nat->Prop)->qg7->Prop)(Ix:qiw->List Y->(Nat->Prop)->qg7->Prop)(xs:List Y)(W:qg7):Exit->Act->qg7->Prop
 | .normal,_,W'=>∃G',Bod n1 B G G' W W'/\I xs G' W'
 | .ret,_,W'=>∃G',Bod n1 B G G' W W'/\Ix .ret xs G' W'
 | .exit id,_,W'=>∃G',Bod n1 B G G' W W'/\Ix (.exit id) xs G' W'
 | .goto t,_,W'=>∃G',Bod n1 B G G' W W'/\Ix (.goto t) xs G' W'
 | .panic _,_,_=>False
 | .outgrown,_,_=>False
theorem ku{n1 B:Nat}{G:Nat->Prop}{A:qg7}{l:Nat}(o:Obj)(h1:n1<=l)(h2:¬ G l):Stp n1 B G A (A.putObj l o) :=
 have hg:=qk7 A l o
 ⟨hg.os,hg.tape,hg.output,hg.size,λk hk hc=>hg.block k hk (by
  intro e;cases e;rcases hc with h | h
  ·omega
  ·exact h2 h)⟩
theorem vg{Y:Type}{g:qhh}{ps:Array Tmp}{assign body:qiw}{Q:Exit->Act->qg7->Prop}{a:Act}{w:qg7}(hro:F.round=none)(h1:1<=n){gf:Nat}{lb:Array qgb}(hg:a.eval g=.func (.func gf) #[] lb)(l8:F.fn gf)(eg:∀args w,(callFunc gf args).run P w=.ok (.enter gf args) w){d5:Y->Array qgb}{Xp:Y->qg7->Prop}{S Sp:List Y->Prop}{B:Nat}{w0:qg7}(g6:qfB F (n - 1) P gf lb d5 Xp S Sp B w0)(h9:Below w0.heap.size w0 w)(hps:∀x,(d5 x).size=ps.size){G0:Nat->Prop}(hB:¬ G0 B)(m3:B<w.heap.size)(hX:∀x A l o o',A.heap[l]?=some o->o.isCells=false->Xp x A->Xp x (A.putObj l o'))(I:List Y->(Nat->Prop)->qg7->Prop)(Ix:qiw->List Y->(Nat->Prop)->qg7->Prop)(d9:∀s G A,I s G A->∀k,G k->k<A.heap.size)(hI:∀s G A C,I s G A->Stp w.heap.size B G A C->I s G C)(e5:∀c s G A C,Ix c s G A->Stp w.heap.size B G A C->Ix c s G C)(h0:I [] G0 w)(a₁:Y->Act)(e4:∀(l:Nat) (x:Y) (W:qg7) (K:Act->qg7->Prop),K (a₁ x) W ->assign.wpIn (F.inRound l) (n - 1 - 1) P (Exit.then K (λ_ _ _=>False)) { tmps:=(ps.zip (d5 x)).foldl (λt (p,v)=>t.setIfInBounds p v) a.tmps,defers:=[] } W)(hbody:∀(l:Nat) (pre:List Y) (G:Nat->Prop) (x:Y) (W:qg7),I pre G W->Xp x W->Sp (pre++[x])->body.wpIn (F.inRound l) (n - 1 - 1) P (qfb w.heap.size B G I Ix (pre++[x]) W) (a₁ x) W)(hdone:∀(D:Nat) (xs:List Y) (G:Nat->Prop) (W:qg7),w.heap.size<=D->S xs->I xs G W->W.heap[D]?=some (.deferred (some []))->¬ G D->Q .normal { a with defers:={ target:=.collected D,args:=#[] }::a.defers } W)(hstop:∀(D:Nat) (c:qiw) (pre:List Y) (G:Nat->Prop) (W:qg7),w.heap.size<=D->Sp pre->Ix c pre G W->W.heap[D]?=some (.deferred (some []))->¬ G D->c.wpIn F n P Q { a with defers:={ target:=.collected D,args:=#[] }::a.defers } W) :(Code.rangeFunc g ps assign body).wpIn F n P Q a w:=by
 refine wpIn_rangeFunc ?_;intro fn hfn;rw[hro];obtain⟨a6,a7⟩:∃a6:LoopState->Option qiw->Loop,a6=λst pe=>{ state:=st,pending:=pe,fn,tmps:=a.tmps,params:=ps,assign,body,defers:=w.heap.size }:=⟨_,rfl⟩;obtain⟨W1,d8⟩:∃W1,(w.alloc (.deferred (some []))).alloc (.loop (a6 .ready none))=W1:=⟨_,rfl⟩;have hL1:W1.heap[w.heap.size+1]?=some (.loop (a6 .ready none)):=by
  rw[<- d8];have:=qou (w.alloc (.deferred (some []))) (.loop (a6 .ready none));rwa [qgk] at this
 have l6:W1.heap[w.heap.size]?=some (.deferred (some [])):=by
  rw[<- d8];exact(Below.heap_alloc _ _ _ (by simp)).trans (qou w _)
 have l9:W1.heap.size=w.heap.size+2:=by rw[<- d8];simp
 have g5:Stp w.heap.size B G0 w W1:=by
  have h:=(qg6 w (.deferred (some [])) none).trans (qg6 _ (.loop (a6 .ready none)) none);rw[d8] at h;exact⟨h.os,h.tape,h.output,h.size,λk hk _=>h.block k hk (by simp)⟩
 have l7:I [] G0 W1:=hI _ _ _ _ h0 g5;have k8:¬ G0 w.heap.size:=λh=>by have:=d9 _ _ _ h0 _ h;omega
 have k7:¬ G0 (w.heap.size+1):=λh=>by have:=d9 _ _ _ h0 _ h;omega
 have hb1:Below w0.heap.size w0 W1:=by
  rw[<- d8];exact h9.trans ((((qmm _ w).alloc (qg9 _) _).alloc (by simp) _).mono h9.size)
 refine⟨w.heap.size+1,[{ target:=.collected w.heap.size,args:=#[] }],W1,{ target:=.fn (.func gf) lb,args:=#[.func (.yield (w.heap.size+1)) #[] #[]] },W1,gf,
  #[.func (.yield (w.heap.size+1)) #[] #[]]++lb,W1,?_,?_,?_,?_,λ_=>h1,?_⟩
 ·rw[<- d8,a7];exact run_enterLoop_outer _ _ _ _ _
 ·simp only[resolve,hg];simp[go_sem]
 ·intro f' h8;simp[Target.leads] at h8;subst h8;exact l8
 ·simp[invoke,go_sem,eg]
 ·have b0:∀(G:Nat->Prop) (A C:qg7),Stp W1.heap.size B G A C->w.heap.size+2<=A.heap.size->C.heap[w.heap.size+1]?=A.heap[w.heap.size+1]?/\C.heap[w.heap.size]?=A.heap[w.heap.size]?:=λG A C h hA=>
   ⟨h.keep _ (by omega) (.inl ⟨by omega,by omega⟩),h.keep _ (by omega) (.inl ⟨by omega,by omega⟩)⟩
  refine(g6 (w.heap.size+1)
   (λpre G W=>(I pre G W/\w.heap.size+2<=W.heap.size/\¬ G w.heap.size/\¬ G (w.heap.size+1))/\W.heap[w.heap.size+1]?=some (.loop (a6 .ready none))/\W.heap[w.heap.size]?=some (.deferred (some [])))
   (λpre G W=>∃c,(Ix c pre G W/\w.heap.size+2<=W.heap.size/\¬ G w.heap.size/\¬ G (w.heap.size+1))/\W.heap[w.heap.size+1]?=some (.loop (a6 .done (some c)))/\W.heap[w.heap.size]?=some (.deferred (some [])))
   G0 W1 hb1 hB (λs G A hs=>d9 s G A hs.1.1)
   (λs G A C hs h=>⟨⟨hI s G A C hs.1.1 (h.mono (by omega)),qgi hs.1.2.1 h.size,hs.1.2.2.1,hs.1.2.2.2⟩,(b0 G A C h hs.1.2.1).1.trans hs.2.1,(b0 G A C h hs.1.2.1).2.trans hs.2.2⟩)
   (λs G A C hs h=>by
    obtain⟨c,hc,hl,hk⟩:=hs;exact⟨c,⟨e5 c s G A C hc.1 (h.mono (by omega)),qgi hc.2.1 h.size,hc.2.2.1,hc.2.2.2⟩,(b0 G A C h hc.2.1).1.trans hl,(b0 G A C h hc.2.1).2.trans hk⟩)
   ?_ ⟨⟨l7,by omega,k8,k7⟩,hL1,l6⟩).mono ?_
  ·-- ONE ROUND
   rintro pre G x W ⟨⟨hi,hsz,d6,b6⟩,hl,hk⟩ hx hsp;have hlt:w.heap.size+1<W.heap.size:=(qg8.1 hl).1;have hy:=run_yield (P:=P) (args:=d5 x) hl (by rw[a7];exact hps x);rw[a7] at hy;refine⟨fn,_,assign,body,hy,roundIn_of_wpIn hfn (e4 _ x W _ ⟨_,run_beginRound hl (by rw[a7]),?_⟩)⟩;obtain⟨Wb,d7⟩:∃Wb,W.putObj (w.heap.size+1) (.loop { a6 .ready none with state:=.busy })=Wb:=⟨_,rfl⟩;have hl2:Wb.heap[w.heap.size+1]?=some (.loop { a6 .ready none with state:=.busy }):=by rw[<- d7];exact qlq hlt
   have l4:Wb.heap[w.heap.size]?=some (.deferred (some [])):=by rw[<- d7];exact(qll (by omega)).trans hk
   have e6:Stp w.heap.size B G W Wb:=by rw[<- d7];exact ku _ (by omega) b6
   have hgb:W.grownBy Wb (some (w.heap.size+1)):=by rw[<- d7];exact qk7 _ _ _
   have k6:Xp x Wb:=by rw[<- d7];exact hX x W _ _ _ hl rfl hx
   rw[d7];have e9:w.heap.size+2<=Wb.heap.size:=qgi hsz e6.size;refine wpIn_mono (hbody _ pre G x _ (hI _ _ _ _ hi e6) k6 hsp) ?_;have k5:Bod W1.heap.size B G G W Wb:=⟨hgb.tape,hgb.size,λk hk' hn _=>hgb.block k hk' (by intro e;cases e;rcases hn with h | h<;>omega),λk hk'=>.inl hk'⟩;have fin:∀(jump:Option qiw) (G3:Nat->Prop) (W3:qg7),Bod w.heap.size B G G3 Wb W3 ->
     (qjk (w.heap.size+1) jump).run P W3=.ok (.bool jump.isNone) (W3.putObj (w.heap.size+1) (.loop (a6 (if jump.isNone then .ready else .done) jump))) /\
     (W3.putObj (w.heap.size+1) (.loop (a6 (if jump.isNone then .ready else .done) jump))).heap[w.heap.size+1]?=some (.loop (a6 (if jump.isNone then .ready else .done) jump)) /\
     (W3.putObj (w.heap.size+1) (.loop (a6 (if jump.isNone then .ready else .done) jump))).heap[w.heap.size]?=some (.deferred (some [])) /\
     Stp w.heap.size B G3 W3 (W3.putObj (w.heap.size+1) (.loop (a6 (if jump.isNone then .ready else .done) jump))) /\
     Bod W1.heap.size B G G3 W (W3.putObj (w.heap.size+1) (.loop (a6 (if jump.isNone then .ready else .done) jump))) /\
     w.heap.size+2<=(W3.putObj (w.heap.size+1) (.loop (a6 (if jump.isNone then .ready else .done) jump))).heap.size /\
     ¬ G3 w.heap.size/\¬ G3 (w.heap.size+1):=λjump G3 W3 a8=>by
    have g9:=(a8.keep (w.heap.size+1) (by omega) (.inl (by omega)) b6).trans hl2;have k9:=(a8.keep w.heap.size (by omega) (.inl (by omega)) d6).trans l4;have g8:¬ G3 (w.heap.size+1):=λe=>(a8.fp _ e).elim b6 (by omega);have g7:¬ G3 w.heap.size:=λe=>(a8.fp _ e).elim d6 (by omega);have e7:Stp w.heap.size B G3 W3 (W3.putObj (w.heap.size+1) (.loop (a6 (if jump.isNone then .ready else .done) jump))):=ku _ (by omega) g8;have e8:W3.grownBy (W3.putObj (w.heap.size+1) (.loop (a6 (if jump.isNone then .ready else .done) jump))) (some (w.heap.size+1)):=qk7 _ _ _;have k0:Bod W1.heap.size B G3 G3 W3 (W3.putObj (w.heap.size+1) (.loop (a6 (if jump.isNone then .ready else .done) jump))):=⟨e8.tape,e8.size,λk hk' hn _=>e8.block k hk' (by intro e;cases e;rcases hn with h | h<;>omega),λk hk'=>.inl hk'⟩;have:=run_endRound (P:=P) jump g9;rw[a7] at this;refine⟨by rw[a7];exact this,qlq (qg8.1 g9).1,(qll (by omega)).trans k9,e7,(k5.trans (a8.mono (by omega))).trans k0,qgi e9 (qgi a8.size e7.size),g7,g8⟩
   rintro e a3 W3 hp;cases e with
   | normal=>
    obtain⟨G3,a8,b9⟩:=hp;obtain⟨hr,b7,b8,hst,c9,a9,c8,c3⟩:=fin none G3 W3 a8;exact⟨_,_,hr,G3,.inl ⟨rfl,⟨⟨hI _ _ _ _ b9 hst,a9,c8,c3⟩,b7,b8⟩,c9⟩⟩
   | ret=>
    obtain⟨G3,a8,b9⟩:=hp;obtain⟨hr,b7,b8,hst,c9,a9,c8,c3⟩:=fin (some .ret) G3 W3 a8;exact⟨_,_,hr,G3,.inr ⟨rfl,⟨.ret,⟨e5 _ _ _ _ _ b9 hst,a9,c8,c3⟩,b7,b8⟩,c9⟩⟩
   | exit id=>
    obtain⟨G3,a8,b9⟩:=hp;obtain⟨hr,b7,b8,hst,c9,a9,c8,c3⟩:=fin (some (.exit id)) G3 W3 a8;exact⟨_,_,hr,G3,.inr ⟨rfl,⟨.exit id,⟨e5 _ _ _ _ _ b9 hst,a9,c8,c3⟩,b7,b8⟩,c9⟩⟩
   | goto t=>
    obtain⟨G3,a8,b9⟩:=hp;obtain⟨hr,b7,b8,hst,c9,a9,c8,c3⟩:=fin (some (.goto t)) G3 W3 a8;exact⟨_,_,hr,G3,.inr ⟨rfl,⟨.goto t,⟨e5 _ _ _ _ _ b9 hst,a9,c8,c3⟩,b7,b8⟩,c9⟩⟩
   | panic ch=>exact hp.elim
   | outgrown=>exact hp.elim
  ·-- BEHIND THE ITERATOR
   rintro e W2 ⟨⟨v,rfl⟩,(⟨xs,G,hS,⟨hi,hsz,d6,b6⟩,hl,hk⟩ | ⟨pre,G,l5,c,⟨hi,hsz,d6,b6⟩,hl,hk⟩)⟩
   ·refine⟨none,_,by have:=run_endLoop (P:=P) hl (by rw[a7];simp);rw[a7] at this;exact this,hdone _ xs G _ (qg9 _) hS (hI _ _ _ _ hi (ku _ (by omega) b6)) ((qll (by omega)).trans hk) d6⟩
   ·refine⟨some c,_,by have:=run_endLoop (P:=P) hl (by rw[a7];simp);rw[a7] at this;exact this,hstop _ c pre G _ (qg9 _) l5 (e5 c _ _ _ _ hi (ku _ (by omega) b6)) ((qll (by omega)).trans hk) d6⟩
end
end
end Go
namespace Go.Proofs.YtidgnkmjgioapaaGreat
section
open Go.RowKit
theorem qbd:∀m:Fin 32,∀n:Fin 5,m.1.testBit n.1=false->bits .andNot .u8 ((m.1 ||| 2 ^ n.1:Nat):Int) ((2 ^ n.1:Nat):Int)=(m.1:Int):=by decide
theorem q8j{m n:Nat}(hm:m<32)(hn:n<5)(h:m.testBit n=false):bits .andNot .u8 ((m ||| 2 ^ n:Nat):Int) ((2 ^ n:Nat):Int)=(m:Int):=qbd ⟨m,hm⟩ ⟨n,hn⟩ h
def Popped(Bn Bu:Nat)(g:Option qho)(k cap m:Nat)(w w':qg7):Prop :=
 w'.os=w.os/\w'.tape=w.tape/\w'.output=w.output/\w'.heap=((w.setCell ⟨Bn,0,none⟩ (.slice g k cap)).setCell ⟨Bu,0,none⟩ (.int .u8 m)).heap
theorem qce(Bn Bu Bx:Nat)(g:Option qho)(k cap m n:Nat)(w:qg7)(a7:n<5)(hm:m<32)(hb:m.testBit n=false)(hk:k<1000000)(b7:k+1<=cap)(hne:Bn≠Bu)(a9:Bn≠Bx)(h1:w.heap[Bn]?=some (.cells #[.slice g (k+1) cap] 29 (0,0)))(h2:w.heap[Bu]?=some (.cells #[.int .u8 (m ||| 2 ^ n:Nat)] 130 (0,0)))(h3:w.heap[Bx]?=some (.cells #[.int .i64 n] 3 (0,0)))(u:FrameMode) :CallsD Tp.prog 152 #[.pointer (some ⟨Bn,0,none⟩),.pointer (some ⟨Bu,0,none⟩),.pointer (some ⟨Bx,0,none⟩)] u w λe u' w'=>u'=u/\e=.returned (.tuple #[]) /\Popped Bn Bu g k cap m w w':=by
 have c1:w.cell? ⟨Bn,0,none⟩=some (.slice g (k+1) cap):=q8 (o:=0) h1 rfl;have c2:w.cell? ⟨Bu,0,none⟩=some (.int .u8 (m ||| 2 ^ n:Nat)):=q8 (o:=0) h2 rfl;have c3:w.cell? ⟨Bx,0,none⟩=some (.int .i64 n):=q8 (o:=0) h3 rfl;have z1:=qn (o:=0) h1;have z2:=qn (o:=0) h2;have a8:=q8j hm a7 hb;have b8:IntKind.i64.wrap ((k:Int)+1 - 1)=(k:Int):=by rw[show(k:Int)+1 - 1=k by omega];exact qgH _ (by omega)
 have b0:IntKind.i64.wrap (k:Int)=(k:Int):=qgH _ (by omega);have b9:(k:Int)<=(cap:Int):=by omega
 have b6:Bu≠Bn:=λe=>hne e.symm;clear h1 h2 h3;refine callsD_of_wp (R:=λe w'=>e=.returned (.tuple #[])/\Popped Bn Bu g k cap m w w') Tp.x152 rfl ?_;simp only[Tryz.ntmps152,qgF,qgq,qgx,qgG,qil,qhl,qhm,qhA,qjH,qhb,qgD];generalize hM:((m ||| 2 ^ n:Nat):Int)=M at c2 a8;generalize hN:((2 ^ n:Nat):Int)=N2 at a8;have HN:=qg4 hN;have HM:=qg4 hM;clear hN hM;have hk:∀(W:qg7) (x:qgb),(W.cell? ⟨Bu,0,none⟩=some (.int .u8 M)/\W.cell? ⟨Bx,0,none⟩=some (.int .i64 n))->((W.setCell ⟨Bn,0,none⟩ x).cell? ⟨Bu,0,none⟩=some (.int .u8 M)/\(W.setCell ⟨Bn,0,none⟩ x).cell? ⟨Bx,0,none⟩=some (.int .i64 n)):=λW x h=>
  ⟨by rw[qib _ _ _ _ (λe=>hne (congrArg qns e))];exact h.1,by rw[qib _ _ _ _ (λe=>a9 (congrArg qns e))];exact h.2⟩
 have HK:=qg4 hk;clear hk;go_wp2_with (fail);refine zf 10 (λw'=>w'.cell? ⟨Bu,0,none⟩=some (.int .u8 M)/\w'.cell? ⟨Bx,0,none⟩=some (.int .i64 n)) (by kernel_rfl) (by kernel_rfl) ⟨c2,c3⟩ (λa6=>?_);simp only[qgq,qgx,qgG,qil,qgz,qhl,qhm,qhA,qhb,qgD];refine tk 5 ?_;try go_frame
 refine tk 6 ?_;try go_frame
 refine rdy [0,1,7] ?_;refine cns 0 (λK hK=>?_) ?_
 ·skip;go_simp;refine hK.out _ _ (by first | exact a6 | exact HK.out _ _ a6) (λa6=>?_);clear hK K;try go_frame
  refine rdy [1,7] ?_;refine cns 1 (λK hK=>?_) ?_
  ·skip;go_simp;refine hK.out _ _ (by first | exact a6 | exact HK.out _ _ a6) (λa6=>?_);clear hK K;try go_frame
   refine tk 2 ?_;try go_frame
   refine tk 3 ?_;try go_frame
   refine tk 4 ?_;try go_frame
   refine rdy [7] ?_;refine cns 7 (λK hK=>?_) ?_
   ·skip;go_simp;go_at_call 153;refine(xu n _ a7).mono ?_;rintro e w2 ⟨rfl,rfl⟩;rw[HN.out];refine hK.out _ _ (by first | exact a6 | exact HK.out _ _ a6) (λa6=>?_);clear hK K;try go_frame
    refine tk 8 ?_;try go_frame
    refine rdy [9] ?_;refine cns 9 (λK hK=>?_) ?_
    ·skip;go_simp;refine hK.out _ _ (by first | exact a6 | exact HK.out _ _ a6) (λa6=>?_);clear hK K;try go_frame
     refine⟨by kernel_rfl,?_⟩;simp only[qhE,qiu];go_wp2;go_end0;exact⟨rfl,rfl,rfl,rfl,rfl⟩
    exact qm.nil
   exact qm.nil
  refine cns 7 (λK hK=>?_) ?_
  ·skip;go_simp;go_at_call 153;refine(xu n _ a7).mono ?_;rintro e w2 ⟨rfl,rfl⟩;rw[HN.out];refine hK.out _ _ (by first | exact a6 | exact HK.out _ _ a6) (λa6=>?_);clear hK K;try go_frame
   refine tk 8 ?_;try go_frame
   refine rdy [1] ?_;refine cns 1 (λK hK=>?_) ?_
   ·skip;go_simp;refine hK.out _ _ (by first | exact a6 | exact HK.out _ _ a6) (λa6=>?_);clear hK K;try go_frame
    refine tk 2 ?_;try go_frame
    refine tk 3 ?_;try go_frame
    refine tk 4 ?_;try go_frame
    refine rdy [9] ?_;refine cns 9 (λK hK=>?_) ?_
    ·skip;go_simp;refine hK.out _ _ (by first | exact a6 | exact HK.out _ _ a6) (λa6=>?_);clear hK K;try go_frame
     refine⟨by kernel_rfl,?_⟩;simp only[qhE,qiu];go_wp2;go_end0;exact⟨rfl,rfl,rfl,rfl,rfl⟩
    exact qm.nil
   exact qm.nil
  exact qm.nil
 refine cns 1 (λK hK=>?_) ?_
 ·skip;go_simp;refine hK.out _ _ (by first | exact a6 | exact HK.out _ _ a6) (λa6=>?_);clear hK K;try go_frame
  refine tk 2 ?_;try go_frame
  refine tk 3 ?_;try go_frame
  refine rdy [0,7] ?_;refine cns 0 (λK hK=>?_) ?_
  ·skip;go_simp;refine hK.out _ _ (by first | exact a6 | exact HK.out _ _ a6) (λa6=>?_);clear hK K;try go_frame
   refine tk 4 ?_;try go_frame
   refine rdy [7] ?_;refine cns 7 (λK hK=>?_) ?_
   ·skip;go_simp;go_at_call 153;refine(xu n _ a7).mono ?_;rintro e w2 ⟨rfl,rfl⟩;rw[HN.out];refine hK.out _ _ (by first | exact a6 | exact HK.out _ _ a6) (λa6=>?_);clear hK K;try go_frame
    refine tk 8 ?_;try go_frame
    refine rdy [9] ?_;refine cns 9 (λK hK=>?_) ?_
    ·skip;go_simp;refine hK.out _ _ (by first | exact a6 | exact HK.out _ _ a6) (λa6=>?_);clear hK K;try go_frame
     refine⟨by kernel_rfl,?_⟩;simp only[qhE,qiu];go_wp2;go_end0;exact⟨rfl,rfl,rfl,rfl,rfl⟩
    exact qm.nil
   exact qm.nil
  refine cns 7 (λK hK=>?_) ?_
  ·skip;go_simp;go_at_call 153;refine(xu n _ a7).mono ?_;rintro e w2 ⟨rfl,rfl⟩;rw[HN.out];refine hK.out _ _ (by first | exact a6 | exact HK.out _ _ a6) (λa6=>?_);clear hK K;try go_frame
   refine tk 8 ?_;try go_frame
   refine rdy [0] ?_;refine cns 0 (λK hK=>?_) ?_
   ·skip;go_simp;refine hK.out _ _ (by first | exact a6 | exact HK.out _ _ a6) (λa6=>?_);clear hK K;try go_frame
    refine tk 4 ?_;try go_frame
    refine rdy [9] ?_;refine cns 9 (λK hK=>?_) ?_
    ·skip;go_simp;refine hK.out _ _ (by first | exact a6 | exact HK.out _ _ a6) (λa6=>?_);clear hK K;try go_frame
     refine⟨by kernel_rfl,?_⟩;simp only[qhE,qiu];go_wp2;go_end0;exact⟨rfl,rfl,rfl,rfl,rfl⟩
    exact qm.nil
   exact qm.nil
  exact qm.nil
 refine cns 7 (λK hK=>?_) ?_
 ·skip;go_simp;go_at_call 153;refine(xu n _ a7).mono ?_;rintro e w2 ⟨rfl,rfl⟩;rw[HN.out];refine hK.out _ _ (by first | exact a6 | exact HK.out _ _ a6) (λa6=>?_);clear hK K;try go_frame
  refine tk 8 ?_;try go_frame
  refine rdy [0,1] ?_;refine cns 0 (λK hK=>?_) ?_
  ·skip;go_simp;refine hK.out _ _ (by first | exact a6 | exact HK.out _ _ a6) (λa6=>?_);clear hK K;try go_frame
   refine rdy [1] ?_;refine cns 1 (λK hK=>?_) ?_
   ·skip;go_simp;refine hK.out _ _ (by first | exact a6 | exact HK.out _ _ a6) (λa6=>?_);clear hK K;try go_frame
    refine tk 2 ?_;try go_frame
    refine tk 3 ?_;try go_frame
    refine tk 4 ?_;try go_frame
    refine rdy [9] ?_;refine cns 9 (λK hK=>?_) ?_
    ·skip;go_simp;refine hK.out _ _ (by first | exact a6 | exact HK.out _ _ a6) (λa6=>?_);clear hK K;try go_frame
     refine⟨by kernel_rfl,?_⟩;simp only[qhE,qiu];go_wp2;go_end0;exact⟨rfl,rfl,rfl,rfl,rfl⟩
    exact qm.nil
   exact qm.nil
  refine cns 1 (λK hK=>?_) ?_
  ·skip;go_simp;refine hK.out _ _ (by first | exact a6 | exact HK.out _ _ a6) (λa6=>?_);clear hK K;try go_frame
   refine tk 2 ?_;try go_frame
   refine tk 3 ?_;try go_frame
   refine rdy [0] ?_;refine cns 0 (λK hK=>?_) ?_
   ·skip;go_simp;refine hK.out _ _ (by first | exact a6 | exact HK.out _ _ a6) (λa6=>?_);clear hK K;try go_frame
    refine tk 4 ?_;try go_frame
    refine rdy [9] ?_;refine cns 9 (λK hK=>?_) ?_
    ·skip;go_simp;refine hK.out _ _ (by first | exact a6 | exact HK.out _ _ a6) (λa6=>?_);clear hK K;try go_frame
     refine⟨by kernel_rfl,?_⟩;simp only[qhE,qiu];go_wp2;go_end0;exact⟨rfl,rfl,rfl,rfl,rfl⟩
    exact qm.nil
   exact qm.nil
  exact qm.nil
 exact qm.nil
def RowsIn(lo hi:Nat)(w:qg7)(v:qgb)(L:List (List Int)):Prop :=
 ∃base cap,v=.slice base L.length cap/\(L.length:Int)<=1000000 /\
  (L≠[]->∃B o cs fr,base=some ⟨B,o,none⟩/\lo<=B/\B<hi/\w.heap[B]?=some (.cells cs 29 fr) /\
   ∀i,i<L.length->∃l x,L[i]?=some l/\cs[o+i]?=some x/\qe lo hi w x l)
theorem RowsIn.kept{lo hi:Nat}{w w':qg7}{v:qgb}{L:List (List Int)}{row:Option Nat}(h:RowsIn lo hi w v L)(hg:w.grownBy w' row)(hr:∀R,row=some R->R<lo\/hi<=R):RowsIn lo hi w' v L:=by
 obtain⟨base,cap,rfl,hl,hr'⟩:=h;refine⟨base,cap,rfl,hl,λhne=>?_⟩;obtain⟨B,o,cs,fr,e1,e2,e3,e4,e5⟩:=hr' hne;refine⟨B,o,cs,fr,e1,e2,e3,blk hg (λe=>by have:=hr B e.symm;omega) e4,λi hi=>?_⟩;obtain⟨l,x,h1,h2,h3⟩:=e5 i hi;exact⟨l,x,h1,h2,h3.kept hg hr⟩
theorem RowsIn.mono{lo hi lo' a6:Nat}{w:qg7}{v:qgb}{L:List (List Int)}(h:RowsIn lo hi w v L)(h1:lo'<=lo)(h2:hi<=a6):RowsIn lo' a6 w v L:=by
 obtain⟨base,cap,rfl,hl,hr⟩:=h;refine⟨base,cap,rfl,hl,λhne=>?_⟩;obtain⟨B,o,cs,fr,e1,e2,e3,e4,e5⟩:=hr hne;refine⟨B,o,cs,fr,e1,by omega,by omega,e4,λi hi=>?_⟩;obtain⟨l,x,h3,h4,h5⟩:=e5 i hi;exact⟨l,x,h3,h4,h5.mono h1 h2⟩
theorem RowsIn.cell{lo hi:Nat}{w:qg7}{v:qgb}{L:List (List Int)}(h:RowsIn lo hi w v L):∃base cap,v=.slice base L.length cap/\(L.length:Int)<=1000000 /\(L≠[]->∃B o,base=some ⟨B,o,none⟩/\lo<=B/\B<hi/\B<w.heap.size/\∀i,i<L.length->∃l x,L[i]?=some l/\w.cell? ⟨B,o+i,none⟩=some x/\qe lo hi w x l):=by
 obtain⟨base,cap,rfl,hl,hr'⟩:=h;refine⟨base,cap,rfl,hl,λhne=>?_⟩;obtain⟨B,o,cs,fr,e1,e2,e3,e4,e5⟩:=hr' hne;refine⟨B,o,e1,e2,e3,(qg8.1 e4).1,λi hi=>?_⟩;obtain⟨l,x,h1,h2,h3⟩:=e5 i hi;exact⟨l,x,h1,by simp[qh6,e4,h2],h3⟩
theorem q1v(la ha lb hb:Nat)(va vb:qgb)(a b:List (List Int))(w:qg7)(hA:RowsIn la ha w va a)(hB:RowsIn lb hb w vb b) :qhf Tp.prog 65 #[va,vb] w λe w'=>e=.returned (.bool (decide (a=b)))/\w.grownBy w' none:=by
 obtain⟨ba,ca,rfl,c9,h1⟩:=hA.cell;obtain⟨bb,cb,rfl,hl2,h2⟩:=hB.cell;have H1:=qg4 h1;have H2:=qg4 h2;clear h1 h2 hA hB;by_cases a6:a.length=b.length
 ·have HL:=qg4 a6;have a9:((a.length:Int) != (b.length:Int))=false:=by rw[a6];simp
  clear a6;go_enter Tp.x65,Tryz.ntmps65;go_wp2;go_loopw [5] (λiv wr=>∃k:Nat,iv=.int .i64 k/\k<=a.length/\(∀i,i<k->a[i]?=b[i]?)/\w.grownBy wr none) (λiv _=>(a.length - qhj iv).toNat)
  case atStart=>exact⟨0,rfl,by omega,λi hi=>absurd hi (by omega),qgn _ _⟩
  case round=>
   obtain⟨k,rfl,hk,hok,hG⟩:=hrel;have c3:=qg4 hok;have HG:=qg4 hG;clear hok;by_cases hlt:k<a.length
   ·have a8:k<b.length:=by have:=HL.out;omega
    obtain⟨A1,o1,rfl,e6,e5,e4,b9⟩:=H1.out (by intro e;rw[e] at hlt;simp at hlt);obtain⟨B1,o2,rfl,d9,d8,d7,b8⟩:=H2.out (by intro e;rw[e] at a8;simp at a8);obtain⟨p,x,e1,b7,hx⟩:=b9 k hlt;obtain⟨q,y,e2,b6,hy⟩:=b8 k a8;have x1:=hG.cell b7 (by simp);have y1:=hG.cell b6 (by simp);have d5:(k:Int)<(b.length:Int):=by omega
    have d6:(k:Int)<(a.length:Int):=by omega
    have E1:=qg4 e1;have E2:=qg4 e2;have HX:=qg4 (hx.kept hG (by simp));have HY:=qg4 (hy.kept hG (by simp));obtain⟨xb,xc,rfl,-,-⟩:=hx.cell;obtain⟨yb,yc,rfl,-,-⟩:=hy.cell;have SC:=qg4 (qgw x1 y1);clear b9 b8 hG e1 e2 b7 b6 hx hy;go_upto_region 6 with(fail);go_region_held3 (λw'=>w'.cell? ⟨A1,o1+k,none⟩=some (.slice xb p.length xc)/\w'.cell? ⟨B1,o2+k,none⟩=some (.slice yb q.length yc))
     (first | exact SC.out)
     (first
      | (go_at_call 31;refine(jZ _ _ _ _ _ _ p q _ (by first | exact HX.out | exact HX.out.kept (qc _ none) (by simp)) (by first | exact HY.out | exact HY.out.kept (qc _ none) (by simp))).mono ?_;rintro e w5 ⟨rfl,hg⟩;have HT:=qg4 (show wr.grownBy w5 none by first | exact hg | exact(qc _ _).trans hg);replace SC:=qg4 (qgw (HT.out.cell SC.out.1 (by simp)) (HT.out.cell SC.out.2 (by simp)));clear hg))
    all_goals
     rename_i b0
     clear b0
    all_goals
     by_cases a7:p=q
     ·have hd:decide (p=q)=true:=by simpa using a7
      have c8:=qg4 a7;clear a7;rw[hd];clear hd;go_wp2;go_roundw
      case rel=>
       refine⟨k+1,by simp,by omega,λi hi=>?_,HG.out.trans HT.out⟩;by_cases e:i=k
       ·rw[e,E1.out,E2.out,c8.out]
       ·exact c3.out i (by omega)
      case measure=>simp[qhj];omega
     ·have hd:decide (p=q)=false:=by simpa using a7
      have HR:=qg4 (show decide (a=b)=false by
       rw[decide_eq_false_iff_not];intro e;have h1:=E1.out;rw[e,E2.out] at h1;exact a7 (by cases h1;rfl))
      clear a7;rw[hd];clear hd;go_wp2;go_ret;exact⟨by rw[HR.out];rfl,HG.out.trans HT.out⟩
   ·obtain rfl:k=a.length:=by omega
    have HR:=qg4 (show decide (a=b)=true by
     rw[decide_eq_true_eq];refine qmC λi=>?_;by_cases hi:i<a.length
     ·exact c3.out i hi
     ·rw[qic (by omega),qic (by have:=HL.out;omega)])
    clear hG;go_wp2;go_ret;exact⟨by rw[HR.out];rfl,HG.out⟩
 ·have HR:=qg4 (show decide (a=b)=false by
   rw[decide_eq_false_iff_not];intro e;exact a6 (by rw[e]))
  have a9:((a.length:Int) != (b.length:Int))=true:=by simp;omega
  clear a6;go_enter Tp.x65,Tryz.ntmps65;go_wp2;go_ret;exact⟨by rw[HR.out];rfl,qgn _ _⟩
end
end Go.Proofs.YtidgnkmjgioapaaGreat
namespace Go
section
section
variable{l m:Nat}{P:qgl}{md:qkc}{ops:Array qi6}{Q:Exit->Act->qg7->Prop}
theorem Oper.wpIn_of_wp{o:qi6}{a:Act}{w:qg7}{K:Act->qg7->Prop}(hd:∀c,o.op≠.defer c)(h:o.wp P a w K Q):o.wpIn (Fence.wide.inRound l) m P a w K Q:=by
 refine⟨λf _=>trivial,?_⟩;rw[show o.semAt (Fence.wide.inRound l).round a.eval=qjt a.eval o from Oper.semAt_some l _ _ hd];unfold Oper.wp at h;generalize (qjt a.eval o).run P w=r at h ⊢;cases r with
 | ok x w'=>
  cases x with
  | enter f args=>exact⟨(λe=>(by cases e)),CallsIn.inRound l (qj9.2 h)⟩
  | row r args=>
   refine⟨(λe=>(by cases e)),λc cs _=>?_⟩;obtain⟨v,w2,h1,h2⟩:=h c cs;exact⟨v,w2,h1,stepsIn_wide.2 h2⟩
  | value v=>exact h
  | skip=>exact h
  | defer d=>exact h
  | _=>exact h.elim
 | halt x w'=>cases x<;>first | exact h | exact h.elim
theorem Y0(a6:¬ LetsOut Q)(hd:∀(i:Nat) (o:qi6),ops[i]?=some o->∀c,o.op≠.defer c){i:Nat}{K:Act->qg7->Prop}{a:Act}{w:qg7}(h:wpOp P ops Q i K a w):wpOpIn (Fence.wide.inRound l) m P ops Q i K a w:=by
 unfold wpOp at h;unfold wpOpIn;cases ho:ops[i]? with
 | none=>rw[ho] at h;exact h
 | some o=>
  rw[ho] at h;dsimp only at h ⊢;split
  ·rename_i hw
   rw[if_pos hw] at h;rcases h with h | h
   ·exact Oper.wpIn_of_wp (hd i o ho) h
   ·exact absurd h.2 a6
  ·rename_i hw
   rw[if_neg hw] at h;exact⟨λf _=>trivial,h⟩
theorem vh(a6:¬ LetsOut Q)(hd:∀(i:Nat) (o:qi6),ops[i]?=some o->∀c,o.op≠.defer c):∀(f:Nat) (listed:Array Bool) (a:Act) (w:qg7),wpAny P md ops Q f listed a w->wpAnyIn (Fence.wide.inRound l) m P md ops Q f listed a w
 | 0,listed,a,w,h=>h
 | f+1,listed,a,w,h=>⟨h.1,λi hi=>Y0 a6 hd (wpOp_mono (λa' w' h'=>vh a6 hd f _ a' w' h') (h.2 i hi))⟩
def q6f(ops:List qi6):Bool:=ops.all λo=>match o.op with | .defer _=>false | _=>true
theorem q1t{ops:List qi6}(h:q6f ops=true)(i:Nat)(o:qi6)(ho:ops.toArray[i]?=some o):∀c,o.op≠.defer c:=by
 intro c;have:=qh9.1 h o (by rw[List.getElem?_toArray] at ho;exact qgj ho);intro e;rw[e] at this;cases this
theorem Kn{id:Nat}{a:Act}{w:qg7}{os:List qi6}(a6:¬ LetsOut Q)(hd:q6f os=true)(n:Nat)(S:qg7->Prop)(hm:P.follows .mixedOrders=true)(hn:decide (n<=os.length)=true)(hS:S w.drew)(h:S w.drew->ja P .any os.toArray Q S n (λlisted a w=>qm0 .any os.toArray (os.length - n) n listed=true/\wpList P os.toArray Q (os.drop n) a w) n (qhk os.length false) a w.drew) :(Code.region id os.toArray true).wpIn (Fence.wide.inRound l) m P Q a w:=by
 have a7:n<=os.length:=by simpa using hn
 refine wpIn_region_any hm ?_;refine vh a6 (q1t hd) _ _ _ _ ?_;have:=kl (g:=os.length - n) (λlisted a w hL=>by
  have:=wpAny_of_seq (md:=.any) (Q':=Q) (ops:=os.toArray) (os.drop n) n listed a w (λj=>by simp[List.getElem?_drop]) (by rw[qm7];exact hL.1) hL.2
  rwa [qm7] at this) _ _ _ _ (h hS)
 rw[show n+(os.length - n)=os.toArray.size by simp;omega] at this;simpa using this
end
end
end Go
namespace Go.Proofs.YtidgnkmjgioapaaGreat
section
open Go Go.Conc.Lib
abbrev link:Go.Conc.Lib.WgLink:={ add:=138,done:=140,wait:=144,relMerge:=166,disable:=167,enable:=168,inBubble:=169,associate:=170,fatal:=171,uOr:=172,uAdd:=173,raceRead:=174,uLoad:=175,uStore:=176,disassociate:=177,semrelease:=178,acquire:=183,isAssociated:=184,uCas:=185,raceWrite:=186,semacquire:=187,orU64:=201,addU64:=202,loadU64:=203,storeU64:=204,casU64:=205,tWgP:=184,tUP:=186,tAssoc:=187,tWg:=166,tAU:=164,tU64:=87,tUint:=177,tU32:=159,tPU32:=191,tPAU:=217,tPU64:=219,tNoCopy:=162,tANoCopy:=155,tAlign64:=156 }
theorem Y4:Go.Conc.Lib.WgLib qgr link :=
 ⟨Tryz.func138,Tryz.func140,Tryz.func144,Tryz.func166,Tryz.func167,Tryz.func168,Tryz.func169,Tryz.func170,Tryz.func171,Tryz.func172,Tryz.func173,Tryz.func174,Tryz.func175,Tryz.func176,Tryz.func177,Tryz.func178,Tryz.func183,Tryz.func184,Tryz.func185,Tryz.func186,Tryz.func187,Tryz.func201,Tryz.func202,Tryz.func203,Tryz.func204,Tryz.func205,Tryz.underlying184,Tryz.runUnderlying184,Tryz.sizeOf184,Tryz.isAgg184,Tryz.zeroValue184,Tryz.underlying186,Tryz.runUnderlying186,Tryz.sizeOf186,Tryz.isAgg186,Tryz.zeroValue186,Tryz.underlying187,Tryz.runUnderlying187,Tryz.sizeOf187,Tryz.isAgg187,Tryz.zeroValue187,Tryz.underlying166,Tryz.runUnderlying166,Tryz.sizeOf166,Tryz.isAgg166,Tryz.zeroValue166,Tryz.underlying164,Tryz.runUnderlying164,Tryz.sizeOf164,Tryz.isAgg164,Tryz.zeroValue164,Tryz.underlying87,Tryz.runUnderlying87,Tryz.sizeOf87,Tryz.isAgg87,Tryz.zeroValue87,Tryz.underlying177,Tryz.runUnderlying177,Tryz.sizeOf177,Tryz.isAgg177,Tryz.zeroValue177,Tryz.underlying159,Tryz.runUnderlying159,Tryz.sizeOf159,Tryz.isAgg159,Tryz.zeroValue159,Tryz.underlying191,Tryz.runUnderlying191,Tryz.sizeOf191,Tryz.isAgg191,Tryz.zeroValue191,Tryz.underlying217,Tryz.runUnderlying217,Tryz.sizeOf217,Tryz.isAgg217,Tryz.zeroValue217,Tryz.underlying219,Tryz.runUnderlying219,Tryz.sizeOf219,Tryz.isAgg219,Tryz.zeroValue219,Tryz.underlying0,Tryz.runUnderlying0,Tryz.sizeOf0,Tryz.isAgg0,Tryz.zeroValue0,Tryz.underlying3,Tryz.runUnderlying3,Tryz.sizeOf3,Tryz.isAgg3,Tryz.zeroValue3,Tryz.underlying4,Tryz.runUnderlying4,Tryz.sizeOf4,Tryz.isAgg4,Tryz.zeroValue4,Tryz.underlying9,Tryz.runUnderlying9,Tryz.sizeOf9,Tryz.isAgg9,Tryz.zeroValue9,Tryz.underlying20,Tryz.runUnderlying20,Tryz.sizeOf20,Tryz.isAgg20,Tryz.zeroValue20,Tryz.underlying21,Tryz.runUnderlying21,Tryz.sizeOf21,Tryz.isAgg21,Tryz.zeroValue21,(by kernel_rfl),(by kernel_rfl)⟩
end
section
open Go.RowKit
theorem YOk.be{ps:List Par}{lim:Int}(h:YOk ps lim):∀p∈ps,0<=p.bears/\p.bears<=1000:=λp hp=>by
 have:=h.each p hp;omega
theorem q0s{w:qg7}{R Y o:Nat}{u v x:qgb}(hne:Y≠R)(h:w.cell? ⟨Y,o,none⟩=some x):((w.setCell ⟨R,0,none⟩ u).setCell ⟨R,1,none⟩ v).cell? ⟨Y,o,none⟩=some x:=by
 rw[qib _ _ _ _ (λe=>hne (congrArg qns e).symm),qib _ _ _ _ (λe=>hne (congrArg qns e).symm)];exact h
def Z0(ps:List Par)(l:List Int):qgb :=
 if zP ps (pre Par.mn ps ps.length) l l.length<0\/l.length=0 then .tuple #[.agg #[.int .i64 0,.int .i64 0],.int .i64 11]
 else .tuple #[.agg #[.int .i64 (max (-1) (zP ps (pre Par.mx ps ps.length) l l.length)),.int .i64 (zP ps (pre Par.mn ps ps.length) l l.length)],.int .i64 0]
theorem q7d(lo hi:Nat)(pv qv:qgb)(ps:List Par)(lim:Int)(l:List Int)(w:qg7)(hP:qr lo hi w pv ps)(hI:qe lo hi w qv l)(hhi:hi<=w.heap.size)(hok:YOk ps lim)(hp:POk ps lim l) :qhf Tp.prog 36 #[.agg #[pv,.int .i64 lim],qv] w λe w'=>e=.returned (Z0 ps l)/\w.grownBy w' none:=by
 obtain⟨yb,yc,rfl,m8,-⟩:=hP.cell;obtain⟨base,cap,rfl,m9,-⟩:=hI.cell;obtain⟨A,hA⟩:∃A,A=w.heap.size:=⟨_,rfl⟩;obtain⟨w1,a8⟩:∃w1,w1=(w.alloc (.cells #[.slice yb ps.length yc,.int .i64 lim] 24)).alloc (.cells #[.int .i64 0,.int .i64 0] 26):=⟨_,rfl⟩;have c8:w.grownBy w1 none:=by rw[a8];exact(qg6 _ _ none).trans (qg6 _ _ none)
 have e5:w1.heap[A]?=some (.cells #[.slice yb ps.length yc,.int .i64 lim] 24 (0,0)):=by rw[a8,hA];exact qq (qgg w _)
 have g7:w1.heap[A+1]?=some (.cells #[.int .i64 0,.int .i64 0] 26 (0,0)):=by
  rw[a8];have:=qgg (w.alloc (.cells #[.slice yb ps.length yc,.int .i64 lim] 24)) (.cells #[.int .i64 0,.int .i64 0] 26);rw[qgk,<- hA] at this;exact this
 have l6:w1.heap.size=A+2:=by rw[a8,qgk,qgk,hA]
 have k0:=qg4 (hI.kept c8 (by simp));have h8:=qg4 (hP.kept c8 (by simp));have l8:=qg4 a8;have HA:=qg4 hA;have m7:=qg4 c8;have m4:=qg4 g7;have q0:=q8 e5 (o:=0) rfl;have q1:=q8 e5 (o:=1) rfl;have n2:hi<=A:=by omega
 have HY:=qg4 hok;have b8:=qg4 hp;clear hP hI hok hp a8 hA c8 e5 g7;go_enter Tp.x36,Tryz.ntmps36;go_upto_region 1 with(fail);rw[<- HA.out,show(w.alloc (.cells #[.slice yb ps.length yc,.int .i64 lim] 24)).alloc (.cells #[.int .i64 0,.int .i64 0] 26)=w1 from l8.out.symm];go_upto_region 2 with(first
  | (go_at_call 81;go_must (refine(vX lo hi _ _ ps lim l _ h8.out k0.out (by omega) HY.out b8.out).mono ?_);rintro e w2 ⟨rfl,g8⟩;have b9:=qg4 g8;clear g8))
 have l5:=b9.out.size;obtain⟨Y,c3⟩:∃Y,Y=w2.heap.size:=⟨_,rfl⟩;obtain⟨w3,b6⟩:∃w3,w3=w2.alloc (.cells #[.slice yb ps.length yc,.int .i64 lim] 91):=⟨_,rfl⟩;have b7:w2.grownBy w3 none:=by rw[b6];exact qg6 _ _ none
 have g9:w3.heap[Y]?=some (.cells #[.slice yb ps.length yc,.int .i64 lim] 91 (0,0)):=by rw[b6,c3];exact qgg _ _
 have l4:w3.heap.size=Y+1:=by rw[b6,qgk,c3]
 rw[<- c3,<- b6];clear q0 q1;have d5:=qg4 g9;have k7:=qg4 ((m7.out.trans b9.out).trans b7);have a6:=qg4 (blk b7 (by simp) (blk b9.out (by simp) m4.out));have m6:=qg4 ((k0.out.kept b9.out (by simp)).kept b7 (by simp));have m5:=qg4 ((h8.out.kept b9.out (by simp)).kept b7 (by simp));have n3:A+1<Y:=by omega
 have a7:hi<=w3.heap.size:=by omega
 clear b7 g9 b6 c3 l6 l5 l4;have s0:=q8 d5.out (o:=0) rfl;have s1:=q8 d5.out (o:=1) rfl;have s2:=q8 a6.out (o:=0) rfl;have s3:=q8 a6.out (o:=1) rfl;have z0:=qn (o:=0) a6.out;have z1:=qn (o:=1) a6.out;go_upto_region 4 with(fail);have HT:=qg4 (qgn w3 none);have e6:∀W,w3.grownBy W none->ji lo hi W (.agg #[.slice yb ps.length yc,.int .i64 lim]) ps lim:=λW h=>⟨_,rfl,m5.out.kept h (by simp)⟩;have e8:∀W,w3.grownBy W none->qe lo hi W (.slice base l.length cap) l:=λW h=>m6.out.kept h (by simp);have e7:∀W,w3.grownBy W none->W.cell? ⟨Y,0,none⟩=some (.slice yb ps.length yc)/\W.cell? ⟨Y,1,none⟩=some (.int .i64 lim)/\W.cell? ⟨A+1,0,none⟩=some (.int .i64 0)/\W.cell? ⟨A+1,1,none⟩=some (.int .i64 0)/\W.frozen? ⟨A+1,0,none⟩=false/\W.frozen? ⟨A+1,1,none⟩=false:=λW h=>
  ⟨q8 (blk h (by simp) d5.out) rfl,q8 (blk h (by simp) d5.out) rfl,q8 (blk h (by simp) a6.out) rfl,q8 (blk h (by simp) a6.out) rfl,qn (blk h (by simp) a6.out),qn (blk h (by simp) a6.out)⟩
 have c9:=qg4 e6;have h9:=qg4 e8;have b0:=qg4 e7;clear e6 e8 e7;have SC:=qg4 (b0.out w3 (qgn w3 none));obtain⟨gm,d9⟩:∃gm,gm=pre Par.mn ps ps.length:=⟨_,rfl⟩;obtain⟨gx,d8⟩:∃gx,gx=pre Par.mx ps ps.length:=⟨_,rfl⟩;have g5:∀i,0<=gm i/\gm i<=1000:=by rw[d9];exact HY.out.mn
 have e9:∀i,0<=gx i/\gx i<=1000:=by rw[d8];exact HY.out.mx
 have k6:=qg4 d9;have k5:=qg4 d8;have k9:=qg4 g5;have k8:=qg4 e9;clear d9 d8 g5 e9;go_region_held3 (λw'=>w'.cell? ⟨Y,0,none⟩=some (.slice yb ps.length yc)/\w'.cell? ⟨Y,1,none⟩=some (.int .i64 lim)/\w'.cell? ⟨A+1,0,none⟩=some (.int .i64 0)/\w'.cell? ⟨A+1,1,none⟩=some (.int .i64 0)/\w'.frozen? ⟨A+1,0,none⟩=false/\w'.frozen? ⟨A+1,1,none⟩=false)
  (first | exact SC.out)
  (first
   | (go_at_call 93;refine(Qu lo hi _ ps lim _ (c9.out _ (by first | exact HT.out | exact HT.out.trans (qc _ _))) (qgi a7 (by first | exact HT.out.size | exact(HT.out.trans (qc _ none)).size)) HY.out.len).mono ?_;rintro e w5 ⟨rfl,hg⟩;rw[<- k6.out];replace HT:=qg4 (show w3.grownBy w5 none by first | exact HT.out.trans hg | exact(HT.out.trans (qc _ _)).trans hg);replace SC:=qg4 (b0.out w5 HT.out);clear hg)
   | (go_at_call 94;refine(q05 lo hi _ _ ps lim l _ _ (c9.out _ (by first | exact HT.out | exact HT.out.trans (qc _ _))) (h9.out _ (by first | exact HT.out | exact HT.out.trans (qc _ _))) (qgi a7 (by first | exact HT.out.size | exact(HT.out.trans (qc _ none)).size)) HY.out.len b8.out.ok (by have:=b8.out.len;omega) (by first | exact k9.out | exact k8.out) HY.out.be).mono ?_;rintro e w5 ⟨rfl,hg⟩;replace HT:=qg4 (show w3.grownBy w5 none by first | exact HT.out.trans hg | exact(HT.out.trans (qc _ _)).trans hg);replace SC:=qg4 (b0.out w5 HT.out);clear hg))
 have m3:=qg4 (show w5.cell? ⟨Y,0,none⟩=some (.slice yb ps.length yc)/\w5.cell? ⟨Y,1,none⟩=some (.int .i64 lim)/\w5.cell? ⟨A+1,0,none⟩=some (.int .i64 0)/\w5.cell? ⟨A+1,1,none⟩=some (.int .i64 0)/\w5.frozen? ⟨A+1,0,none⟩=false/\w5.frozen? ⟨A+1,1,none⟩=false from SC.out);have HV:=qg4 (show Z0 ps l=if zP ps gm l l.length<0\/l.length=0 then .tuple #[.agg #[.int .i64 0,.int .i64 0],.int .i64 11] else .tuple #[.agg #[.int .i64 (max (-1) (zP ps gx l l.length)),.int .i64 (zP ps gm l l.length)],.int .i64 0] by rw[k6.out,k5.out];rfl);obtain⟨a,ha⟩:∃a,a=zP ps gm l l.length:=⟨_,rfl⟩;rw[<- ha] at HV ⊢;have n4:=qg4 ha;clear ha
 rename_i e4
 clear e4;clear s0 s1 s2 s3 z0 z1;obtain⟨s0,s1,s2,s3,z0,z1⟩:=m3.out;have d6:∀(w':qg7),w5.grownBy w' (some (A+1))->w.grownBy w' none:=λw' h=>(k7.out.trans HT.out).andThen h (λj e=>by cases e;left;rw[<- HA.out];omega);have d7:=qg4 d6;clear d6;by_cases h1:a<0
 ·have hv:Z0 ps l=.tuple #[.agg #[.int .i64 0,.int .i64 0],.int .i64 11]:=by rw[HV.out,if_pos (.inl h1)]
  have a9:=qg4 hv;clear hv HV;go_wp2;refine qji (v:=.tuple #[.agg #[.int .i64 0,.int .i64 0],.int .i64 11]) ?_ rfl ⟨by rw[a9.out],d7.out _ ((qf _ _ _ _).trans (qf _ _ _ _))⟩;rw[qo1 rfl];go_simp
 ·by_cases h2:l.length=0
  ·have hv:Z0 ps l=.tuple #[.agg #[.int .i64 0,.int .i64 0],.int .i64 11]:=by rw[HV.out,if_pos (.inr h2)]
   have a9:=qg4 hv;have l7:((l.length:Int) == 0)=true:=by simp[h2]
   clear hv HV h2;go_wp2;refine qji (v:=.tuple #[.agg #[.int .i64 0,.int .i64 0],.int .i64 11]) ?_ rfl ⟨by rw[a9.out],d7.out _ ((qf _ _ _ _).trans (qf _ _ _ _))⟩;rw[qo1 rfl];go_simp
  ·have hv:Z0 ps l=.tuple #[.agg #[.int .i64 (max (-1) (zP ps gx l l.length)),.int .i64 a],.int .i64 0]:=by rw[HV.out,if_neg (by rintro(h | h);exact h1 h;exact h2 h)]
   have a9:=qg4 hv;have l7:((l.length:Int) == 0)=false:=by rw[beq_eq_false_iff_ne];omega
   have g6:Y≠A+1:=by omega
   clear hv HV h2;go_upto_region 7 with(fail);have SC:=qg4 (b0.out w5 HT.out);clear s2 s3 z0 z1;go_region_held3 (λw'=>w'.cell? ⟨Y,0,none⟩=some (.slice yb ps.length yc)/\w'.cell? ⟨Y,1,none⟩=some (.int .i64 lim))
    (first | exact⟨SC.out.1,SC.out.2.1⟩ | exact⟨q0s g6 SC.out.1,q0s g6 SC.out.2.1⟩)
    (first
     | (go_at_call 92;refine(Q0 lo hi _ ps lim _ (c9.out _ (by first | exact HT.out | exact HT.out.trans (qc _ _))) (qgi a7 (by first | exact HT.out.size | exact(HT.out.trans (qc _ none)).size)) HY.out.len).mono ?_;rintro e w6 ⟨rfl,hg⟩;rw[<- k5.out];replace HT:=qg4 (show w3.grownBy w6 none by first | exact HT.out.trans hg | exact(HT.out.trans (qc _ _)).trans hg);replace SC:=qg4 (b0.out w6 HT.out);clear hg)
     | (go_at_call 94;refine(q05 lo hi _ _ ps lim l _ _ (c9.out _ (by first | exact HT.out | exact HT.out.trans (qc _ _))) (h9.out _ (by first | exact HT.out | exact HT.out.trans (qc _ _))) (qgi a7 (by first | exact HT.out.size | exact(HT.out.trans (qc _ none)).size)) HY.out.len b8.out.ok (by have:=b8.out.len;omega) (by first | exact k9.out | exact k8.out) HY.out.be).mono ?_;rintro e w6 ⟨rfl,hg⟩;replace HT:=qg4 (show w3.grownBy w6 none by first | exact HT.out.trans hg | exact(HT.out.trans (qc _ _)).trans hg);replace SC:=qg4 (b0.out w6 HT.out);clear hg;have r0:=SC.out.2.2.1;have r1:=SC.out.2.2.2.1;have r2:=SC.out.2.2.2.2.1;have r3:=SC.out.2.2.2.2.2))
   generalize hm:(if -1<zP ps gx l l.length then zP ps gx l l.length else -1)=m;have hv:Z0 ps l=.tuple #[.agg #[.int .i64 m,.int .i64 a],.int .i64 0]:=by
    rw[a9.out,show max (-1) (zP ps gx l l.length)=m by rw[<- hm];omega]
   have l9:=qg4 hv;clear hv hm a9;go_wp2;refine qji (v:=.tuple #[.agg #[.int .i64 m,.int .i64 a],.int .i64 0]) ?_ rfl ⟨by rw[l9.out],(k7.out.trans HT.out).andThen ((qf _ _ _ _).trans (qf _ _ _ _)) (λj e=>by cases e;left;rw[<- HA.out];omega)⟩;rw[qo1 rfl];go_simp
theorem Tp.info26p:(Tp.prog.info? 26).map (λi=>(i.zero,i.size,i.bytes))=some (some (.agg #[.int .i64 0,.int .i64 0]),2,16):=by kernel_rfl
theorem Tp.und48:Tp.prog.underlying 48=some (.slice 26):=by rw[Tp.und];exact Tryz.underlying48
def qN(lo hi:Nat)(w:qg7)(v:qgb)(l:List (Int × Int)):Prop :=
 ∃base cap,v=.slice base l.length cap/\(l.length:Int)<=1000000 /\
  (l≠[]->∃B o cs fr,base=some ⟨B,o,none⟩/\lo<=B/\B<hi/\w.heap[B]?=some (.cells cs 26 fr) /\
   ∀i,i<l.length->∃p,l[i]?=some p/\cs[o+i*2]?=some (.int .i64 p.1)/\cs[o+(i*2+1)]?=some (.int .i64 p.2))
theorem qN.kept{lo hi:Nat}{w w':qg7}{v:qgb}{ps:List (Int × Int)}{row:Option Nat}(h:qN lo hi w v ps)(hg:w.grownBy w' row)(hr:∀R,row=some R->R<lo\/hi<=R):qN lo hi w' v ps:=by
 obtain⟨base,cap,rfl,hl,hr'⟩:=h;refine⟨base,cap,rfl,hl,λhne=>?_⟩;obtain⟨B,o,cs,fr,e1,e2,e3,e4,e5⟩:=hr' hne;exact⟨B,o,cs,fr,e1,e2,e3,blk hg (λe=>by have:=hr B e.symm;omega) e4,e5⟩
theorem qN.mono{lo hi lo' a6:Nat}{w:qg7}{v:qgb}{ps:List (Int × Int)}(h:qN lo hi w v ps)(h1:lo'<=lo)(h2:hi<=a6):qN lo' a6 w v ps:=by
 obtain⟨base,cap,rfl,hl,hr⟩:=h;refine⟨base,cap,rfl,hl,λhne=>?_⟩;obtain⟨B,o,cs,fr,e1,e2,e3,e4,e5⟩:=hr hne;exact⟨B,o,cs,fr,e1,by omega,by omega,e4,e5⟩
theorem qN.cell{lo hi:Nat}{w:qg7}{v:qgb}{ps:List (Int × Int)}(h:qN lo hi w v ps):∃base cap,v=.slice base ps.length cap/\(ps.length:Int)<=1000000 /\(ps≠[]->∃B o,base=some ⟨B,o,none⟩/\lo<=B/\B<hi/\B<w.heap.size/\∀i,i<ps.length->∃p,ps[i]?=some p/\w.cell? ⟨B,o+i*2,none⟩=some (.int .i64 p.1)/\w.cell? ⟨B,o+i*2+1,none⟩=some (.int .i64 p.2)):=by
 obtain⟨base,cap,rfl,hl,hr'⟩:=h;refine⟨base,cap,rfl,hl,λhne=>?_⟩;obtain⟨B,o,cs,fr,e1,e2,e3,e4,e5⟩:=hr' hne;refine⟨B,o,e1,e2,e3,(qg8.1 e4).1,λi hi=>?_⟩;obtain⟨p,h0,h1,h2⟩:=e5 i hi;exact⟨p,h0,by simp[qh6,e4,h1],by simp[qh6,e4,qma,h2]⟩
def kI(l:List (Int × Int)):List qgb:=l.flatMap λp=>[.int .i64 p.1,.int .i64 p.2]
theorem q8l(l:List (Int × Int)):(kI l).length=l.length*2:=by
 unfold kI;induction l with
 | nil=>rfl
 | cons p l ih=>simp only[qiB,qhe,ih,qgq,qgx];omega
theorem q5A(l:List (Int × Int))(p:Int × Int):kI (l++[p])=kI l++[.int .i64 p.1,.int .i64 p.2]:=by simp[kI]
theorem q0F:∀(l:List (Int × Int)) (i:Nat),i<l.length->∃p,l[i]?=some p/\(kI l)[i*2]?=some (.int .i64 p.1)/\(kI l)[i*2+1]?=some (.int .i64 p.2)
 | p::l,0,_=>⟨p,rfl,rfl,rfl⟩
 | p::l,i+1,h=>by
  obtain⟨q,h1,h2,h3⟩:=q0F l i (by simpa using h);refine⟨q,by simpa using h1,?_,?_⟩
  ·show([qgy .i64 p.1,.int .i64 p.2]++kI l)[(i+1)*2]?=_;rw[qin (by simp;omega)];rw[<- h2];congr 1;simp;omega
  ·show([qgy .i64 p.1,.int .i64 p.2]++kI l)[(i+1)*2+1]?=_;rw[qin (by simp;omega)];rw[<- h3];congr 1;simp;omega
theorem qN.own{lo n:Nat}{w:qg7}{v:qgb}{l:List (Int × Int)}(h:w.ownsRow lo 26 2 v n (kI l))(hl:(l.length:Int)<=1000000):qN lo w.heap.size w v l:=by
 obtain⟨h1,h2⟩:=h;have hn:l.length=n:=by rw[q8l] at h1;omega
 subst hn;rcases h2 with⟨rfl,h0⟩ | ⟨g,cap,cur,rfl,hb,hg,hc,hm,hs,ht⟩
 ·exact⟨none,0,by rw[h0],hl,λhne=>absurd (qhC h0) hne⟩
 ·refine⟨_,cap,rfl,hl,λ_=>⟨g,0,cur,(0,0),rfl,hb,(qg8.1 hg).1,hg,λi hi=>?_⟩⟩;obtain⟨p,h1,h2,h3⟩:=q0F l i hi;have key:∀j,j<l.length*2->cur[j]?=(kI l)[j]?:=λj hj=>by
   rw[<- ht,qlp,if_pos hj];simp
  exact⟨p,h1,by rw[qgz,key _ (by omega),h2],by rw[qgz,key _ (by omega),h3]⟩
theorem q6C(a b c d:Int)(w:qg7):(Op.equalIn 10000 26 (.agg #[.int .i64 a,.int .i64 b]) (.agg #[.int .i64 c,.int .i64 d])).run Tp.prog w=.ok (decide ((a,b)=(c,d))) w:=by
 have a6:Tp.prog.underlying 26=Tryz.prog.underlying 26:=Tp.und 26;have u3:Tp.prog.underlying 3=some (.int .i64):=by rw[Tp.und];exact Tryz.underlying3
 have hS:Tp.prog.underlying 26=some (.struct (Tp.prog.fieldsOf 26)):=by kernel_rfl
 have hp:Tp.prog.stoodInHeld 26=false:=by kernel_rfl
 rw[show(10000:Nat)=9999+1 from rfl,run_equalIn_agg w 9999 26 _ _ hS hp];simp only[Program.fieldsOf,a6,Tryz.underlying26];go_simp;by_cases h1:a=c<;>by_cases h2:b=d<;>simp[h1,h2]
theorem qbg(a b c d:Int)(w:qg7):(binOp .neq 26 (.agg #[.int .i64 a,.int .i64 b]) (.agg #[.int .i64 c,.int .i64 d])).run Tp.prog w=.ok (.bool (!decide ((a,b)=(c,d)))) w:=by
 rw[run_neq_struct,q6C];rfl
theorem qbh(a b c d:Int)(w:qg7):(binOp .eql 26 (.agg #[.int .i64 a,.int .i64 b]) (.agg #[.int .i64 c,.int .i64 d])).run Tp.prog w=.ok (.bool (decide ((a,b)=(c,d)))) w:=by
 rw[run_eql_struct,q6C];rfl
theorem Kh(op:BinOp)(x y:qhh)(a b:Array qgb)(w:qg7):(eqGuard op 26 x y (.agg a) (.agg b)).run Tp.prog w=.ok () w:=run_eqGuard_agg w op 26 x y a b (by kernel_rfl)
def yA(ps:List Par)(l:List Int):List (Int × Int):=(qgB l.length).map λi=>(loadAt (pre Par.mn ps ps.length) l i,loadAt (pre Par.mx ps ps.length) l i)
theorem Kz(la ha lb hb:Nat)(va vb:qgb)(a b:List (Int × Int))(w:qg7)(hA:qN la ha w va a)(hB:qN lb hb w vb b) :qhf Tp.prog 51 #[va,vb] w λe w'=>e=.returned (.bool (decide (a=b)))/\w.grownBy w' none:=by
 obtain⟨ba,ca,rfl,d6,h1⟩:=hA.cell;obtain⟨bb,cb,rfl,hl2,h2⟩:=hB.cell;have H1:=qg4 h1;have H2:=qg4 h2;clear h1 h2 hA hB;by_cases a6:a.length=b.length
 ·have HL:=qg4 a6;have a9:((a.length:Int) != (b.length:Int))=false:=by rw[a6];simp
  clear a6;go_enter Tp.x51,Tryz.ntmps51;go_wp2;go_loopw [5] (λiv wr=>∃k:Nat,iv=.int .i64 k/\k<=a.length/\(∀i,i<k->a[i]?=b[i]?)/\w.grownBy wr none) (λiv _=>(a.length - qhj iv).toNat)
  case atStart=>exact⟨0,rfl,by omega,λi hi=>absurd hi (by omega),qgn _ _⟩
  case round=>
   obtain⟨k,rfl,hk,hok,hG⟩:=hrel;have c9:=qg4 hok;have HG:=qg4 hG;clear hok;by_cases hlt:k<a.length
   ·have a8:k<b.length:=by have:=HL.out;omega
    obtain⟨A1,o1,rfl,e8,e7,e6,c8⟩:=H1.out (by intro e;rw[e] at hlt;simp at hlt);obtain⟨B1,o2,rfl,e5,e4,d9,c3⟩:=H2.out (by intro e;rw[e] at a8;simp at a8);obtain⟨p,e1,b8,b7⟩:=c8 k hlt;obtain⟨q,e2,b6,b0⟩:=c3 k a8;have x1:=hG.cell b8 (by simp);have x2:=hG.cell b7 (by simp);have y1:=hG.cell b6 (by simp);have y2:=hG.cell b0 (by simp);obtain⟨p1,p2⟩:=p;obtain⟨q1,q2⟩:=q;have d7:(k:Int)<(b.length:Int):=by omega
    have d8:(k:Int)<(a.length:Int):=by omega
    have E1:=qg4 e1;have E2:=qg4 e2;clear c8 c3 hG e1 e2 b8 b7 b6 b0;have b9:=qbg p1 p2 q1 q2;have hbg:=Kh .neq (.tmp 20) (.tmp 24) #[.int .i64 p1,.int .i64 p2] #[.int .i64 q1,.int .i64 q2];by_cases a7:(p1,p2)=(q1,q2)
    ·have hd:decide ((p1,p2)=(q1,q2))=true:=by simpa using a7
     rw[hd] at b9;have d5:=qg4 a7;clear hd a7;go_upto_region 6 with(fail);go_quiet (fail);go_wp2;go_roundw
     case rel=>
      refine⟨k+1,by simp,by omega,λi hi=>?_,HG.out.trans (qi _ _ _)⟩;by_cases e:i=k
      ·rw[e,E1.out,E2.out,d5.out]
      ·exact c9.out i (by omega)
     case measure=>simp[qhj];omega
    ·have hd:decide ((p1,p2)=(q1,q2))=false:=by simpa using a7
     rw[hd] at b9;have HR:=qg4 (show decide (a=b)=false by
      rw[decide_eq_false_iff_not];intro e;have h1:=E1.out;rw[e,E2.out] at h1;exact a7 (by cases h1;rfl))
     clear hd a7;go_upto_region 6 with(fail);go_quiet (fail);go_wp2;go_ret;exact⟨by rw[HR.out];rfl,HG.out.trans (qi _ _ _)⟩
   ·obtain rfl:k=a.length:=by omega
    have HR:=qg4 (show decide (a=b)=true by
     rw[decide_eq_true_eq];refine qmC λi=>?_;by_cases hi:i<a.length
     ·exact c9.out i hi
     ·rw[qic (by omega),qic (by have:=HL.out;omega)])
    clear hG;go_wp2;go_ret;exact⟨by rw[HR.out];rfl,HG.out⟩
 ·have HR:=qg4 (show decide (a=b)=false by
   rw[decide_eq_false_iff_not];intro e;exact a6 (by rw[e]))
  have a9:((a.length:Int) != (b.length:Int))=true:=by simp;omega
  clear a6;go_enter Tp.x51,Tryz.ntmps51;go_wp2;go_ret;exact⟨by rw[HR.out];rfl,qgn _ _⟩
theorem q59(ps:List Par)(l:List Int):(yA ps l).length=l.length:=by simp[yA]
theorem q3d(ps:List Par)(l:List Int)(k:Nat)(h:k<l.length):(yA ps l).take (k+1)=(yA ps l).take k++[(loadAt (pre Par.mn ps ps.length) l k,loadAt (pre Par.mx ps ps.length) l k)]:=by
 rw[qhd];simp[yA,h]
theorem q7w(lo hi:Nat)(pv qv:qgb)(ps:List Par)(lim:Int)(l:List Int)(w:qg7)(hP:qr lo hi w pv ps)(hI:qe lo hi w qv l)(hhi:hi<=w.heap.size)(hok:YOk ps lim)(hp:POk ps lim l) :qhf Tp.prog 35 #[.agg #[pv,.int .i64 lim],qv] w λe w'=>∃v,e=.returned (.tuple #[v,.int .i64 0])/\w.grownBy w' none/\qN w.heap.size w'.heap.size w' v (yA ps l):=by
 obtain⟨i0,m5,l7,l6,l5⟩:=qiv Tp.info26p;obtain⟨yb,yc,rfl,p4,-⟩:=hP.cell;obtain⟨base,cap,rfl,p7,-⟩:=hI.cell;obtain⟨A,hA⟩:∃A,A=w.heap.size:=⟨_,rfl⟩;obtain⟨w1,b0⟩:∃w1,w1=w.alloc (.cells #[.slice yb ps.length yc,.int .i64 lim] 24):=⟨_,rfl⟩;have c3:w.grownBy w1 none:=by rw[b0];exact qg6 _ _ none
 have d9:w1.heap[A]?=some (.cells #[.slice yb ps.length yc,.int .i64 lim] 24 (0,0)):=by rw[b0,hA];exact qgg w _
 have m3:w1.heap.size=A+1:=by rw[b0,qgk,hA]
 have k0:=qg4 (hI.kept c3 (by simp));have h8:=qg4 (hP.kept c3 (by simp));have m7:=qg4 b0;have HA:=qg4 hA;have n6:=qg4 c3;have q0:=q8 d9 (o:=0) rfl;have q1:=q8 d9 (o:=1) rfl;have p8:hi<=A:=by omega
 have HY:=qg4 hok;have m8:=qg4 hp;have m4:l.length<=100:=hp.len;have e5:∀x∈l,0<=x/\x<5:=λx hx=>by have h1:=hp.ok x hx;have h2:=hok.len;omega
 have g9:=qg4 e5;clear hP hI hok hp b0 hA c3 d9 e5;go_enter Tp.x35,Tryz.ntmps35;go_upto_region 1 with(fail);rw[<- HA.out,show w.alloc (.cells #[.slice yb ps.length yc,.int .i64 lim] 24)=w1 from m7.out.symm];go_upto_region 2 with(first
  | (go_at_call 81;go_must (refine(vX lo hi _ _ ps lim l _ h8.out k0.out (by omega) HY.out m8.out).mono ?_);rintro e w2 ⟨rfl,g6⟩;have c8:=qg4 g6;clear g6))
 have l9:=c8.out.size;obtain⟨Y,b8⟩:∃Y,Y=w2.heap.size:=⟨_,rfl⟩;obtain⟨w3,a9⟩:∃w3,w3=w2.alloc (.cells #[.slice yb ps.length yc,.int .i64 lim] 91):=⟨_,rfl⟩;have b9:w2.grownBy w3 none:=by rw[a9];exact qg6 _ _ none
 have g7:w3.heap[Y]?=some (.cells #[.slice yb ps.length yc,.int .i64 lim] 91 (0,0)):=by rw[a9,b8];exact qgg _ _
 have l8:w3.heap.size=Y+1:=by rw[a9,qgk,b8]
 rw[<- b8,<- a9];clear q0 q1;have c9:=qg4 g7;have k8:=qg4 ((n6.out.trans c8.out).trans b9);have n3:=qg4 ((k0.out.kept c8.out (by simp)).kept b9 (by simp));have m9:=qg4 ((h8.out.kept c8.out (by simp)).kept b9 (by simp));have p9:A<Y:=by omega
 have a8:hi<=w3.heap.size:=by omega
 have p5:w.heap.size<=w3.heap.size:=k8.out.size;clear b9 g7 a9 b8 m3 l9 l8;have s0:=q8 c9.out (o:=0) rfl;have s1:=q8 c9.out (o:=1) rfl;go_upto_region 5 with(fail);have HT:=qg4 (qgn w3 none);have e4:∀W,w3.grownBy W none->ji lo hi W (.agg #[.slice yb ps.length yc,.int .i64 lim]) ps lim:=λW h=>⟨_,rfl,m9.out.kept h (by simp)⟩;have e7:∀W,w3.grownBy W none->qe lo hi W (.slice base l.length cap) l:=λW h=>n3.out.kept h (by simp);have e6:∀W,w3.grownBy W none->W.cell? ⟨Y,0,none⟩=some (.slice yb ps.length yc)/\W.cell? ⟨Y,1,none⟩=some (.int .i64 lim):=λW h=>
  ⟨q8 (blk h (by simp) c9.out) rfl,q8 (blk h (by simp) c9.out) rfl⟩
 have g8:=qg4 e4;have h9:=qg4 e7;have b7:=qg4 e6;clear e4 e7 e6;have SC:=qg4 (b7.out w3 (qgn w3 none));obtain⟨gm,d8⟩:∃gm,gm=pre Par.mn ps ps.length:=⟨_,rfl⟩;obtain⟨gx,d7⟩:∃gx,gx=pre Par.mx ps ps.length:=⟨_,rfl⟩;have e9:∀i,0<=gm i/\gm i<=1000:=by rw[d8];exact HY.out.mn
 have e8:∀i,0<=gx i/\gx i<=1000:=by rw[d7];exact HY.out.mx
 have k6:=qg4 d8;have k5:=qg4 d7;have l4:=qg4 e9;have k9:=qg4 e8;clear d8 d7 e9 e8;go_region_held3 (λw'=>w'.cell? ⟨Y,0,none⟩=some (.slice yb ps.length yc)/\w'.cell? ⟨Y,1,none⟩=some (.int .i64 lim))
  (first | exact SC.out)
  (first
   | (go_at_call 92;refine(Q0 lo hi _ ps lim _ (g8.out _ (by first | exact HT.out | exact HT.out.trans (qc _ _))) (qgi a8 (by first | exact HT.out.size | exact(HT.out.trans (qc _ none)).size)) HY.out.len).mono ?_;rintro e w5 ⟨rfl,hg⟩;rw[<- k5.out];replace HT:=qg4 (show w3.grownBy w5 none by first | exact HT.out.trans hg | exact(HT.out.trans (qc _ _)).trans hg);replace SC:=qg4 (b7.out w5 HT.out);clear hg)
   | (go_at_call 91;refine(Qt lo hi _ _ l _ _ (h9.out _ (by first | exact HT.out | exact HT.out.trans (qc _ _))) (qgi a8 (by first | exact HT.out.size | exact(HT.out.trans (qc _ none)).size)) g9.out (by omega) (by first | exact l4.out | exact k9.out) ⟨_,_,rfl⟩).mono ?_;rintro e w5 ⟨lv,rfl,hg,hL⟩;have hc:=hL.cell;rw[yZ] at hc;obtain⟨mb,mc,rfl,-,-⟩:=hc;have HM:=qg4 hL;replace HT:=qg4 (show w3.grownBy w5 none by first | exact HT.out.trans hg | exact(HT.out.trans (qc _ _)).trans hg);replace SC:=qg4 (b7.out w5 HT.out);clear hg hL))
 rename_i wa wm a7
 clear a7 s0 s1;have q2:=qg4 HT.out;have s0:=SC.out.1;have s1:=SC.out.2;go_upto_region 6 with(fail);go_region_held3 (λw'=>w'.cell? ⟨Y,0,none⟩=some (.slice yb ps.length yc)/\w'.cell? ⟨Y,1,none⟩=some (.int .i64 lim))
  (first | exact SC.out)
  (first
   | (go_at_call 93;refine(Qu lo hi _ ps lim _ (g8.out _ (by first | exact HT.out | exact HT.out.trans (qc _ _))) (qgi a8 (by first | exact HT.out.size | exact(HT.out.trans (qc _ none)).size)) HY.out.len).mono ?_;rintro e w6 ⟨rfl,hg⟩;rw[<- k6.out];replace HM:=qg4 (HM.out.kept (row:=none) (show World.grownBy _ w6 none by first | exact hg | exact(qc _ _).trans hg) (by simp));replace HT:=qg4 (show w3.grownBy w6 none by first | exact HT.out.trans hg | exact(HT.out.trans (qc _ _)).trans hg);replace SC:=qg4 (b7.out w6 HT.out);clear hg)
   | (go_at_call 91;refine(Qt lo hi _ _ l _ _ (h9.out _ (by first | exact HT.out | exact HT.out.trans (qc _ _))) (qgi a8 (by first | exact HT.out.size | exact(HT.out.trans (qc _ none)).size)) g9.out (by omega) (by first | exact l4.out | exact k9.out) ⟨_,_,rfl⟩).mono ?_;rintro e w6 ⟨lv,rfl,hg,hL⟩;have hc:=hL.cell;rw[yZ] at hc;obtain⟨lb,lc,rfl,-,-⟩:=hc;have HL:=qg4 hL;replace HM:=qg4 (HM.out.kept (row:=none) (show World.grownBy _ w6 none by first | exact hg | exact(qc _ _).trans hg) (by simp));replace HT:=qg4 (show w3.grownBy w6 none by first | exact HT.out.trans hg | exact(HT.out.trans (qc _ _)).trans hg);replace SC:=qg4 (b7.out w6 HT.out);clear hg hL))
 rename_i a7
 clear a7 s0 s1;have hcl:=HL.out.cell;have hcm:=HM.out.cell;rw[yZ] at hcl hcm;obtain⟨_,_,he,-,hcl⟩:=hcl;cases he;obtain⟨_,_,he,-,hcm⟩:=hcm;cases he;have n8:=qg4 hcl;have n7:=qg4 hcm;have k7:=qg4 (k8.out.trans HT.out);clear hcl hcm;have m6:Hid (∀k,k<l.length->(kI ((yA ps l).take (k+1)))=kI ((yA ps l).take k)++[.int .i64 (loadAt gm l k),.int .i64 (loadAt gx l k)]):=qg4 λk hk=>by
  rw[q3d ps l k hk,q5A,k6.out,k5.out]
 go_wp2;go_loopw [8,32] (λov iv wr=>∃k:Nat,iv=.int .i64 k/\k<=l.length/\w6.grownBy wr none/\wr.ownsRow w6.heap.size 26 2 ov k (kI ((yA ps l).take k))) (λ_ iv _=>(l.length - qhj iv).toNat)
 case atStart=>exact⟨0,rfl,by omega,qgn _ _,by simpa[kI] using qiq _ _ _ _⟩
 case round=>
  obtain⟨k,rfl,hk,hG,hO⟩:=hrel;obtain⟨oa,om,oc,rfl⟩:=zG hO;have HG:=qg4 hG;have HO:=qg4 hO;have p6:=hG.size;by_cases hlt:k<l.length
  ·have d6:ldL gm l≠[]:=by intro e;have:=yZ gm l;rw[e] at this;simp at this;omega
   have d5:ldL gx l≠[]:=by intro e;have:=yZ gx l;rw[e] at this;simp at this;omega
   obtain⟨LB,lo',rfl,-,-,-,hL4⟩:=n8.out d6;obtain⟨MB,p3,rfl,-,-,-,g5⟩:=n7.out d5;have x1:=hG.cell (hL4 k hlt) (by simp);have x2:=hG.cell (g5 k hlt) (by simp);rw[JW gm l k hlt] at x1;rw[JW gx l k hlt] at x2;have HS:=qg4 (m6.out k hlt);generalize loadAt gm l k=p1 at x1 HS;generalize loadAt gx l k=p2 at x2 HS;have n9:(k:Int)<(l.length:Int):=by omega
   clear hL4 g5 d6 d5 hG hO;go_wp2_with (first
    | (at_builtin;go_must (refine qke _ rfl _ _ 48 rfl w6.heap.size 26 i0 _ 2 16 Tp.und48 m5 l7 l6 l5 rfl (by decide) (.slice oa om oc) k _ rfl (HO.out.alloc _) ⟨wr.heap.size,0,none⟩ 1 1 [.int .i64 p1,.int .i64 p2] rfl rfl (qhx (cs:=#[.int .i64 p1,.int .i64 p2]) (t:=26) (fr:=(0,0)) (qgg wr _)) (by simp[qid]) (by unfold qk9;omega) (by omega) (by simp;omega) ?_);intro v' w7 a6 b6 _;obtain⟨g',cap',rfl⟩:=ownsRow_succ a6;have n2:=qg4 a6;have n4:=qg4 b6;clear a6 b6))
   go_roundw
   case rel=>
    refine⟨k+1,by simp,by omega,(HG.out.trans (qg6 _ _ none)).andThen n4.out (λj e=>.inl (HO.out.lt j e).1),?_⟩;rw[HS.out];exact n2.out
   case measure=>simp[qhj];omega
  ·obtain rfl:k=l.length:=by omega
   clear hG hO;go_wp2;go_ret2;have h0:=HO.out;rw[show(yA ps l).take l.length=yA ps l from qmB (by simp[yA])] at h0;exact⟨_,rfl,k7.out.trans HG.out,(qN.own h0 (by rw[q59];omega)).mono k7.out.size (qg9 _)⟩
end
end Go.Proofs.YtidgnkmjgioapaaGreat
