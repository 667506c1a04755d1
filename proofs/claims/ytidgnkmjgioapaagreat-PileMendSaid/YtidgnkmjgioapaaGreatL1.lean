/-
  Part 3 of the proof. PileMend answers true for every list and keeps it. No conditions.
-/
import Derived.Test.YtidgnkmjgioapaaGreatChecked
import Derived.KernelRfl
import Derived.WalkKit
import Derived.WalkSpells
import Derived.WalkLawsBesides
import Derived.RegionTactic
import Derived.ChangeAlike
import Derived.Deep.QuietTactic
import Derived.BigQuiet
import Derived.OneCell
import Derived.Maps.AppendAt
import Derived.Lib.Hide
import Derived.Maps.Range
import Derived.Deep.AppendLies
import Derived.Deep.RegionHeld3
import Derived.Deep.RegionLawGrows
import Derived.LoopTactic
import Derived.Deep.DeepCutAuto
import Derived.LoopIn
import Derived.LoopNIn
import Derived.BigRegion
import Derived.Deep.RegionLaw
import Derived.Recover
import Derived.Defers
import Derived.Deep.OwnRows
import Derived.StillTail
import Derived.Maps.RangeWalk
import Derived.OrdersHeld
import Derived.RangeFuncNested
import Derived.RangeFuncBound
import Derived.RangeFuncCalls
import Derived.RangeFuncLeaves
import Derived.RangeFuncFrom
import Derived.OrdersIn
import Derived.TacticsIn
import Derived.Conc.WgGenN3
import Derived.Laws.StructEq
import Derived.RangeFuncBox
set_option maxRecDepth 100000
set_option maxHeartbeats 8000000
set_option linter.all false
open And renaming intro->qhb
open Array renaming all_eq_true_iff_forall_mem->qiv,getElem?_eq_some_iff->qgu,getElem?_modify->qld,getElem?_setIfInBounds->qhB,getElem?_setIfInBounds_ne->qi3,getElem?_setIfInBounds_self_of_lt->qjk,mem_of_getElem?->qiC,mem_toList_iff->qjl,replicate->qhC,replicate_succ->qhr,replicate_zero->qhs
open Bool renaming and_eq_true->qh9,false_eq_true->qho,not_eq_true'->qjz,not_true->qmw,or_eq_true->qju
open Go renaming Addr->qi2,Calls->qhx,Code->qj9,Oper->qiu,Operand->qhF,PanicEntry->qlC,Program->qgG,TypeId->qh5,TypeInfo->qli,Value->qgx,World->qgt,bodyPost_ret->qjD,bytes->qob,callsIn_wide->qjt,execOp->qk5,grownBy_putObj'->qko,heap_alloc_new->qgC,info_parts->qjy,madeCells->qmt,maxLen->qky,results->qk1,results_cell_tmp->qos,sizeOf->qnD,typeInfo->ql1,undef->qgz,underlying->qkc,wpAny_of_seq->qq7,wpList->qol,wpS_region->qoD,yielded->qjn,zeroValue->qlv
open Go.Addr renaming block->qoa
open Go.Builtin renaming append_->qlf,zeroCells->qjd
open Go.Calls renaming quiet_of_same->qiG
open Go.Instr renaming endRound->qjE,index->qn2,makeSlice->qnE,typeAssert->qkx
open Go.IntWalk renaming i64_in->qhm
open Go.Lib renaming hid->qgr
open Go.Proofs.Tryz renaming f10->qnd,f136->qnk,f137->qph,f54->qmx,f82->qpa,f85->qkw,ntmps109->qmy,ntmps110->qpw,ntmps161->qom,prog->qh3,results133->qqx,results161->qqw,t3->qq6,underlying29->qll
open Go.Region renaming Mode->qku,binds->qhH,chainB->qon,free->qqt,noSelect->qp0,ready->qh8,seqB->qlB,sinkB->qoE,wanted->qhD
open Go.Result renaming andThen->qml,andThen_ok->qix
open Go.RowKit renaming intOf->qia
open Go.RowKit.Below renaming heap_setCell->qic,refl->qn0
open Go.Sem renaming run_bind->qiw,run_pure->qnc
open Go.Value renaming int->qhe,oneCell'->qjh,ownBlock->qhp,slice->qhw
open Go.World renaming alloc_heap_new->qpb,cell?->qhu,cell?_setCell_other->qiB,cell?_setCell_same->qls,frozen?->qkr,grownBy_alloc->qgs,news_of_block->qit,ownsRow_nil->qjg,putObj_heap_other->qlz,putObj_heap_same->qlH,setCell->qja,size_alloc->qgF
open Go.World.grownBy renaming refl->qh6
open List renaming all_eq_true->qhE,append_toArray->qke,cons_append->qha,drop_eq_getElem_cons->qj7,drop_eq_nil_of_le->qkb,drop_succ_cons->qhA,drop_zero->qio,eq_nil_of_length_eq_zero->qhv,ext_getElem?->qlm,find?_eq_none->qlG,flatMap_cons->qjA,foldl_cons->qje,getElem?_append_left->qhh,getElem?_append_right->qid,getElem?_drop->qlE,getElem?_eq_getElem->qgB,getElem?_eq_none->qi5,getElem?_eq_some_iff->qh0,getElem?_map->qis,getElem?_of_mem->qnx,getElem?_range->qlt,getElem?_set_ne->qjq,getElem?_set_self->qks,getElem?_take->qlF,getElem?_take_of_lt->qjc,getElem?_toArray->qnf,getElem_mem->qly,length_append->qih,length_cons->qh1,length_drop->ql8,length_map->qk0,length_nil->qh7,length_set->qlh,map_cons->qjr,map_nil->qln,mem_append->qiF,mem_cons->qif,mem_map->qkn,mem_of_getElem?->qhc,mem_of_mem_take->qkE,mem_range->qj3,mem_singleton->qib,nil_append->qhn,not_mem_nil->qiD,perm_append_comm->qmd,push_toArray->qi1,range->qhl,range'->qnw,range_succ->qkG,set_append_left->qnz,size_toArray->qhk,take_add_one->qi7,take_length->qiy,take_of_length_le->qoC
open Nat renaming add_assoc->qmv,add_mul->qny,le_refl->qgw,le_trans->qgE,lt_of_lt_of_le->qh2,lt_or_ge->qiA,reduceAdd->qhj,reduceSub->qir,zero_add->qhd
open Option renaming getD_some->qgD,map_some->qij
open Option.some renaming injEq->qht
namespace Go.Proofs
section
open Go Go.RowKit
theorem qfb{Y:Type}(p q:qgG)(w:qgt)(r:Unsupported):(unsupported r:Sem Y).run p w=(unsupported r:Sem Y).run q w:=by unfold unsupported;rfl
section
variable(p q:qgG)(h:p.toTables=q.toTables)(w:qgt)(t:qh5)
include h
theorem JV:p.info? t=q.info? t:=congrArg (λT=>Tables.info? T t) h
theorem qc3:p.underlying t=q.underlying t:=by
 unfold Program.underlying;simp only[JV p q h]
theorem qc4:(ql1 t).run p w=(ql1 t).run q w:=by
 unfold ql1;show(match p.info? t with | some i=>(pure i:Sem qli) | none=>stuck "no such type").run p w=(match q.info? t with | some i=>(pure i:Sem qli) | none=>stuck "no such type").run q w;rw[JV p q h];cases q.info? t<;>rfl
theorem qe5:(qkc t).run p w=(qkc t).run q w:=by
 unfold qkc;show(match p.underlying t with | some i=>(pure i:Sem TypeDesc) | none=>stuck "no such type").run p w=(match q.underlying t with | some i=>(pure i:Sem TypeDesc) | none=>stuck "no such type").run q w;rw[qc3 p q h];cases q.underlying t<;>rfl
theorem qdx:(qnD t).run p w=(qnD t).run q w:=by
 unfold qnD;simp only[qiw,qc4 p q h];cases(ql1 t).run q w<;>rfl
theorem qdw:(qlv t).run p w=(qlv t).run q w:=by
 unfold qlv;simp only[qiw,qc4 p q h];cases hh:(ql1 t).run q w with
 | ok i w'=>
  simp only[qix];split
  ·rfl
  ·exact qfb p q w' _
 | _=>simp only[qml]
theorem qfc:(isAgg t).run p w=(isAgg t).run q w:=by
 unfold isAgg;simp only[qiw,qe5 p q h];cases hh:(qkc t).run q w with
 | ok i w'=>
  simp only[qix];split<;>simp only[qnc]
 | _=>simp only[qml]
end
noncomputable def Ya:qgG:={ qh3 with funcs:=Tryz.prog.funcs.setIfInBounds 85 { qkw with body:=some (.exit 0) } }
section
variable(w:qgt)(t:qh5)
@[simp] theorem Tp.tables:Ya.toTables=Tryz.prog.toTables:=rfl
@[simp] theorem Tp.und:Ya.underlying t=Tryz.prog.underlying t:=qc3 _ _ Tp.tables t
@[simp] theorem Tp.rTypeInfo:(ql1 t).run Ya w=(ql1 t).run qh3 w:=qc4 _ _ Tp.tables w t
@[simp] theorem Tp.rUnder:(qkc t).run Ya w=(qkc t).run qh3 w:=qe5 _ _ Tp.tables w t
@[simp] theorem Tp.rSizeOf:(qnD t).run Ya w=(qnD t).run qh3 w:=qdx _ _ Tp.tables w t
@[simp] theorem Tp.rIsAgg:(isAgg t).run Ya w=(isAgg t).run qh3 w:=qfc _ _ Tp.tables w t
@[simp] theorem Tp.rZero:(qlv t).run Ya w=(qlv t).run qh3 w:=qdw _ _ Tp.tables w t
end
end
section
open Go Go.RowKit
abbrev Yc (f:Nat)(g:Func):Prop:=Ya.funcs[f]?=some g
abbrev Ye (f:Nat):Prop:=∀(a:Array qgx) (w:qgt),(callFunc f a).run Ya w=.ok (.enter f a) w
theorem Yf(f:Nat)(h:(match Ya.funcs[f]? with | some g=>!(g.name == "runtime.NumGoroutine") && g.body.isSome | none=>false)=true:=by kernel_rfl):Ye f:=by
 intro a w;cases e:Ya.funcs[f]? with
 | none=>rw[e] at h;cases h
 | some g=>
  rw[e] at h;simp only[qh9,qjz] at h;have h1:g.name ≠ "runtime.NumGoroutine" := λhe=>by rw[he] at h;exact absurd h.1 (by decide)
  have h2:g.body≠none:=λhe=>by rw[he] at h;cases h.2
  simp[callFunc,go_sem,e,h1,h2]
theorem Yd{f:Nat}{g:Func}(h:Ya.funcs[f]?=some g:=by kernel_rfl):Yc f g:=h
theorem Tp.x10:Yc 10 qnd:=Yd
theorem Tp.x23:Yc 23 Tryz.f23:=Yd
theorem Tp.x24:Yc 24 Tryz.f24:=Yd
theorem Tp.x28:Yc 28 Tryz.f28:=Yd
theorem Tp.x29:Yc 29 Tryz.f29:=Yd
theorem Tp.x31:Yc 31 Tryz.f31:=Yd
theorem Tp.x33:Yc 33 Tryz.f33:=Yd
theorem Tp.x34:Yc 34 Tryz.f34:=Yd
theorem Tp.x35:Yc 35 Tryz.f35:=Yd
theorem Tp.x36:Yc 36 Tryz.f36:=Yd
theorem Tp.x37:Yc 37 Tryz.f37:=Yd
theorem Tp.x39:Yc 39 Tryz.f39:=Yd
theorem Tp.x40:Yc 40 Tryz.f40:=Yd
theorem Tp.x44:Yc 44 Tryz.f44:=Yd
theorem Tp.x45:Yc 45 Tryz.f45:=Yd
theorem Tp.x47:Yc 47 Tryz.f47:=Yd
theorem Tp.x51:Yc 51 Tryz.f51:=Yd
theorem Tp.x52:Yc 52 Tryz.f52:=Yd
theorem Tp.x54:Yc 54 qmx:=Yd
theorem Tp.x56:Yc 56 Tryz.f56:=Yd
theorem Tp.x58:Yc 58 Tryz.f58:=Yd
theorem Tp.x62:Yc 62 Tryz.f62:=Yd
theorem Tp.x63:Yc 63 Tryz.f63:=Yd
theorem Tp.x65:Yc 65 Tryz.f65:=Yd
theorem Tp.x68:Yc 68 Tryz.f68:=Yd
theorem Tp.x69:Yc 69 Tryz.f69:=Yd
theorem Tp.x70:Yc 70 Tryz.f70:=Yd
theorem Tp.x72:Yc 72 Tryz.f72:=Yd
theorem Tp.x80:Yc 80 Tryz.f80:=Yd
theorem Tp.x81:Yc 81 Tryz.f81:=Yd
theorem Tp.x82:Yc 82 qpa:=Yd
theorem Tp.x83:Yc 83 Tryz.f83:=Yd
theorem Tp.x84:Yc 84 Tryz.f84:=Yd
theorem Tp.x90:Yc 90 Tryz.f90:=Yd
theorem Tp.x91:Yc 91 Tryz.f91:=Yd
theorem Tp.x92:Yc 92 Tryz.f92:=Yd
theorem Tp.x93:Yc 93 Tryz.f93:=Yd
theorem Tp.x94:Yc 94 Tryz.f94:=Yd
theorem Tp.x95:Yc 95 Tryz.f95:=Yd
theorem Tp.x96:Yc 96 Tryz.f96:=Yd
theorem Tp.x98:Yc 98 Tryz.f98:=Yd
theorem Tp.x99:Yc 99 Tryz.f99:=Yd
theorem Tp.x100:Yc 100 Tryz.f100:=Yd
theorem Tp.x101:Yc 101 Tryz.f101:=Yd
theorem Tp.x102:Yc 102 Tryz.f102:=Yd
theorem Tp.x103:Yc 103 Tryz.f103:=Yd
theorem Tp.x109:Yc 109 Tryz.f109:=Yd
theorem Tp.x110:Yc 110 Tryz.f110:=Yd
theorem Tp.x112:Yc 112 Tryz.f112:=Yd
theorem Tp.x113:Yc 113 Tryz.f113:=Yd
theorem Tp.x114:Yc 114 Tryz.f114:=Yd
theorem Tp.x117:Yc 117 Tryz.f117:=Yd
theorem Tp.x120:Yc 120 Tryz.f120:=Yd
theorem Tp.x121:Yc 121 Tryz.f121:=Yd
theorem Tp.x122:Yc 122 Tryz.f122:=Yd
theorem Tp.x123:Yc 123 Tryz.f123:=Yd
theorem Tp.x125:Yc 125 Tryz.f125:=Yd
theorem Tp.x126:Yc 126 Tryz.f126:=Yd
theorem Tp.x129:Yc 129 Tryz.f129:=Yd
theorem Tp.x133:Yc 133 Tryz.f133:=Yd
theorem Tp.x134:Yc 134 Tryz.f134:=Yd
theorem Tp.x135:Yc 135 Tryz.f135:=Yd
theorem Tp.x136:Yc 136 qnk:=Yd
theorem Tp.x137:Yc 137 qph:=Yd
theorem Tp.x145:Yc 145 Tryz.f145:=Yd
theorem Tp.x147:Yc 147 Tryz.f147:=Yd
theorem Tp.x149:Yc 149 Tryz.f149:=Yd
theorem Tp.x150:Yc 150 Tryz.f150:=Yd
theorem Tp.x151:Yc 151 Tryz.f151:=Yd
theorem Tp.x152:Yc 152 Tryz.f152:=Yd
theorem Tp.x153:Yc 153 Tryz.f153:=Yd
theorem Tp.x154:Yc 154 Tryz.f154:=Yd
theorem Tp.x155:Yc 155 Tryz.f155:=Yd
theorem Tp.x156:Yc 156 Tryz.f156:=Yd
theorem Tp.x157:Yc 157 Tryz.f157:=Yd
theorem Tp.x160:Yc 160 Tryz.f160:=Yd
theorem Tp.x161:Yc 161 Tryz.f161:=Yd
theorem Tp.x162:Yc 162 Tryz.f162:=Yd
theorem Tp.x163:Yc 163 Tryz.f163:=Yd
theorem Tp.x164:Yc 164 Tryz.f164:=Yd
theorem Tp.x165:Yc 165 Tryz.f165:=Yd
theorem Tp.x188:Yc 188 Tryz.f188:=Yd
theorem Tp.x197:Yc 197 Tryz.f197:=Yd
theorem Tp.x198:Yc 198 Tryz.f198:=Yd
theorem Tp.x199:Yc 199 Tryz.f199:=Yd
@[simp] theorem Tp.callPf:Ye 24/\Ye 28/\Ye 31/\Ye 33/\Ye 34/\Ye 35/\Ye 36/\Ye 37/\Ye 39/\Ye 40/\Ye 44/\Ye 45/\Ye 47/\Ye 51/\Ye 52/\Ye 54/\Ye 56/\Ye 58/\Ye 62/\Ye 63/\Ye 65/\Ye 68/\Ye 69/\Ye 70/\Ye 72/\Ye 80/\Ye 81/\Ye 82/\Ye 84/\Ye 90/\Ye 91/\Ye 92/\Ye 93/\Ye 94/\Ye 95/\Ye 96/\Ye 98/\Ye 99/\Ye 100/\Ye 102/\Ye 103/\Ye 109/\Ye 110/\Ye 112/\Ye 113/\Ye 114/\Ye 117/\Ye 121/\Ye 122/\Ye 123/\Ye 125/\Ye 126/\Ye 129/\Ye 133/\Ye 134/\Ye 135/\Ye 136/\Ye 145/\Ye 147/\Ye 150/\Ye 151/\Ye 152/\Ye 153/\Ye 154/\Ye 155/\Ye 156/\Ye 157/\Ye 160/\Ye 161/\Ye 162/\Ye 163/\Ye 164/\Ye 188/\Ye 197/\Ye 198/\Ye 199:=⟨Yf 24,Yf 28,Yf 31,Yf 33,Yf 34,Yf 35,Yf 36,Yf 37,Yf 39,Yf 40,Yf 44,Yf 45,Yf 47,Yf 51,Yf 52,Yf 54,Yf 56,Yf 58,Yf 62,Yf 63,Yf 65,Yf 68,Yf 69,Yf 70,Yf 72,Yf 80,Yf 81,Yf 82,Yf 84,Yf 90,Yf 91,Yf 92,Yf 93,Yf 94,Yf 95,Yf 96,Yf 98,Yf 99,Yf 100,Yf 102,Yf 103,Yf 109,Yf 110,Yf 112,Yf 113,Yf 114,Yf 117,Yf 121,Yf 122,Yf 123,Yf 125,Yf 126,Yf 129,Yf 133,Yf 134,Yf 135,Yf 136,Yf 145,Yf 147,Yf 150,Yf 151,Yf 152,Yf 153,Yf 154,Yf 155,Yf 156,Yf 157,Yf 160,Yf 161,Yf 162,Yf 163,Yf 164,Yf 188,Yf 197,Yf 198,Yf 199⟩
end
end Go.Proofs
namespace Go.Proofs.YtidgnkmjgioapaaGreat
section
open Go.RowKit
theorem qj{w:qgt}{b:Nat}{cs:Array qgx}{e:qh5}{o:Nat}{v:qgx}(h:w.heap[b]?=some (.cells cs e (0,0))) :(w.setCell ⟨b,o,none⟩ v).heap[b]?=some (.cells (cs.setIfInBounds o v) e (0,0)):=by
 simp[qja,qld,h]
theorem qh(w:qgt)(b o:Nat)(v:qgx):w.grownBy (w.setCell ⟨b,o,none⟩ v) (some b) :=
 ⟨rfl,rfl,rfl,by simp[qja],λk _ hk=>qic _ _ _ _ (λe=>hk (by rw[e]))⟩
theorem qk(w:qgt)(n:Nat)(row:Option Nat):w.grownBy (w.drewN n) row:=⟨rfl,rfl,rfl,qgw _,λ_ _ _=>rfl⟩
theorem qg(w:qgt)(row:Option Nat):w.grownBy w.drew row:=⟨rfl,rfl,rfl,qgw _,λ_ _ _=>rfl⟩
theorem blk{w w':qgt}{row:Option Nat}{X:Nat}{o:Obj}(hg:w.grownBy w' row)(hne:some X≠row)(h:w.heap[X]?=some o):w'.heap[X]?=some o :=
 (hg.block X (qgu.1 h).1 hne).trans h
theorem qr{w:qgt}{X:Nat}{o p:Obj}(h:w.heap[X]?=some o):(w.alloc p).heap[X]?=some o:=blk (qgs w p none) (by simp) h
theorem q9{w:qgt}{Q o ty:Nat}{cs:Array qgx}{fr:Nat × Nat}{v:qgx}(h:w.heap[Q]?=some (.cells cs ty fr))(hv:cs[o]?=some v):w.cell? ⟨Q,o,none⟩=some v:=by simp[qhu,h,hv]
theorem qq{w:qgt}{Q o ty:Nat}{cs:Array qgx}(h:w.heap[Q]?=some (.cells cs ty (0,0))):w.frozen? ⟨Q,o,none⟩=false:=by simp[qkr,h]
theorem kE(w:qgt)(cs:Array qgx)(ty:qh5)(k:Nat):(w.alloc (.cells cs ty)).cell? ⟨w.heap.size,k,none⟩=cs[k]?:=by
 unfold qhu;rw[show(w.alloc (.cells cs ty)).heap[(⟨w.heap.size,k,none⟩:qi2).block]?=some (.cells cs ty) from qgC w _];simp
def qe(lo hi:Nat)(w:qgt)(v:qgx)(l:List Int):Prop :=
 ∃base cap,v=.slice base l.length cap/\(l.length:Int)<=1000000 /\
  (l≠[]->∃B o cs fr,base=some ⟨B,o,none⟩/\lo<=B/\B<hi/\w.heap[B]?=some (.cells cs 3 fr)/\∀i,i<l.length->cs[o+i]?=some (.int .i64 (l[i]?.getD 0)))
theorem qe.nil(lo hi:Nat)(w:qgt):qe lo hi w (.slice none 0 0) []:=⟨none,0,rfl,by decide,λh=>absurd rfl h⟩
theorem qe.mono{lo hi lo' a6:Nat}{w:qgt}{v:qgx}{l:List Int}(h:qe lo hi w v l)(h1:lo'<=lo)(h2:hi<=a6):qe lo' a6 w v l:=by
 obtain⟨base,cap,rfl,hl,hr⟩:=h;refine⟨base,cap,rfl,hl,λhne=>?_⟩;obtain⟨B,o,cs,fr,e1,e2,e3,e4,e5⟩:=hr hne;exact⟨B,o,cs,fr,e1,by omega,by omega,e4,e5⟩
theorem qe.kept{lo hi:Nat}{w w':qgt}{v:qgx}{l:List Int}{row:Option Nat}(h:qe lo hi w v l)(hg:w.grownBy w' row)(hr:∀R,row=some R->R<lo\/hi<=R):qe lo hi w' v l:=by
 obtain⟨base,cap,rfl,hl,hr'⟩:=h;refine⟨base,cap,rfl,hl,λhne=>?_⟩;obtain⟨B,o,cs,fr,e1,e2,e3,e4,e5⟩:=hr' hne;exact⟨B,o,cs,fr,e1,e2,e3,blk hg (λe=>by have:=hr B e.symm;omega) e4,e5⟩
theorem qe.alloc{lo hi:Nat}{w:qgt}{v:qgx}{l:List Int}(h:qe lo hi w v l)(o:Obj):qe lo hi (w.alloc o) v l:=h.kept (qgs w o none) (by simp)
theorem qe.own{lo n:Nat}{w:qgt}{v:qgx}{l:List Int}(h:w.ownsRow lo 3 1 v n (l.map (qhe .i64)))(hl:(l.length:Int)<=1000000):qe lo w.heap.size w v l:=by
 obtain⟨h1,h2⟩:=h;have hn:l.length=n:=by simpa using h1
 subst hn;rcases h2 with⟨rfl,h0⟩ | ⟨g,cap,cur,rfl,hb,hg,hc,hm,hs,ht⟩
 ·exact⟨none,0,by rw[h0],hl,λhne=>absurd (qhv h0) hne⟩
 ·refine⟨_,cap,rfl,hl,λ_=>⟨g,0,cur,(0,0),rfl,hb,(qgu.1 hg).1,hg,λi hi=>?_⟩⟩;have h3:(cur.toList.take (l.length*1))[i]?=some (.int .i64 (l[i]?.getD 0)):=by
   rw[ht];simp[qgB hi]
  rw[qlF] at h3;simpa[hi] using h3
theorem qe.cell{lo hi:Nat}{w:qgt}{v:qgx}{l:List Int}(h:qe lo hi w v l):∃base cap,v=.slice base l.length cap/\(l.length:Int)<=1000000 /\(l≠[]->∃B o,base=some ⟨B,o,none⟩/\lo<=B/\B<hi/\B<w.heap.size/\∀i,i<l.length->w.cell? ⟨B,o+i,none⟩=some (.int .i64 (l[i]?.getD 0))):=by
 obtain⟨base,cap,rfl,hl,hr'⟩:=h;refine⟨base,cap,rfl,hl,λhne=>?_⟩;obtain⟨B,o,cs,fr,e1,e2,e3,e4,e5⟩:=hr' hne;exact⟨B,o,e1,e2,e3,(qgu.1 e4).1,λi hi=>by simp[qhu,e4,e5 i hi]⟩
def qG(g:Nat->Int):Obj:=.cells #[.int .i64 (g 0),.int .i64 (g 1),.int .i64 (g 2),.int .i64 (g 3),.int .i64 (g 4)] 101 (0,0)
theorem xU{w:qgt}{A:Nat}{g:Nat->Int}{e:Nat}{v:Int}(h:w.heap[A]?=some (qG g))(he:e<5):(w.setCell ⟨A,e,none⟩ (.int .i64 v)).heap[A]?=some (qG λd=>if d=e then v else g d):=by
 unfold qG at h ⊢;rw[qj h];obtain rfl | rfl | rfl | rfl | rfl:e=0\/e=1\/e=2\/e=3\/e=4:=by omega
 all_goals simp
theorem qn{w:qgt}{A:Nat}{g:Nat->Int}{e:Nat}(h:w.heap[A]?=some (qG g))(he:e<5):w.cell? ⟨A,e,none⟩=some (.int .i64 (g e)):=by
 unfold qG at h;obtain rfl | rfl | rfl | rfl | rfl:e=0\/e=1\/e=2\/e=3\/e=4:=by omega
 all_goals simp[qhu,h]
theorem jr{w:qgt}{A:Nat}{g:Nat->Int}(h:w.heap[A]?=some (qG g))(e:Nat):w.frozen? ⟨A,e,none⟩=false:=by
 unfold qG at h;simp[qkr,h]
theorem yw{g g':Nat->Int}(h:∀d,d<5->g d=g' d):qG g=qG g':=by
 unfold qG;rw[h 0 (by omega),h 1 (by omega),h 2 (by omega),h 3 (by omega),h 4 (by omega)]
structure Par where
 mn:Int
 mx:Int
 bears:Int
 tall:Int
deriving DecidableEq
def qw(lo hi:Nat)(w:qgt)(v:qgx)(ps:List Par):Prop :=
 ∃base cap,v=.slice base ps.length cap/\(ps.length:Int)<=1000000 /\
  (ps≠[]->∃B o cs fr,base=some ⟨B,o,none⟩/\lo<=B/\B<hi/\w.heap[B]?=some (.cells cs 28 fr) /\
   ∀i,i<ps.length->∃p,ps[i]?=some p/\cs[o+i*4]?=some (.int .i64 p.mn)/\cs[o+(i*4+1)]?=some (.int .i64 p.mx)/\cs[o+(i*4+2)]?=some (.int .i64 p.bears)/\cs[o+(i*4+3)]?=some (.int .i64 p.tall))
theorem qw.kept{lo hi:Nat}{w w':qgt}{v:qgx}{ps:List Par}{row:Option Nat}(h:qw lo hi w v ps)(hg:w.grownBy w' row)(hr:∀R,row=some R->R<lo\/hi<=R):qw lo hi w' v ps:=by
 obtain⟨base,cap,rfl,hl,hr'⟩:=h;refine⟨base,cap,rfl,hl,λhne=>?_⟩;obtain⟨B,o,cs,fr,e1,e2,e3,e4,e5⟩:=hr' hne;exact⟨B,o,cs,fr,e1,e2,e3,blk hg (λe=>by have:=hr B e.symm;omega) e4,e5⟩
theorem qw.alloc{lo hi:Nat}{w:qgt}{v:qgx}{ps:List Par}(h:qw lo hi w v ps)(o:Obj):qw lo hi (w.alloc o) v ps:=h.kept (qgs w o none) (by simp)
theorem qw.mono{lo hi lo' a6:Nat}{w:qgt}{v:qgx}{ps:List Par}(h:qw lo hi w v ps)(h1:lo'<=lo)(h2:hi<=a6):qw lo' a6 w v ps:=by
 obtain⟨base,cap,rfl,hl,hr⟩:=h;refine⟨base,cap,rfl,hl,λhne=>?_⟩;obtain⟨B,o,cs,fr,e1,e2,e3,e4,e5⟩:=hr hne;exact⟨B,o,cs,fr,e1,by omega,by omega,e4,e5⟩
theorem qw.cell{lo hi:Nat}{w:qgt}{v:qgx}{ps:List Par}(h:qw lo hi w v ps):∃base cap,v=.slice base ps.length cap/\(ps.length:Int)<=1000000 /\(ps≠[]->∃B o,base=some ⟨B,o,none⟩/\lo<=B/\B<hi/\B<w.heap.size/\∀i,i<ps.length->∃p,ps[i]?=some p/\w.cell? ⟨B,o+i*4,none⟩=some (.int .i64 p.mn)/\w.cell? ⟨B,o+i*4+1,none⟩=some (.int .i64 p.mx)/\w.cell? ⟨B,o+i*4+2,none⟩=some (.int .i64 p.bears)/\w.cell? ⟨B,o+i*4+3,none⟩=some (.int .i64 p.tall)):=by
 obtain⟨base,cap,rfl,hl,hr'⟩:=h;refine⟨base,cap,rfl,hl,λhne=>?_⟩;obtain⟨B,o,cs,fr,e1,e2,e3,e4,e5⟩:=hr' hne;refine⟨B,o,e1,e2,e3,(qgu.1 e4).1,λi hi=>?_⟩;obtain⟨p,h0,h1,h2,h3,h4⟩:=e5 i hi;exact⟨p,h0,by simp[qhu,e4,h1],by simp[qhu,e4,qmv,h2],by simp[qhu,e4,qmv,h3],by simp[qhu,e4,qmv,h4]⟩
def jo(lo hi:Nat)(w:qgt)(v:qgx)(ps:List Par)(lim:Int):Prop:=∃pv,v=.agg #[pv,.int .i64 lim]/\qw lo hi w pv ps
def wts(g:Nat->Int):qgx:=.agg #[.int .i64 (g 0),.int .i64 (g 1),.int .i64 (g 2),.int .i64 (g 3),.int .i64 (g 4)]
def ZQ(l:List Int):Int:=l.foldl (·+·) 0
theorem KZ(l:List Int)(k:Nat)(x:Int)(h:l[k]?=some x):ZQ (l.take (k+1))=ZQ (l.take k)+x:=by
 rw[qi7,h];simp[ZQ]
theorem qcl(lo hi:Nat)(v:qgx)(l:List Int)(w:qgt)(hI:qe lo hi w v l)(hs:∀k,k<=l.length->-1000000000<=ZQ (l.take k)/\ZQ (l.take k)<=1000000000) :qhx Ya 145 #[v] w λe w'=>e=.returned (.int .i64 (ZQ l))/\w=w':=by
 obtain⟨base,cap,rfl,hl,hc⟩:=hI.cell;have HC:=qgr hc;have HS:=qgr hs;clear hc hs hI;go_enter Tp.x145,Tryz.ntmps145;go_wp2;go_loopw [3,8] (λa i wr=>∃k:Nat,i=.int .i64 k/\k<=l.length/\a=.int .i64 (ZQ (l.take k))/\w=wr) (λ_ i _=>(l.length - qia i).toNat)
 case atStart=>exact⟨0,rfl,by omega,by simp[ZQ],rfl⟩
 case round=>
  obtain⟨k,rfl,hk,rfl,rfl⟩:=hrel;by_cases hlt:k<l.length
  ·obtain⟨B,o,rfl,b0,a9,a8,a6⟩:=HC.out (by intro e;rw[e] at hlt;simp at hlt);have hk':=a6 k hlt;have h1:=HS.out k (by omega);have h2:=HS.out (k+1) (by omega);have hx:l[k]?=some (l[k]?.getD 0):=by simp[qgB hlt]
   rw[KZ l k _ hx] at h2;have hst:=KZ l k _ hx;generalize l[k]?.getD 0=x at hk' h2 hst;generalize ZQ (l.take k)=s at h1 h2 hst;have a7:=qgr hst;clear a6 hx hst;go_wp2;go_roundw
   case rel=>exact⟨k+1,by simp,by omega,by rw[a7.out],by first | rfl | trivial⟩
   case measure=>simp[qia];omega
  ·obtain rfl:k=l.length:=by omega
   go_wp2;go_ret;exact⟨by simp,rfl⟩
def pre(f:Par->Int)(ps:List Par)(k:Nat):Nat->Int:=λi=>if i<k then(match ps[i]? with | some p=>f p | none=>0) else 0
theorem q36(f:Par->Int)(ps:List Par)(k:Nat)(p:Par)(h:ps[k]?=some p)(d:Nat):pre f ps (k+1) d=if d=k then f p else pre f ps k d:=by
 unfold pre;by_cases e:d=k
 ·subst e;simp[h]
 ·by_cases e2:d<k
  ·rw[if_pos (by omega),if_neg e,if_pos e2]
  ·rw[if_neg (by omega),if_neg e,if_neg e2]
theorem Qu(lo hi:Nat)(v:qgx)(ps:List Par)(lim:Int)(w:qgt)(hY:jo lo hi w v ps lim)(hhi:hi<=w.heap.size)(h5:ps.length<=5) :qhx Ya 93 #[v] w λe w'=>e=.returned (wts (pre Par.mn ps ps.length))/\w.grownBy w' none:=by
 obtain⟨pv,rfl,hP⟩:=hY;obtain⟨base,cap,rfl,hl,-⟩:=hP.cell;obtain⟨A,hA⟩:∃A,A=w.heap.size:=⟨_,rfl⟩;have HP:=qgr hP;clear hP;go_enter Tp.x93,Tryz.ntmps93;go_upto_region 2 with(fail);have hG:w.grownBy (((w.alloc (.cells #[.slice base ps.length cap,.int .i64 lim] 91)).alloc (qG λ_=>0)).alloc (qG λ_=>0)) none:=((qgs _ _ none).trans (qgs _ _ none)).trans (qgs _ _ none);have hY:(((w.alloc (.cells #[.slice base ps.length cap,.int .i64 lim] 91)).alloc (qG λ_=>0)).alloc (qG λ_=>0)).cell? ⟨A,0,none⟩=some (.slice base ps.length cap):=q9 (qr (qr (by rw[hA];exact qgC w _))) rfl;have hR:(((w.alloc (.cells #[.slice base ps.length cap,.int .i64 lim] 91)).alloc (qG λ_=>0)).alloc (qG λ_=>0)).heap[A+1]?=some (qG λ_=>0):=qr (by
  have:=qgC (w.alloc (.cells #[.slice base ps.length cap,.int .i64 lim] 91)) (qG λ_=>0);rw[qgF,<- hA] at this;exact this)
 have hW:(((w.alloc (.cells #[.slice base ps.length cap,.int .i64 lim] 91)).alloc (qG λ_=>0)).alloc (qG λ_=>0)).heap[A+2]?=some (qG λ_=>0):=by
  have:=qgC ((w.alloc (.cells #[.slice base ps.length cap,.int .i64 lim] 91)).alloc (qG λ_=>0)) (qG λ_=>0);rw[qgF,qgF,<- hA] at this;exact this
 rw[<- hA];show Code.wp _ _ _ _ (((w.alloc (.cells #[.slice base ps.length cap,.int .i64 lim] 91)).alloc (qG λ_=>0)).alloc (qG λ_=>0));have c3:A+2<(((w.alloc (.cells #[.slice base ps.length cap,.int .i64 lim] 91)).alloc (qG λ_=>0)).alloc (qG λ_=>0)).heap.size:=(qgu.1 hW).1;generalize (((w.alloc (.cells #[.slice base ps.length cap,.int .i64 lim] 91)).alloc (qG λ_=>0)).alloc (qG λ_=>0))=w1 at hG hY hR hW c3 ⊢;have e7:hi<=A:=by omega
 obtain⟨D,hD⟩:∃D,D=A+2:=⟨_,rfl⟩;obtain⟨R,a8⟩:∃R,R=A+1:=⟨_,rfl⟩;rw[show A+1+1=A+2 from rfl,<- hD,<- a8];rw[<- hD] at hW c3;rw[<- a8] at hR;have e5:=qgr (HP.out.kept hG (by simp));have HG:=qgr hG;have HR:=qgr hR;have HW:=qgr hW;have hne:¬ R=D:=by omega
 have g9:¬ A=D:=by omega
 have g8:A<=R/\A<=D:=by omega
 have HA:=qgr hA;have b8:hi<=D:=by omega
 clear hG hR hW hA HP hD a8;go_wp2;go_loopw [10] (λi wr=>∃k:Nat,i=.int .i64 k/\k<=ps.length/\w1.grownBy wr (some D)/\wr.heap[D]?=some (qG (pre Par.mn ps k))) (λi _=>(ps.length - qia i).toNat)
 case atStart=>exact⟨0,rfl,by omega,qh6 _ _,by rw[HW.out];congr 1⟩
 case round=>
  obtain⟨k,rfl,hk,hG,hB⟩:=hrel;have e9:D<wr.heap.size:=(qgu.1 hB).1;have a9:=e5.out.kept hG (by rintro R e;cases e;exact .inr b8);have e8:=hG.cell hY (by simp;omega);have c8:=qgr hG;have HB:=qgr hB;by_cases hlt:k<ps.length
  ·obtain⟨d6,cap',he,-,hcell⟩:=a9.cell;cases he;obtain⟨B,o,rfl,g7,g6,g5,b9⟩:=hcell (by intro e;rw[e] at hlt;simp at hlt);obtain⟨p,hp,q0,q1,q2,q3⟩:=b9 k hlt;have d5:=qn hB (show k<5 by omega);have h8:=jr hB k;have e4:=qgr hp;have c9:k<5:=by omega
   generalize pre Par.mn ps k k=y at d5;clear b9 hcell a9 hG hB hp;go_wp2;go_roundw
   case rel=>
    refine⟨k+1,by simp,by omega,(c8.out.trans (qh _ _ _ _)).trans (qgs _ _ _),?_⟩;rw[qr (xU HB.out c9)]
    congr 1
    exact yw λd _=>(q36 _ _ _ _ e4.out d).symm
   case measure=>simp[qia];omega
  ·obtain rfl:k=ps.length:=by omega
   have a6:=blk hG (by simp;omega) HR.out;have a0:=qn hB (show 0<5 by omega);have a1:=qn hB (show 1<5 by omega);have a2:=qn hB (show 2<5 by omega);have a3:=qn hB (show 3<5 by omega);have a4:=qn hB (show 4<5 by omega);have b0:=qn a6 (show 0<5 by omega);have b1:=qn a6 (show 1<5 by omega);have b2:=qn a6 (show 2<5 by omega);have b3:=qn a6 (show 3<5 by omega);have b4:=qn a6 (show 4<5 by omega);have fz:=jr a6;have h9:=qgr a6;have d8:=qgr (show wts (pre Par.mn ps ps.length)=.agg #[.int .i64 (pre Par.mn ps ps.length 0),.int .i64 (pre Par.mn ps ps.length 1),.int .i64 (pre Par.mn ps ps.length 2),.int .i64 (pre Par.mn ps ps.length 3),.int .i64 (pre Par.mn ps ps.length 4)] from rfl);generalize pre Par.mn ps ps.length 0=g0 at *
   generalize pre Par.mn ps ps.length 1=g1 at *
   generalize pre Par.mn ps ps.length 2=g2 at *
   generalize pre Par.mn ps ps.length 3=g3 at *
   generalize pre Par.mn ps ps.length 4=g4 at *
   obtain⟨W,a7⟩:∃W,W=((((wr.setCell ⟨R,0,none⟩ (.int .i64 g0)).setCell ⟨R,1,none⟩ (.int .i64 g1)).setCell ⟨R,2,none⟩ (.int .i64 g2)).setCell ⟨R,3,none⟩ (.int .i64 g3)).setCell ⟨R,4,none⟩ (.int .i64 g4):=⟨_,rfl⟩;have b6:W.heap[R]?=some (.cells #[.int .i64 g0,.int .i64 g1,.int .i64 g2,.int .i64 g3,.int .i64 g4] 101 (0,0)):=by
    rw[a7,qj (qj (qj (qj (qj a6))))];rfl
   have b7:w.grownBy W none:=(HG.out.andThen c8.out (by rintro j e;cases e;exact .inl (by have:=HA.out;omega))).andThen (row':=some R)
    (by rw[a7];exact((((qh _ _ _ _).trans (qh _ _ _ _)).trans (qh _ _ _ _)).trans (qh _ _ _ _)).trans (qh _ _ _ _)) (by rintro j e;cases e;exact .inl (by have:=HA.out;omega))
   have d9:=qgr b6;have e6:=qgr b7;have d7:=qgr a7;clear a6 hG hB a9 hlt b6 b7 a7;go_wp2;rw[<- d7.out,d8.out];exact qjD (v:=.agg #[.int .i64 g0,.int .i64 g1,.int .i64 g2,.int .i64 g3,.int .i64 g4]) (by simp[qk1,Tryz.results93,go_sem,qhu,d9.out]) rfl ⟨rfl,e6.out⟩
theorem xZ(lo hi:Nat)(v:qgx)(ps:List Par)(lim:Int)(w:qgt)(hY:jo lo hi w v ps lim)(hhi:hi<=w.heap.size)(h5:ps.length<=5) :qhx Ya 92 #[v] w λe w'=>e=.returned (wts (pre Par.mx ps ps.length))/\w.grownBy w' none:=by
 obtain⟨pv,rfl,hP⟩:=hY;obtain⟨base,cap,rfl,hl,-⟩:=hP.cell;obtain⟨A,hA⟩:∃A,A=w.heap.size:=⟨_,rfl⟩;have HP:=qgr hP;clear hP;go_enter Tp.x92,Tryz.ntmps92;go_upto_region 2 with(fail);have hG:w.grownBy (((w.alloc (.cells #[.slice base ps.length cap,.int .i64 lim] 91)).alloc (qG λ_=>0)).alloc (qG λ_=>0)) none:=((qgs _ _ none).trans (qgs _ _ none)).trans (qgs _ _ none);have hY:(((w.alloc (.cells #[.slice base ps.length cap,.int .i64 lim] 91)).alloc (qG λ_=>0)).alloc (qG λ_=>0)).cell? ⟨A,0,none⟩=some (.slice base ps.length cap):=q9 (qr (qr (by rw[hA];exact qgC w _))) rfl;have hR:(((w.alloc (.cells #[.slice base ps.length cap,.int .i64 lim] 91)).alloc (qG λ_=>0)).alloc (qG λ_=>0)).heap[A+1]?=some (qG λ_=>0):=qr (by
  have:=qgC (w.alloc (.cells #[.slice base ps.length cap,.int .i64 lim] 91)) (qG λ_=>0);rw[qgF,<- hA] at this;exact this)
 have hW:(((w.alloc (.cells #[.slice base ps.length cap,.int .i64 lim] 91)).alloc (qG λ_=>0)).alloc (qG λ_=>0)).heap[A+2]?=some (qG λ_=>0):=by
  have:=qgC ((w.alloc (.cells #[.slice base ps.length cap,.int .i64 lim] 91)).alloc (qG λ_=>0)) (qG λ_=>0);rw[qgF,qgF,<- hA] at this;exact this
 rw[<- hA];show Code.wp _ _ _ _ (((w.alloc (.cells #[.slice base ps.length cap,.int .i64 lim] 91)).alloc (qG λ_=>0)).alloc (qG λ_=>0));have c3:A+2<(((w.alloc (.cells #[.slice base ps.length cap,.int .i64 lim] 91)).alloc (qG λ_=>0)).alloc (qG λ_=>0)).heap.size:=(qgu.1 hW).1;generalize (((w.alloc (.cells #[.slice base ps.length cap,.int .i64 lim] 91)).alloc (qG λ_=>0)).alloc (qG λ_=>0))=w1 at hG hY hR hW c3 ⊢;have e7:hi<=A:=by omega
 obtain⟨D,hD⟩:∃D,D=A+2:=⟨_,rfl⟩;obtain⟨R,a8⟩:∃R,R=A+1:=⟨_,rfl⟩;rw[show A+1+1=A+2 from rfl,<- hD,<- a8];rw[<- hD] at hW c3;rw[<- a8] at hR;have e5:=qgr (HP.out.kept hG (by simp));have HG:=qgr hG;have HR:=qgr hR;have HW:=qgr hW;have hne:¬ R=D:=by omega
 have g9:¬ A=D:=by omega
 have g8:A<=R/\A<=D:=by omega
 have HA:=qgr hA;have b8:hi<=D:=by omega
 clear hG hR hW hA HP hD a8;go_wp2;go_loopw [10] (λi wr=>∃k:Nat,i=.int .i64 k/\k<=ps.length/\w1.grownBy wr (some D)/\wr.heap[D]?=some (qG (pre Par.mx ps k))) (λi _=>(ps.length - qia i).toNat)
 case atStart=>exact⟨0,rfl,by omega,qh6 _ _,by rw[HW.out];congr 1⟩
 case round=>
  obtain⟨k,rfl,hk,hG,hB⟩:=hrel;have e9:D<wr.heap.size:=(qgu.1 hB).1;have a9:=e5.out.kept hG (by rintro R e;cases e;exact .inr b8);have e8:=hG.cell hY (by simp;omega);have c8:=qgr hG;have HB:=qgr hB;by_cases hlt:k<ps.length
  ·obtain⟨d6,cap',he,-,hcell⟩:=a9.cell;cases he;obtain⟨B,o,rfl,g7,g6,g5,b9⟩:=hcell (by intro e;rw[e] at hlt;simp at hlt);obtain⟨p,hp,q0,q1,q2,q3⟩:=b9 k hlt;have d5:=qn hB (show k<5 by omega);have h8:=jr hB k;have e4:=qgr hp;have c9:k<5:=by omega
   generalize pre Par.mx ps k k=y at d5;clear b9 hcell a9 hG hB hp;go_wp2;go_roundw
   case rel=>
    refine⟨k+1,by simp,by omega,(c8.out.trans (qh _ _ _ _)).trans (qgs _ _ _),?_⟩;rw[qr (xU HB.out c9)]
    congr 1
    exact yw λd _=>(q36 _ _ _ _ e4.out d).symm
   case measure=>simp[qia];omega
  ·obtain rfl:k=ps.length:=by omega
   have a6:=blk hG (by simp;omega) HR.out;have a0:=qn hB (show 0<5 by omega);have a1:=qn hB (show 1<5 by omega);have a2:=qn hB (show 2<5 by omega);have a3:=qn hB (show 3<5 by omega);have a4:=qn hB (show 4<5 by omega);have b0:=qn a6 (show 0<5 by omega);have b1:=qn a6 (show 1<5 by omega);have b2:=qn a6 (show 2<5 by omega);have b3:=qn a6 (show 3<5 by omega);have b4:=qn a6 (show 4<5 by omega);have fz:=jr a6;have h9:=qgr a6;have d8:=qgr (show wts (pre Par.mx ps ps.length)=.agg #[.int .i64 (pre Par.mx ps ps.length 0),.int .i64 (pre Par.mx ps ps.length 1),.int .i64 (pre Par.mx ps ps.length 2),.int .i64 (pre Par.mx ps ps.length 3),.int .i64 (pre Par.mx ps ps.length 4)] from rfl);generalize pre Par.mx ps ps.length 0=g0 at *
   generalize pre Par.mx ps ps.length 1=g1 at *
   generalize pre Par.mx ps ps.length 2=g2 at *
   generalize pre Par.mx ps ps.length 3=g3 at *
   generalize pre Par.mx ps ps.length 4=g4 at *
   obtain⟨W,a7⟩:∃W,W=((((wr.setCell ⟨R,0,none⟩ (.int .i64 g0)).setCell ⟨R,1,none⟩ (.int .i64 g1)).setCell ⟨R,2,none⟩ (.int .i64 g2)).setCell ⟨R,3,none⟩ (.int .i64 g3)).setCell ⟨R,4,none⟩ (.int .i64 g4):=⟨_,rfl⟩;have b6:W.heap[R]?=some (.cells #[.int .i64 g0,.int .i64 g1,.int .i64 g2,.int .i64 g3,.int .i64 g4] 101 (0,0)):=by
    rw[a7,qj (qj (qj (qj (qj a6))))];rfl
   have b7:w.grownBy W none:=(HG.out.andThen c8.out (by rintro j e;cases e;exact .inl (by have:=HA.out;omega))).andThen (row':=some R)
    (by rw[a7];exact((((qh _ _ _ _).trans (qh _ _ _ _)).trans (qh _ _ _ _)).trans (qh _ _ _ _)).trans (qh _ _ _ _)) (by rintro j e;cases e;exact .inl (by have:=HA.out;omega))
   have d9:=qgr b6;have e6:=qgr b7;have d7:=qgr a7;clear a6 hG hB a9 hlt b6 b7 a7;go_wp2;rw[<- d7.out,d8.out];exact qjD (v:=.agg #[.int .i64 g0,.int .i64 g1,.int .i64 g2,.int .i64 g3,.int .i64 g4]) (by simp[qk1,Tryz.results92,go_sem,qhu,d9.out]) rfl ⟨rfl,e6.out⟩
theorem q5G(p:Par)(load:Int)(w:qgt) :qhx Ya 160 #[.agg #[.int .i64 p.mn,.int .i64 p.mx,.int .i64 p.bears,.int .i64 p.tall],.int .i64 load] w λe w'=>e=.returned (if p.bears<load then .iface 170 (.agg #[]) else .iface 171 (.agg #[]))/\w.grownBy w' none:=by
 go_enter Tp.x160,Tryz.ntmps160;by_cases h:p.bears<load
 ·go_wp2;go_ret;exact⟨rfl,qgs _ _ _⟩
 ·go_wp2;go_ret;exact⟨rfl,qgs _ _ _⟩
def tot:List Int->Int
 | []=>0
 | a::t=>tot t+a
def loadAt(g:Nat->Int)(l:List Int)(i:Nat):Int:=tot ((l.drop (i+1)).map λx=>g x.toNat)
theorem q3t(g:Nat->Int)(l:List Int)(i:Nat)(h:l.length<=i+1):loadAt g l i=0:=by
 unfold loadAt;rw[qkb h];rfl
theorem q3r(g:Nat->Int)(l:List Int)(i:Nat)(x:Int)(h:l[i+1]?=some x):loadAt g l i=loadAt g l (i+1)+g x.toNat:=by
 unfold loadAt;have hlt:=(qh0.1 h).1;rw[qj7 hlt];have:l[i+1]=x:=(qh0.1 h).2;simp[tot,this]
theorem qeg(l:List Int)(h:∀x∈l,0<=x/\x<=1000):0<=tot l/\tot l<=1000*l.length:=by
 induction l with
 | nil=>simp[tot]
 | cons a t ih=>
  have h1:=ih λx hx=>h x (by simp[hx]);have h2:=h a (by simp);simp only[tot,qh1];omega
theorem q0u(g:Nat->Int)(l:List Int)(i:Nat)(hg:∀i,0<=g i/\g i<=1000)(hl:l.length<=1000):0<=loadAt g l i/\loadAt g l i<=1000000:=by
 have:=qeg ((l.drop (i+1)).map λx=>g x.toNat) (by simp only[qkn];rintro x ⟨y,-,rfl⟩;exact hg _);simp only[qk0,ql8] at this;unfold loadAt;omega
def ldL(g:Nat->Int)(l:List Int):List Int:=(qhl l.length).map (loadAt g l)
def yR(w:qgt)(O n:Nat)(f:Nat->Int):Prop:=∃cs,w.heap[O]?=some (.cells cs 3 (0,0))/\cs.size=n/\∀i,i<n->cs[i]?=some (.int .i64 (f i))
theorem yR.lt{w:qgt}{O n:Nat}{f:Nat->Int}(h:yR w O n f):O<w.heap.size:=by
 obtain⟨cs,h,-⟩:=h;exact(qgu.1 h).1
theorem yR.cell{w:qgt}{O n i:Nat}{f:Nat->Int}(h:yR w O n f)(hi:i<n):w.cell? ⟨O,i,none⟩=some (.int .i64 (f i)):=by
 obtain⟨cs,h,-,hc⟩:=h;simp[qhu,h,hc i hi]
theorem yR.thaw{w:qgt}{O n:Nat}{f:Nat->Int}(h:yR w O n f)(i:Nat):w.frozen? ⟨O,i,none⟩=false:=by
 obtain⟨cs,h,-⟩:=h;simp[qkr,h]
theorem yR.congr{w:qgt}{O n:Nat}{f g:Nat->Int}(h:yR w O n f)(e:∀i,i<n->f i=g i):yR w O n g:=by
 obtain⟨cs,h,hs,hc⟩:=h;exact⟨cs,h,hs,λi hi=>by rw[hc i hi,e i hi]⟩
theorem yR.set{w:qgt}{O n i:Nat}{f:Nat->Int}{x:Int}(h:yR w O n f)(hi:i<n):yR (w.setCell ⟨O,i,none⟩ (.int .i64 x)) O n λj=>if j=i then x else f j:=by
 obtain⟨cs,h,hs,hc⟩:=h;refine⟨_,qj h,by simp[hs],λj hj=>?_⟩;by_cases e:j=i
 ·subst e;simp[hs,hj]
 ·rw[qhB,if_neg (by omega),hc j hj];show _=some (qhe .i64 (if j=i then x else f j));rw[if_neg e]
theorem yR.kept{w w':qgt}{O n:Nat}{f:Nat->Int}{row:Option Nat}(h:yR w O n f)(hg:w.grownBy w' row)(hne:some O≠row):yR w' O n f:=by
 obtain⟨cs,h,hs,hc⟩:=h;exact⟨cs,blk hg hne h,hs,hc⟩
theorem yR.made(w:qgt)(n:Nat):yR (w.alloc (.cells (qmt #[.int .i64 0] n) 3)) w.heap.size n λ_=>0:=by
 refine⟨_,qgC w _,size_madeCells _ _,λi hi=>?_⟩;unfold qmt;simp[hi,Nat.mod_one]
theorem yR.ints{w:qgt}{O n lo hi:Nat}{f:Nat->Int}{l:List Int}(h:yR w O n f)(h1:lo<=O)(h2:O<hi)(hl:l.length=n)(hn:n<=1000000)(hf:∀i,i<n->l[i]?=some (f i)):qe lo hi w (.slice (some ⟨O,0,none⟩) n n) l:=by
 obtain⟨cs,h,hs,hc⟩:=h;subst hl;exact⟨_,_,rfl,by omega,λ_=>⟨O,0,cs,_,rfl,h1,h2,h,λi hi=>by rw[qhd,hc i hi,hf i hi];rfl⟩⟩
theorem qe.laid(w:qgt)(l:List Int)(n:Nat)(hn:n=l.length)(hl:l.length<=1000)(fr:Nat × Nat:=(0,0))(hi:Nat:=w.heap.size+1)(hhi:w.heap.size<hi:=by omega) :qe w.heap.size hi (w.alloc (.cells (l.map (qhe .i64)).toArray 3 fr)) (.slice (some ⟨w.heap.size,0,none⟩) n n) l:=by
 subst hn;refine⟨_,_,rfl,by omega,λ_=>⟨w.heap.size,0,_,fr,rfl,qgw _,hhi,qgC w _,λi hi=>?_⟩⟩;simp[qgB hi]
theorem YP{w:qgt}{D n:Nat}{x v:qgx}{o:Obj}{a:qi2}(h:w.cell? a=some v)(hne:a≠⟨D,n,none⟩):((w.setCell ⟨D,n,none⟩ x).alloc o).drew.cell? a=some v:=by
 have h1:(w.setCell ⟨D,n,none⟩ x).cell? a=some v:=by rw[qiB _ _ _ _ (Ne.symm hne)];exact h
 exact(qg _ none).cell ((qgs _ o none).cell h1 (by simp)) (by simp)
theorem qcm{q r:Int}(h:0<=q/\q<=1000000)(h':0<=r/\r<=1000000):∀k,k<=[q,r].length->-1000000000<=ZQ ([q,r].take k)/\ZQ ([q,r].take k)<=1000000000:=by
 intro k hk;obtain rfl | rfl | rfl:k=0\/k=1\/k=2:=by simp at hk;omega
 all_goals simp[ZQ]
 all_goals omega
theorem q2v(lo hi:Nat)(v:qgx)(q r:Int)(w:qgt)(hI:qe lo hi w v [q,r])(h:0<=q/\q<=1000000)(h':0<=r/\r<=1000000) :qhx Ya 145 #[v] w λe w'=>e=.returned (.int .i64 (q+r))/\w=w':=by
 refine(qcl lo hi v [q,r] w hI (qcm h h')).mono ?_;rintro e w' ⟨rfl,rfl⟩;exact⟨by simp[ZQ],rfl⟩
theorem Qt(lo hi:Nat)(yv pv:qgx)(l:List Int)(g:Nat->Int)(w:qgt)(hI:qe lo hi w pv l)(hhi:hi<=w.heap.size)(hx:∀x∈l,0<=x/\x<5)(hl:l.length<=1000)(hg:∀i,0<=g i/\g i<=1000)(c8:∃a b,yv=.agg #[a,b]) :qhx Ya 91 #[yv,pv,wts g] w λe w'=>∃v',e=.returned v'/\w.grownBy w' none/\qe w.heap.size w'.heap.size w' v' (ldL g l):=by
 obtain⟨y1,y2,rfl⟩:=c8;obtain⟨base,cap,rfl,g6,hc⟩:=hI.cell;have b0:∀w,(qnE 29 (.int .i64 l.length) (.int .i64 l.length)).run Ya w=.ok (.slice (some ⟨w.heap.size,0,none⟩) l.length l.length) (w.alloc (.cells (qmt #[.int .i64 0] l.length) 3)):=λw=>by
  have:=run_make (P:=Ya) w 29 3 qq6 (.int .i64 0) (by rw[Tp.und];exact qll) (by rw[JV _ _ Tp.tables];exact Tryz.type3) rfl .i64 .i64 l.length l.length (by omega) (by omega) (by simp[qq6];omega) (by omega);simpa[Value.cells,qq6] using this
 have b8:=qgr b0;unfold wts;go_enter Tp.x91,Tryz.ntmps91;go_upto_region 3 with(first | rw[b8.out]);obtain⟨A,hA⟩:∃A,A=w.heap.size:=⟨_,rfl⟩;have hG:w.grownBy (((w.alloc (.cells #[y1,y2] 91)).alloc (qG g)).alloc (.cells (qmt #[.int .i64 0] l.length) 3)) none:=((qgs _ _ none).trans (qgs _ _ none)).trans (qgs _ _ none);have hW:(((w.alloc (.cells #[y1,y2] 91)).alloc (qG g)).alloc (.cells (qmt #[.int .i64 0] l.length) 3)).heap[A+1]?=some (qG g):=qr (by
  have:=qgC (w.alloc (.cells #[y1,y2] 91)) (qG g);rw[qgF,<- hA] at this;exact this)
 have hR:yR (((w.alloc (.cells #[y1,y2] 91)).alloc (qG g)).alloc (.cells (qmt #[.int .i64 0] l.length) 3)) (A+2) l.length λ_=>0:=by
  have:=yR.made ((w.alloc (.cells #[y1,y2] 91)).alloc (qG g)) l.length;rw[qgF,qgF,<- hA] at this;exact this
 rw[<- hA];show Code.wp _ _ _ _ (((w.alloc (.cells #[y1,y2] 91)).alloc (qG g)).alloc (.cells (qmt #[.int .i64 0] l.length) 3));generalize ((w.alloc (.cells #[y1,y2] 91)).alloc (qG g)).alloc (.cells (qmt #[.int .i64 0] l.length) 3)=w1 at hG hW hR ⊢;obtain⟨D,hD⟩:∃D,D=A+2:=⟨_,rfl⟩;obtain⟨V,hV⟩:∃V,V=A+1:=⟨_,rfl⟩;rw[show A+1+1=A+2 from rfl,<- hD,<- hV];rw[<- hD] at hR;rw[<- hV] at hW;have e6:=qgr (hI.kept hG (by simp));have HG:=qgr hG;have HW:=qgr hW;have HR:=qgr hR;have HA:=qgr hA;have HX:=qgr hx;have c3:=qgr hg;have d8:¬ V=D:=by omega
 have d5:hi<=D/\A<=D:=by omega
 clear hG hW hR hA hD hV hc hI hx hg b8 b0;go_wp2;go_loopw [8] (λi wr=>∃k:Int,i=.int .i64 k/\-2<=k/\k<l.length/\(0<=k->k+1<l.length)/\w1.grownBy wr (some D)/\yR wr D l.length λj=>if k<(j:Int) then loadAt g l j else 0) (λi _=>(qia i+1).toNat)
 case atStart=>
  refine⟨(l.length:Int) - 2,rfl,by omega,by omega,by omega,qh6 _ _,HR.out.congr λi hi=>?_⟩;by_cases e:(l.length:Int) - 2<i
  ·rw[if_pos e,q3t g l i (by omega)]
  ·rw[if_neg e]
 case round=>
  obtain⟨k,rfl,g9,g8,g7,hG,hB⟩:=hrel;by_cases hlt:0<=k
  ·obtain⟨n,rfl⟩:∃n:Nat,k=n:=⟨k.toNat,by omega⟩;have hn:n+1<l.length:=by omega
   have b9:=e6.out.kept hG (by rintro R e;cases e;exact .inr d5.1);obtain⟨e4,cap',he,-,hcell⟩:=b9.cell;cases he;obtain⟨B,o,rfl,k6,k5,k0,b7⟩:=hcell (by intro e;rw[e] at hn;simp at hn);have hp:=b7 (n+1) hn;obtain⟨x,hx⟩:∃x,l[n+1]?=some x:=⟨_,qgB hn⟩;obtain⟨e9,e8⟩:=HX.out x (qhc hx);rw[hx] at hp;simp only[qgD] at hp;obtain⟨m,rfl⟩:∃m:Nat,x=m:=⟨x.toNat,by omega⟩;have c9:m<5:=by omega
   have a8:=blk hG (by simp;omega) HW.out;have b6:=qn a8 c9;have a7:=hB.cell (i:=n+1) hn;have hst:=q3r g l n m hx;rw[if_pos (by omega)] at a7;have hb1:=q0u g l (n+1) c3.out hl;have d7:=c3.out m;simp only[Int.toNat_natCast] at hst;have d6:=hB.cell (i:=n) (by omega);have fz:=hB.thaw n;have h9:=hB.lt;have d9:¬ B=D:=by omega
   have h8:V<wr.heap.size:=(qgu.1 a8).1;generalize loadAt g l (n+1)=q at a7 hst hb1;generalize g m=r at b6 hst d7;have e5:=qgr hst;have a9:=qgr hG;have HB:=qgr hB;generalize (if(n:Int)<(n:Int) then loadAt g l n else 0)=z at d6;clear hG hB a8 b7 hcell b9 hx hst;have hni:(n:Int)+1<(l.length:Int):=by omega
   have e7:0<=(n:Int)+1:=by omega
   have g5:IntKind.i64.wrap ((n:Int)+1)=(n:Int)+1:=qhm _ (by omega);have hnt:((n:Int)+1).toNat=n+1:=by omega
   have a6:=qgr (qhb a7 (qhb hp b6));go_upto_region 5 with(fail);go_region_held3 (λw'=>w'.cell? ⟨D,n+1,none⟩=some (.int .i64 q)/\w'.cell? ⟨B,o+(n+1),none⟩=some (.int .i64 m)/\w'.cell? ⟨V,m,none⟩=some (.int .i64 r))
    (first | exact a6.out | exact⟨YP a6.out.1 (by simp),YP a6.out.2.1 (λe=>d9 (congrArg qoa e)),YP a6.out.2.2 (λe=>d8 (congrArg qoa e))⟩ | go_keep)
    (first
     | (go_at_call 145;refine(q2v _ _ _ q r _ (by exact qe.laid _ [q,r] 2 rfl (by simp)) (by omega) (by omega)).mono ?_;rintro e w2 ⟨rfl,rfl⟩))
   go_wp2;go_roundw
   case rel=>
    refine⟨(n:Int) - 1,rfl,by omega,by omega,by omega,((a9.out.trans (qh _ _ _ _)).trans (qgs _ _ _)).trans (qg _ _),?_⟩;refine((HB.out.set (i:=n) (x:=q+r) (by omega)).kept ((qgs _ _ none).trans (qg _ _)) (by simp)).congr λj hj=>?_;have hst:=e5.out;show(if j=n then q+r else if(n:Int)<(j:Int) then loadAt g l j else 0)=if(n:Int) - 1<(j:Int) then loadAt g l j else 0;by_cases e:j=n
    ·subst e;rw[if_pos rfl,if_pos (by omega),hst]
    ·by_cases e2:(n:Int)<j
     ·rw[if_neg e,if_pos e2,if_pos (by omega)]
     ·rw[if_neg e,if_neg e2,if_neg (by omega)]
   case measure=>simp[qia]
  ·have a9:=qgr hG;have HB:=qgr hB;clear hG hB;go_wp2;go_ret;have hD:=HA.out;refine⟨_,rfl,HG.out.andThen a9.out (by rintro j e;cases e;exact .inl (by omega)),HB.out.ints (by omega) HB.out.lt (by simp[ldL]) (by omega) λi hi=>?_⟩;rw[if_pos (by omega)];simp[ldL,hi]
theorem zK{w:qgt}{base size n:Nat}{e:qh5}{v:qgx}{xs:List qgx}(h:w.ownsRow base e size v n xs):∃a m c,v=.slice a m c:=by
 rcases h.2 with⟨rfl,_⟩ | ⟨g,cap,cur,rfl,_⟩<;>exact⟨_,_,_,rfl⟩
theorem Tp.info141p:(Ya.info? 141).map (λi=>(i.zero,i.size,i.bytes))=some (some .nilIface,1,16):=by kernel_rfl
theorem Tp.und138:Ya.underlying 138=some (.slice 141):=by rw[Tp.und];exact Tryz.underlying138
theorem yZ(g:Nat->Int)(l:List Int):(ldL g l).length=l.length:=by simp[ldL]
theorem JT(g:Nat->Int)(l:List Int)(i:Nat)(h:i<l.length):(ldL g l)[i]?.getD 0=loadAt g l i:=by simp[ldL,h]
def YZ(p:Par)(load:Int):qh5:=if p.bears<load then 170 else 171
theorem qbd(p:Par)(load:Int):(if p.bears<load then Value.iface 170 (.agg #[]) else .iface 171 (.agg #[]))=.iface (YZ p load) (.agg #[]):=by unfold YZ;split<;>rfl
def YY(p:Par)(load:Int):qgx:=.iface (YZ p load) (.agg #[])
theorem q3e{w:qgt}{b b' size n:Nat}{e:qh5}{v:qgx}{xs:List qgx}(h:w.ownsRow b e size v n xs)(hb:b'<=b):w.ownsRow b' e size v n xs:=by
 obtain⟨h1,h2⟩:=h;refine⟨h1,?_⟩;rcases h2 with h2 | ⟨g,cap,cur,e1,e2,e3⟩
 ·exact .inl h2
 ·exact .inr ⟨g,cap,cur,e1,qgE hb e2,e3⟩
def K0(ps:List Par)(g:Nat->Int)(l:List Int)(i:Nat):qgx:=match ps[(l[i]?.getD 0).toNat]? with | some p=>YY p (loadAt g l i) | none=>.nilIface
def kD(ps:List Par)(g:Nat->Int)(l:List Int):List qgx:=(qhl l.length).map (K0 ps g l)
theorem q43(ps:List Par)(g:Nat->Int)(l:List Int)(k:Nat)(h:k<l.length):(kD ps g l).take (k+1)=(kD ps g l).take k++[K0 ps g l k]:=by
 rw[qi7];simp[kD,h]
theorem q8m(lo hi:Nat)(yv pv:qgx)(ps:List Par)(lim:Int)(l:List Int)(g:Nat->Int)(w:qgt)(hY:jo lo hi w yv ps lim)(hI:qe lo hi w pv l)(hhi:hi<=w.heap.size)(h5:ps.length<=5)(hx:∀x∈l,0<=x/\x<ps.length)(hl:l.length<=1000)(hg:∀i,0<=g i/\g i<=1000) :qhx Ya 126 #[yv,pv,wts g] w λe w'=>∃v',e=.returned v'/\w.grownBy w' none/\w'.ownsRow w.heap.size 141 1 v' l.length (kD ps g l):=by
 obtain⟨i0,g9,g8,g7,g6⟩:=qjy Tp.info141p;obtain⟨qv,rfl,hP⟩:=hY;obtain⟨yb,yc,rfl,l4,-⟩:=hP.cell;obtain⟨base,cap,rfl,m3,-⟩:=hI.cell;obtain⟨A,hA⟩:∃A,A=w.heap.size:=⟨_,rfl⟩;obtain⟨w1,a6⟩:∃w1,w1=(w.alloc (.cells #[.slice yb ps.length yc,.int .i64 lim] 91)).alloc (qG g):=⟨_,rfl⟩;have b9:w.grownBy w1 none:=by rw[a6];exact(qgs _ _ none).trans (qgs _ _ none)
 have b6:w1.heap[A]?=some (.cells #[.slice yb ps.length yc,.int .i64 lim] 91 (0,0)):=by rw[a6,hA];exact qr (qgC w _)
 have a7:w1.heap[A+1]?=some (qG g):=by
  rw[a6];have:=qgC (w.alloc (.cells #[.slice yb ps.length yc,.int .i64 lim] 91)) (qG g);rw[qgF,<- hA] at this;exact this
 have l8:w1.heap.size=A+2:=by rw[a6,qgF,qgF,hA]
 have e6:=qgr (hI.kept b9 (by simp));have k0:=qgr (hP.kept b9 (by simp));have HX:=qgr hx;have k6:=qgr hg;have h9:=qgr a6;have HA:=qgr hA;have e8:=qgr b9;have n3:=qgr b6;have q0:=q9 b6 (o:=0) rfl;have q1:=q9 b6 (o:=1) rfl;have r0:=qn a7 (show 0<5 by omega);have r1:=qn a7 (show 1<5 by omega);have r2:=qn a7 (show 2<5 by omega);have r3:=qn a7 (show 3<5 by omega);have r4:=qn a7 (show 4<5 by omega);have m4:hi<=A:=by omega
 clear hI hP hx hg a6 hA b9 b6 a7;unfold wts;go_enter Tp.x126,Tryz.ntmps126;go_upto_region 2 with(fail);rw[<- HA.out,show(w.alloc (.cells #[.slice yb ps.length yc,.int .i64 lim] 91)).alloc (.cells #[.int .i64 (g 0),.int .i64 (g 1),.int .i64 (g 2),.int .i64 (g 3),.int .i64 (g 4)] 101)=w1 from h9.out.symm];go_wp2_with (first | (go_at_call 91;go_must (refine(Qt lo hi _ _ l g _ e6.out (by omega) (by intro x hx;have:=HX.out x hx;omega) hl k6.out ⟨_,_,rfl⟩).mono ?_);rintro e w2 ⟨lv,rfl,d8,hL2⟩;have b0:=hL2.cell;rw[yZ] at b0;obtain⟨lb,lc,rfl,-,b0⟩:=b0;have k8:=qgr b0;clear b0;have b7:=qgr d8;have n2:=qgr hL2;clear d8 hL2));have e9:=b7.out.cell q0 (by simp);have l7:=b7.out.size;clear r0 r1 r2 r3 r4 q0 q1;go_loopw [7,15] (λov iv wr=>∃k:Nat,iv=.int .i64 k/\k<=l.length/\w2.grownBy wr none/\wr.ownsRow w2.heap.size 141 1 ov k ((kD ps g l).take k)) (λ_ iv _=>(l.length - qia iv).toNat)
 case atStart=>exact⟨0,rfl,by omega,qh6 _ _,qjg _ _ _ _⟩
 case round=>
  obtain⟨k,rfl,hk,hG,hO⟩:=hrel;obtain⟨oa,om,oc,rfl⟩:=zK hO;have HG:=qgr hG;have HO:=qgr hO;have k9:=hG.cell e9 (by simp);have l6:=hG.size;by_cases hlt:k<l.length
  ·have e5:=(e6.out.kept b7.out (by simp)).kept hG (by simp);have e4:=(k0.out.kept b7.out (by simp)).kept hG (by simp);obtain⟨b1,c1,he,-,hc⟩:=e5.cell;cases he;obtain⟨B,o,rfl,b6,m9,m8,d9⟩:=hc (by intro e;rw[e] at hlt;simp at hlt);have hx:=d9 k hlt;obtain⟨x,b8⟩:∃x,l[k]?=some x:=⟨_,qgB hlt⟩;obtain⟨l5,c8⟩:=HX.out x (qhc b8);rw[b8] at hx;simp only[qgD] at hx;obtain⟨m,rfl⟩:∃m:Nat,x=m:=⟨x.toNat,by omega⟩;obtain⟨b2,c2,he,-,hc⟩:=e4.cell;cases he;obtain⟨YB,yo,rfl,m7,m6,m5,d7⟩:=hc (by intro e;rw[e] at c8;simp at c8;omega);obtain⟨p,hp,p0,p1,p2,p3⟩:=d7 m (by omega);obtain⟨LB,lo',rfl,hL1,hL2,hL3,hL4⟩:=k8.out (by intro e;have:=yZ g l;rw[e] at this;simp at this;omega);have d5:=HG.out.cell (hL4 k hlt) (by simp);rw[JT g l k hlt] at d5;have d6:Hid (K0 ps g l k=YY p (loadAt g l k)):=qgr (by unfold K0;rw[b8];simp[hp]);have l9:(m:Int)<(ps.length:Int):=c8;generalize loadAt g l k=ld at d5 d6;clear hG hO e5 e4 hc d9 d7 hL4 b8 hp;go_wp2;go_region_law
    (first
     | (go_simp;go_at_call 160;refine(q5G p ld _).mono ?_;rintro e w3 ⟨rfl,c9⟩;rw[qbd];have g5:=c9.size;have e7:=qgr ((qg wr none).trans c9);clear c9)
     | (refine step_append_lies _ (by rfl) _ _ _ (by rfl) w2.heap.size 141 i0 _ 1 16 Tp.und138 g9 g8 g7 g6 rfl (by omega) (.slice oa om oc) k ((kD ps g l).take k) (by rfl) (by exact(HO.out.kept e7.out (by cases(qhw oa om oc).ownBlock<;>simp)).alloc _) ⟨w3.heap.size,0,none⟩ 1 1 [.iface (YZ p ld) (.agg #[])] (by rfl) (by rfl) (qit (cs:=#[.iface (YZ p ld) (.agg #[])]) (t:=141) (fr:=(0,0)) (qgC w3 _)) (by simp[qjh]) (by omega) (by unfold qky;omega) (by omega) (by simp at g5 ⊢;omega) (w3.heap.size+1) (by simp) ?_;intro gg cap w5 a8 a9 h8 hgl;have k5:=qgr a8;have k7:=qgr a9;clear a8 a9 h8 hgl))
   all_goals
    have c3:w2.grownBy w5 none:=((HG.out.trans e7.out).trans (qgs _ _ none)).andThen k7.out (λj e=>.inl (HO.out.lt j e).1);have HF:=qgr c3;clear c3;go_wp2;go_roundw
    case rel=>
     refine⟨k+1,by simp,by omega,HF.out,?_⟩;rw[q43 ps g l k hlt,d6.out];exact k5.out
    case measure=>simp[qia];omega
  ·obtain rfl:k=l.length:=by omega
   clear hG hO;go_wp2;go_ret;have h0:=HO.out;rw[show(kD ps g l).take l.length=kD ps g l from qoC (by simp[kD])] at h0;refine⟨_,rfl,(e8.out.trans b7.out).trans HG.out,?_⟩;exact q3e h0 (by have:=e8.out.size;omega)
theorem vG{w:qgt}{base n:Nat}{e:qh5}{v:qgx}{xs:List qgx}(h:w.ownsRow base e 1 v n xs) :∃a c,v=.slice a n c/\(0<n->∃g,a=some ⟨g,0,none⟩/\base<=g/\g<w.heap.size/\∀i,i<n->w.cell? ⟨g,i,none⟩=xs[i]?):=by
 rcases h.2 with⟨rfl,h0⟩ | ⟨g,cap,cur,rfl,hb,hg,hr⟩
 ·exact⟨_,_,by rw[h0],λhn=>by omega⟩
 ·exact⟨_,_,rfl,λ_=>⟨g,rfl,hb,(qgu.1 hg).1,λi hi=>h.cellAt i (by omega)⟩⟩
@[simp] theorem ta170(w:qgt):(qkx (.iface 170 (.agg #[])) 141 170 true).run Ya w=.ok (.tuple #[.agg #[],.bool true]) w:=by kernel_rfl
@[simp] theorem qgq(w:qgt):(qkx (.iface 171 (.agg #[])) 141 170 true).run Ya w=.ok (.tuple #[.agg #[],.bool false]) w:=by kernel_rfl
@[simp] theorem ta171(w:qgt):(qkx (.iface 171 (.agg #[])) 141 171 true).run Ya w=.ok (.tuple #[.agg #[],.bool true]) w:=by kernel_rfl
def KA(ps:List Par)(g:Nat->Int)(l:List Int)(i:Nat):Bool:=match ps[(l[i]?.getD 0).toNat]? with | some p=>decide (loadAt g l i<=p.bears) | none=>false
def qu(ps:List Par)(g:Nat->Int)(l:List Int):Bool:=(qhl l.length).all (KA ps g l)
theorem kr(lo hi:Nat)(yv pv:qgx)(ps:List Par)(lim:Int)(l:List Int)(g:Nat->Int)(w:qgt)(hY:jo lo hi w yv ps lim)(hI:qe lo hi w pv l)(hhi:hi<=w.heap.size)(h5:ps.length<=5)(hx:∀x∈l,0<=x/\x<ps.length)(hl:l.length<=1000)(hg:∀i,0<=g i/\g i<=1000) :qhx Ya 96 #[yv,pv,wts g] w λe w'=>e=.returned (.bool (qu ps g l))/\w.grownBy w' none:=by
 obtain⟨qv,rfl,hP⟩:=hY;obtain⟨yb,yc,rfl,d9,-⟩:=hP.cell;obtain⟨base,cap,rfl,e7,-⟩:=hI.cell;obtain⟨A,hA⟩:∃A,A=w.heap.size:=⟨_,rfl⟩;obtain⟨w1,a6⟩:∃w1,w1=(w.alloc (.cells #[.slice yb ps.length yc,.int .i64 lim] 91)).alloc (qG g):=⟨_,rfl⟩;have a9:w.grownBy w1 none:=by rw[a6];exact(qgs _ _ none).trans (qgs _ _ none)
 have b6:w1.heap[A]?=some (.cells #[.slice yb ps.length yc,.int .i64 lim] 91 (0,0)):=by rw[a6,hA];exact qr (qgC w _)
 have a7:w1.heap[A+1]?=some (qG g):=by
  rw[a6];have:=qgC (w.alloc (.cells #[.slice yb ps.length yc,.int .i64 lim] 91)) (qG g);rw[qgF,<- hA] at this;exact this
 have e6:w1.heap.size=A+2:=by rw[a6,qgF,qgF,hA]
 have d6:=qgr (hI.kept a9 (by simp));have c9:=qgr (show jo lo hi w1 (.agg #[.slice yb ps.length yc,.int .i64 lim]) ps lim from⟨_,rfl,hP.kept a9 (by simp)⟩);have HX:=qgr hx;have d7:=qgr hg;have d5:=qgr a6;have HA:=qgr hA;have c8:=qgr a9;have q0:=q9 b6 (o:=0) rfl;have q1:=q9 b6 (o:=1) rfl;have r0:=qn a7 (show 0<5 by omega);have r1:=qn a7 (show 1<5 by omega);have r2:=qn a7 (show 2<5 by omega);have r3:=qn a7 (show 3<5 by omega);have r4:=qn a7 (show 4<5 by omega);have e8:hi<=A:=by omega
 clear hI hP hx hg a6 hA a9 b6 a7;unfold wts;go_enter Tp.x96,Tryz.ntmps96;go_upto_region 1 with(fail);rw[<- HA.out,show(w.alloc (.cells #[.slice yb ps.length yc,.int .i64 lim] 91)).alloc (.cells #[.int .i64 (g 0),.int .i64 (g 1),.int .i64 (g 2),.int .i64 (g 3),.int .i64 (g 4)] 101)=w1 from d5.out.symm];go_wp2_with (first | (go_at_call 126;go_must (refine(q8m lo hi _ _ ps lim l g _ c9.out d6.out (by omega) h5 HX.out hl d7.out).mono ?_);rintro e w2 ⟨lv,rfl,b8,hL2⟩;obtain⟨lb,lc,rfl,b7⟩:=vG hL2;have c3:=qgr b8;have d8:=qgr b7;clear b8 hL2 b7));clear r0 r1 r2 r3 r4 q0 q1;go_loopw [14] (λiv wr=>∃k:Nat,iv=.int .i64 k/\k<=l.length/\(∀i,i<k->KA ps g l i=true)/\w2=wr) (λiv _=>(l.length - qia iv).toNat)
 case atStart=>exact⟨0,rfl,by omega,λi hi=>absurd hi (by omega),rfl⟩
 case round=>
  obtain⟨k,rfl,hk,hok,rfl⟩:=hrel;have b9:=qgr hok;clear hok;by_cases hlt:k<l.length
  ·obtain⟨LB,rfl,hL1,hL2,hL3⟩:=d8.out (by omega);have b0:=hL3 k hlt;obtain⟨x,a8⟩:∃x,l[k]?=some x:=⟨_,qgB hlt⟩;obtain⟨e5,e4⟩:=HX.out x (qhc a8);obtain⟨p,hp⟩:∃p,ps[x.toNat]?=some p:=⟨_,qgB (by omega)⟩;have hok:KA ps g l k=decide (loadAt g l k<=p.bears):=by unfold KA;rw[a8];simp[hp]
   rw[show(kD ps g l)[k]?=some (YY p (loadAt g l k)) by simp only[kD,qis,qlt hlt,qij,K0,a8,qgD,hp]] at b0;by_cases hb:p.bears<loadAt g l k
   ·rw[show YY p (loadAt g l k)=.iface 170 (.agg #[]) by simp[YY,YZ,hb]] at b0;have hf:Hid (qu ps g l=false):=qgr (by
     have:KA ps g l k=false:=by rw[hok];simp;omega
     unfold qu;rw[Bool.eq_false_iff];intro h;rw[qhE] at h;have:=h k (by simp[hlt])
     simp_all)
    clear hL3 hok hp a8 hb;go_wp2;go_ret;exact⟨by rw[hf.out];rfl,c8.out.trans c3.out⟩
   ·rw[show YY p (loadAt g l k)=.iface 171 (.agg #[]) by simp[YY,YZ,hb]] at b0;have hf:Hid (KA ps g l k=true):=qgr (by rw[hok];simp;omega);clear hL3 hok hp a8 hb;go_wp2;go_roundw
    case rel=>
     refine⟨k+1,by simp,by omega,λi hi=>?_,by first | rfl | trivial⟩;by_cases e:i=k
     ·rw[e];exact hf.out
     ·exact b9.out i (by omega)
    case measure=>simp[qia];omega
  ·obtain rfl:k=l.length:=by omega
   have hf:Hid (qu ps g l=true):=qgr (by
    unfold qu;rw[qhE];intro i hi;exact b9.out i (by simpa using hi))
   go_wp2;go_ret;exact⟨by rw[hf.out];rfl,c8.out.trans c3.out⟩
theorem yG(x lo hi:Int)(w:qgt)(h1:lo<=x)(h2:x<=hi) :qhx Ya 110 #[.int .i64 x,.int .i64 lo,.int .i64 hi] w λe w'=>e=.returned (.bool true)/\w=w':=by
 go_enter Tp.x110,qpw;go_wp2;go_ret;exact⟨rfl,rfl⟩
theorem kl(x lo hi:Int)(w:qgt)(h1:¬ (lo<=x/\x<=hi)) :qhx Ya 110 #[.int .i64 x,.int .i64 lo,.int .i64 hi] w λe w'=>e=.returned (.bool false)/\w=w':=by
 by_cases h2:lo<=x
 ·have h3:¬ x<=hi:=λh=>h1 ⟨h2,h⟩;clear h1;go_enter Tp.x110,qpw;go_wp2;go_ret;exact⟨rfl,rfl⟩
 ·clear h1;go_enter Tp.x110,qpw;go_wp2;go_ret;exact⟨rfl,rfl⟩
def KI(p:Par):Int:=if 1<=p.mn/\p.mn<=12 then if 1<=p.mx/\p.mx<=12 then if p.mx<p.mn then 5 else if 0<=p.bears/\p.bears<=30 then if 1<=p.tall/\p.tall<=3 then 0 else 1 else 1 else 1 else 1
theorem q25(a b c d:Int)(w:qgt)(h1:¬ (1<=a/\a<=12)) :qhx Ya 109 #[.agg #[.int .i64 a,.int .i64 b,.int .i64 c,.int .i64 d]] w λe w'=>e=.returned (.int .i64 1)/\w.grownBy w' none:=by
 have HH:=qgr h1;clear h1;go_enter Tp.x109,qmy;go_wp2_with (first
  | (go_at_call 110;refine(yG _ _ _ _ (by have:=HH.out;omega) (by have:=HH.out;omega)).mono ?_;rintro e w' ⟨rfl,rfl⟩)
  | (go_at_call 110;go_must (refine(kl _ _ _ _ (by have:=HH.out;omega)).mono ?_);rintro e w' ⟨rfl,rfl⟩))
 go_ret;exact⟨rfl,qgs _ _ _⟩
theorem q24(a b c d:Int)(w:qgt)(h1:1<=a/\a<=12)(h2:¬ (1<=b/\b<=12)) :qhx Ya 109 #[.agg #[.int .i64 a,.int .i64 b,.int .i64 c,.int .i64 d]] w λe w'=>e=.returned (.int .i64 1)/\w.grownBy w' none:=by
 have HH:=qgr (qhb h1 h2);clear h1 h2;go_enter Tp.x109,qmy;go_wp2_with (first
  | (go_at_call 110;refine(yG _ _ _ _ (by have:=HH.out;omega) (by have:=HH.out;omega)).mono ?_;rintro e w' ⟨rfl,rfl⟩)
  | (go_at_call 110;go_must (refine(kl _ _ _ _ (by have:=HH.out;omega)).mono ?_);rintro e w' ⟨rfl,rfl⟩))
 go_ret;exact⟨rfl,qgs _ _ _⟩
theorem q23(a b c d:Int)(w:qgt)(h1:1<=a/\a<=12)(h2:1<=b/\b<=12)(h3:b<a) :qhx Ya 109 #[.agg #[.int .i64 a,.int .i64 b,.int .i64 c,.int .i64 d]] w λe w'=>e=.returned (.int .i64 5)/\w.grownBy w' none:=by
 have HH:=qgr (qhb h1 (qhb h2 h3));clear h1 h2;go_enter Tp.x109,qmy;go_wp2_with (first
  | (go_at_call 110;refine(yG _ _ _ _ (by have:=HH.out;omega) (by have:=HH.out;omega)).mono ?_;rintro e w' ⟨rfl,rfl⟩)
  | (go_at_call 110;go_must (refine(kl _ _ _ _ (by have:=HH.out;omega)).mono ?_);rintro e w' ⟨rfl,rfl⟩))
 go_ret;exact⟨rfl,qgs _ _ _⟩
theorem q22(a b c d:Int)(w:qgt)(h1:1<=a/\a<=12)(h2:1<=b/\b<=12)(h3:¬ b<a)(h4:¬ (0<=c/\c<=30)) :qhx Ya 109 #[.agg #[.int .i64 a,.int .i64 b,.int .i64 c,.int .i64 d]] w λe w'=>e=.returned (.int .i64 1)/\w.grownBy w' none:=by
 have HH:=qgr (qhb h1 (qhb h2 (qhb h3 h4)));clear h1 h2 h4;go_enter Tp.x109,qmy;go_wp2_with (first
  | (go_at_call 110;refine(yG _ _ _ _ (by have:=HH.out;omega) (by have:=HH.out;omega)).mono ?_;rintro e w' ⟨rfl,rfl⟩)
  | (go_at_call 110;go_must (refine(kl _ _ _ _ (by have:=HH.out;omega)).mono ?_);rintro e w' ⟨rfl,rfl⟩))
 go_ret;exact⟨rfl,qgs _ _ _⟩
theorem q21(a b c d:Int)(w:qgt)(h1:1<=a/\a<=12)(h2:1<=b/\b<=12)(h3:¬ b<a)(h4:0<=c/\c<=30)(h5:¬ (1<=d/\d<=3)) :qhx Ya 109 #[.agg #[.int .i64 a,.int .i64 b,.int .i64 c,.int .i64 d]] w λe w'=>e=.returned (.int .i64 1)/\w.grownBy w' none:=by
 have HH:=qgr (qhb h1 (qhb h2 (qhb h3 (qhb h4 h5))));clear h1 h2 h4 h5;go_enter Tp.x109,qmy;go_wp2_with (first
  | (go_at_call 110;refine(yG _ _ _ _ (by have:=HH.out;omega) (by have:=HH.out;omega)).mono ?_;rintro e w' ⟨rfl,rfl⟩)
  | (go_at_call 110;go_must (refine(kl _ _ _ _ (by have:=HH.out;omega)).mono ?_);rintro e w' ⟨rfl,rfl⟩))
 go_ret;exact⟨rfl,qgs _ _ _⟩
theorem q20(a b c d:Int)(w:qgt)(h1:1<=a/\a<=12)(h2:1<=b/\b<=12)(h3:¬ b<a)(h4:0<=c/\c<=30)(h5:1<=d/\d<=3) :qhx Ya 109 #[.agg #[.int .i64 a,.int .i64 b,.int .i64 c,.int .i64 d]] w λe w'=>e=.returned (.int .i64 0)/\w.grownBy w' none:=by
 have HH:=qgr (qhb h1 (qhb h2 (qhb h3 (qhb h4 h5))));clear h1 h2 h4 h5;go_enter Tp.x109,qmy;go_wp2_with (first
  | (go_at_call 110;refine(yG _ _ _ _ (by have:=HH.out;omega) (by have:=HH.out;omega)).mono ?_;rintro e w' ⟨rfl,rfl⟩)
  | (go_at_call 110;go_must (refine(kl _ _ _ _ (by have:=HH.out;omega)).mono ?_);rintro e w' ⟨rfl,rfl⟩))
 go_ret;exact⟨rfl,qgs _ _ _⟩
theorem xF(p:Par)(w:qgt):qhx Ya 109 #[.agg #[.int .i64 p.mn,.int .i64 p.mx,.int .i64 p.bears,.int .i64 p.tall]] w λe w'=>e=.returned (.int .i64 (KI p))/\w.grownBy w' none:=by
 unfold KI;by_cases h1:1<=p.mn/\p.mn<=12
 ·by_cases h2:1<=p.mx/\p.mx<=12
  ·by_cases h3:p.mx<p.mn
   ·rw[if_pos h1,if_pos h2,if_pos h3];exact q23 _ _ _ _ w h1 h2 h3
   ·by_cases h4:0<=p.bears/\p.bears<=30
    ·by_cases h5:1<=p.tall/\p.tall<=3
     ·rw[if_pos h1,if_pos h2,if_neg h3,if_pos h4,if_pos h5];exact q20 _ _ _ _ w h1 h2 h3 h4 h5
     ·rw[if_pos h1,if_pos h2,if_neg h3,if_pos h4,if_neg h5];exact q21 _ _ _ _ w h1 h2 h3 h4 h5
    ·rw[if_pos h1,if_pos h2,if_neg h3,if_neg h4];exact q22 _ _ _ _ w h1 h2 h3 h4
  ·rw[if_pos h1,if_neg h2];exact q24 _ _ _ _ w h1 h2
 ·rw[if_neg h1];exact q25 _ _ _ _ w h1
def Kb(ps:List Par)(lim:Int):Int:=if 5<ps.length then 6 else match ps.find? (λp=>decide (KI p≠0)) with
 | some p=>KI p
 | none=>if 1<=lim/\lim<=12 then 0 else 1
theorem q75{Y:Type}(q:Y->Bool)(l:List Y)(k:Nat)(x:Y)(h:l[k]?=some x)(hq:q x=true)(hb:∀(i:Nat) (y:Y),i<k->l[i]?=some y->q y=false):l.find? q=some x:=by
 induction l generalizing k with
 | nil=>simp at h
 | cons a t ih=>
  cases k with
  | zero=>simp at h;subst h;simp[hq]
  | succ k=>
   rw[List.find?_cons_of_neg (by rw[hb 0 a (by omega) (by simp)];simp)];exact ih k (by simpa using h) (λi y hi hy=>hb (i+1) y (by omega) (by simpa using hy))
theorem q1z{Y:Type}(q:Y->Bool)(l:List Y)(hb:∀(i:Nat) (y:Y),l[i]?=some y->q y=false):l.find? q=none:=by
 rw[qlG];intro x hx;obtain⟨i,hi⟩:=qnx hx;rw[hb i x hi];simp
theorem q8v(lo hi:Nat)(yv:qgx)(ps:List Par)(lim:Int)(w:qgt)(hY:jo lo hi w yv ps lim)(hhi:hi<=w.heap.size) :qhx Ya 52 #[yv] w λe w'=>e=.returned (.int .i64 (Kb ps lim))/\w.grownBy w' none:=by
 obtain⟨qv,rfl,hP⟩:=hY;obtain⟨yb,yc,rfl,d9,-⟩:=hP.cell;by_cases h5:5<ps.length
 ·have HR:=qgr (show Kb ps lim=6 by unfold Kb;rw[if_pos h5]);have c9:(5:Int)<ps.length:=by omega
  clear hP;go_enter Tp.x52,Tryz.ntmps52;go_wp2;go_ret;exact⟨by rw[HR.out];rfl,qgs _ _ _⟩
 ·obtain⟨A,hA⟩:∃A,A=w.heap.size:=⟨_,rfl⟩;obtain⟨w1,a7⟩:∃w1,w1=w.alloc (.cells #[.slice yb ps.length yc,.int .i64 lim] 24):=⟨_,rfl⟩;have b0:w.grownBy w1 none:=by rw[a7];exact qgs _ _ none
  have b6:w1.heap[A]?=some (.cells #[.slice yb ps.length yc,.int .i64 lim] 24 (0,0)):=by rw[a7,hA];exact qgC w _
  have d6:=qgr (hP.kept b0 (by simp));have d5:=qgr a7;have HA:=qgr hA;have b8:=qgr b0;have q0:=q9 b6 (o:=0) rfl;have q1:=q9 b6 (o:=1) rfl;have c9:¬ (5:Int)<ps.length:=by omega
  clear hP a7 hA b0 b6;go_enter Tp.x52,Tryz.ntmps52;go_upto_region 1 with(fail);rw[<- HA.out,show w.alloc (.cells #[.slice yb ps.length yc,.int .i64 lim] 24)=w1 from d5.out.symm];go_wp2;go_loopw [13] (λiv wr=>∃k:Nat,iv=.int .i64 k/\k<=ps.length/\(∀i p,i<k->ps[i]?=some p->KI p=0)/\w1.grownBy wr none) (λiv _=>(ps.length - qia iv).toNat)
  case atStart=>exact⟨0,rfl,by omega,λi p hi=>absurd hi (by omega),qh6 _ _⟩
  case round=>
   obtain⟨k,rfl,hk,hok,hG⟩:=hrel;have a8:=qgr hok;have HG:=qgr hG;have c3:=d6.out.kept hG (by simp);have d8:=hG.cell q0 (by simp);have d7:=hG.cell q1 (by simp);clear hok hG;by_cases hlt:k<ps.length
   ·obtain⟨b2,c2,he,-,hc⟩:=c3.cell;cases he;obtain⟨YB,yo,rfl,e6,e5,e4,b9⟩:=hc (by intro e;rw[e] at hlt;simp at hlt);obtain⟨p,hp,p0,p1,p2,p3⟩:=b9 k (by omega);have c8:=qgr hp;clear hc b9 hp c3;by_cases hz:KI p=0
    ·go_wp2_with (first | (go_at_call 109;go_must (refine(xF p _).mono ?_);rintro e w3 ⟨rfl,a6⟩;rw[hz];have b7:=qgr a6;clear a6));go_roundw
     case rel=>
      refine⟨k+1,by simp,by omega,λi q hi hq=>?_,(HG.out.trans (qgs _ _ _)).trans b7.out⟩;by_cases e:i=k
      ·subst e;rw[c8.out] at hq;cases hq;exact hz
      ·exact a8.out i q (by omega) hq
     case measure=>simp[qia];omega
    ·have HR:=qgr (show Kb ps lim=KI p by
      unfold Kb;rw[if_neg h5,q75 _ ps k p c8.out (by simp[hz]) (λi y hi hy=>by simp[a8.out i y hi hy])])
     obtain⟨z,a9⟩:∃z,KI p=z:=⟨_,rfl⟩;rw[a9] at hz HR;have HZ:=qgr a9;clear a9;go_wp2_with (first | (go_at_call 109;go_must (refine(xF p _).mono ?_);rintro e w3 ⟨rfl,a6⟩;rw[HZ.out];have b7:=qgr a6;clear a6));go_ret;exact⟨by rw[HR.out];rfl,((b8.out.trans HG.out).trans (qgs _ _ _)).trans b7.out⟩
   ·obtain rfl:k=ps.length:=by omega
    by_cases hl:1<=lim/\lim<=12
    ·have HR:=qgr (show Kb ps lim=0 by
      unfold Kb;rw[if_neg h5,q1z _ ps (λi y hy=>by simp[a8.out i y (qh0.1 hy).1 hy])];exact if_pos hl)
     go_wp2_with (first | (go_at_call 110;go_must (refine(yG _ _ _ _ hl.1 hl.2).mono ?_);rintro e w' ⟨rfl,rfl⟩));go_ret;exact⟨by rw[HR.out];rfl,b8.out.trans HG.out⟩
    ·have HR:=qgr (show Kb ps lim=1 by
      unfold Kb;rw[if_neg h5,q1z _ ps (λi y hy=>by simp[a8.out i y (qh0.1 hy).1 hy])];exact if_neg hl)
     have HL:=qgr hl;clear hl;go_wp2_with (first | (go_at_call 110;go_must (refine(kl _ _ _ _ HL.out).mono ?_);rintro e w' ⟨rfl,rfl⟩));go_ret;exact⟨by rw[HR.out];rfl,b8.out.trans HG.out⟩
theorem qbC:∀m:Fin 32,∀n:Fin 5,(bits .and .u8 (m.1:Int) ((2 ^ n.1:Nat):Int) != 0)=m.1.testBit n.1:=by decide
theorem qds:∀m:Fin 32,∀n:Fin 5,bits .or .u8 (m.1:Int) ((2 ^ n.1:Nat):Int)=((m.1 ||| 2 ^ n.1:Nat):Int):=by decide
@[simp] theorem qgp(w:qgt):(qn2 205 (.agg #[.int .u8 1,.int .u8 2,.int .u8 4,.int .u8 8,.int .u8 16]) (.int .i64 0)).run Ya w=.ok (.int .u8 1) w:=by kernel_rfl
@[simp] theorem qgo(w:qgt):(qn2 205 (.agg #[.int .u8 1,.int .u8 2,.int .u8 4,.int .u8 8,.int .u8 16]) (.int .i64 1)).run Ya w=.ok (.int .u8 2) w:=by kernel_rfl
@[simp] theorem qgn(w:qgt):(qn2 205 (.agg #[.int .u8 1,.int .u8 2,.int .u8 4,.int .u8 8,.int .u8 16]) (.int .i64 2)).run Ya w=.ok (.int .u8 4) w:=by kernel_rfl
@[simp] theorem qgm(w:qgt):(qn2 205 (.agg #[.int .u8 1,.int .u8 2,.int .u8 4,.int .u8 8,.int .u8 16]) (.int .i64 3)).run Ya w=.ok (.int .u8 8) w:=by kernel_rfl
@[simp] theorem qgl(w:qgt):(qn2 205 (.agg #[.int .u8 1,.int .u8 2,.int .u8 4,.int .u8 8,.int .u8 16]) (.int .i64 4)).run Ya w=.ok (.int .u8 16) w:=by kernel_rfl
theorem xy(n:Nat)(w:qgt)(h:n<5):qhx Ya 153 #[.int .i64 n] w λe w'=>e=.returned (.int .u8 ((2 ^ n:Nat):Int))/\w=w':=by
 obtain rfl | rfl | rfl | rfl | rfl:n=0\/n=1\/n=2\/n=3\/n=4:=by omega
 all_goals
  go_enter Tp.x153,Tryz.ntmps153;go_wp2;go_ret;exact⟨rfl,rfl⟩
theorem q71(m n:Nat)(w:qgt)(hm:m<32)(h:n<5):qhx Ya 129 #[.int .u8 m,.int .i64 n] w λe w'=>e=.returned (.bool (m.testBit n))/\w=w':=by
 have hb:=qbC ⟨m,hm⟩ ⟨n,h⟩;simp only at hb;have HB:=qgr hb;clear hb;obtain⟨z,hz⟩:∃z:Int,((2 ^ n:Nat):Int)=z:=⟨_,rfl⟩;have HZ:=qgr hz;clear hz;go_enter Tp.x129,Tryz.ntmps129;go_wp2_with (first | (go_at_call 153;go_must (refine(xy n _ h).mono ?_);rintro e w' ⟨rfl,rfl⟩;rw[HZ.out]));go_ret;exact⟨by rw[<- HB.out,HZ.out];rfl,rfl⟩
theorem JY(m n:Nat)(w:qgt)(hm:m<32)(h:n<5):qhx Ya 151 #[.int .u8 m,.int .i64 n] w λe w'=>e=.returned (.int .u8 ((m ||| 2 ^ n:Nat):Int))/\w=w':=by
 have hb:=qds ⟨m,hm⟩ ⟨n,h⟩;simp only at hb;have HB:=qgr hb;clear hb;obtain⟨z,hz⟩:∃z:Int,((2 ^ n:Nat):Int)=z:=⟨_,rfl⟩;have HZ:=qgr hz;clear hz;go_enter Tp.x151,Tryz.ntmps151;go_wp2_with (first | (go_at_call 153;go_must (refine(xy n _ h).mono ?_);rintro e w' ⟨rfl,rfl⟩;rw[HZ.out]));go_ret;exact⟨by rw[<- HB.out,HZ.out];rfl,rfl⟩
theorem qaq(k:Int)(w:qgt):qhx Ya 162 #[.bool true,.int .i64 k] w λe w'=>e=.returned (.tuple #[])/\w=w':=by
 go_enter Tp.x162,Tryz.ntmps162;go_wp2;go_end0;exact⟨rfl,rfl⟩
theorem q68(p:qi2)(w:qgt) :CallsD Ya 161 #[.pointer (some p)] .returning w λe u' w'=>e=.returned (.tuple #[])/\u'=.returning/\w'=w.alloc (.cells #[.int .i64 0] 181):=by
 have a6:∀w,(qkx .nilIface 20 181 true).run Ya w=.ok (.tuple #[.agg #[.int .i64 0],.bool false]) w:=λw=>by kernel_rfl
 refine callsD_of_wpS Tp.x161 rfl λc₀ cs hu=>?_;apply wpS_seq;apply qoD;simp[wpOpsS,go_sem,recoverD,hu,qom,Exit.thenS,a6];apply wpS_seq;apply qoD;simp[wpOpsS,go_sem,recoverD,hu,qom,Exit.thenS];refine wpS_cond (t:=false) (by simp[Act.eval,qhC]) ?_;simp only[qho,if_false];refine wpS_of_wp (wp_skip ?_);cases c₀
 simp_all [bodyPostS,qk1,qqw]
theorem q8w(B:Nat)(x k:Int)(a6:List qlC)(w:qgt)(hB:w.heap[B]?=some (.cells #[.int .i64 x] 40 (0,0))) :CallsD Ya 161 #[.pointer (some ⟨B,0,none⟩)] (.panicking ({ v:=.iface 181 (.agg #[.int .i64 k]),recovered:=false }::a6)) w λe u' w' =>e=.returned (.tuple #[])/\u'=.panicking ({ v:=.iface 181 (.agg #[.int .i64 k]),recovered:=true }::a6)/\w'=(w.alloc (.cells #[.int .i64 k] 181)).setCell ⟨B,0,none⟩ (.int .i64 k):=by
 have a7:∀w,(qkx (.iface 181 (.agg #[.int .i64 k])) 20 181 true).run Ya w=.ok (.tuple #[.agg #[.int .i64 k],.bool true]) w:=λw=>by kernel_rfl
 have hc:=q9 (qr (p:=.cells #[.int .i64 k] 181) hB) (o:=0) rfl;have hz:=qq (qr (p:=.cells #[.int .i64 k] 181) hB) (o:=0);refine callsD_of_wpS Tp.x161 rfl λc₀ cs hu=>?_;apply wpS_seq;apply qoD;simp[wpOpsS,go_sem,recoverD,hu,qom,Exit.thenS,a7];apply wpS_seq;apply qoD;simp[wpOpsS,go_sem,recoverD,hu,qom,Exit.thenS];refine wpS_cond (t:=true) (by simp[Act.eval,qhC]) ?_;simp only[if_true];apply qoD;simp[wpOpsS,go_sem,hc,hz,bodyPostS,qk1,qqw]
theorem qeB(k:Int)(w:qgt):qhx Ya 162 #[.bool false,.int .i64 k] w λe w'=>e=.panicked [{ v:=.iface 181 (.agg #[.int .i64 k]),recovered:=false }]/\w=w':=by
 have a6:∀(x:Bool) (w:qgt),(Op.unary .not (.bool x)).run Ya w=.ok (.bool (!x)) w:=λ_ _=>rfl;go_enter Tp.x162,Tryz.ntmps162;go_wp2;exact⟨rfl,rfl,rfl⟩
def zy(l:List Int):Nat:=l.foldl (λm x=>m ||| 2 ^ x.toNat) 0
theorem q0o(l:List Int)(k:Nat)(x:Int)(h:l[k]?=some x):zy (l.take (k+1))=zy (l.take k) ||| 2 ^ x.toNat:=by
 rw[qi7,h];simp[zy]
theorem Qs(l:List Int)(n:Nat)(h:∀x∈l,x.toNat<n):zy l<2 ^ n:=by
 unfold zy;have key:∀(l:List Int) (m:Nat),m<2 ^ n->(∀x∈l,x.toNat<n)->l.foldl (λm x=>m ||| 2 ^ x.toNat) m<2 ^ n:=by
  intro l;induction l with
  | nil=>exact λm hm _=>hm
  | cons a t ih=>exact λm hm hx=>ih _ (Nat.or_lt_two_pow hm (Nat.pow_lt_pow_right (by omega) (hx a (by simp)))) λx hx'=>hx x (by simp[hx'])
 exact key l 0 (Nat.two_pow_pos n) h
theorem YF(l:List Int)(b:Nat):(zy l).testBit b=true↔∃x∈l,x.toNat=b:=by
 unfold zy;have key:∀(l:List Int) (m:Nat),(l.foldl (λm x=>m ||| 2 ^ x.toNat) m).testBit b=true↔m.testBit b=true\/∃x∈l,x.toNat=b:=by
  intro l;induction l with
  | nil=>simp
  | cons a t ih=>
   intro m;simp only[qje,ih,Nat.testBit_or,qju,Nat.testBit_two_pow,decide_eq_true_eq,qif,exists_eq_or_imp];constructor
   ·rintro((h | h) | h)
    ·exact .inl h
    ·exact .inr (.inl h)
    ·exact .inr (.inr h)
   ·rintro(h | h | h)
    ·exact .inl (.inl h)
    ·exact .inl (.inr h)
    ·exact .inr h
 rw[key l 0];simp
def kW(ps:List Par)(x:Int):Int:=match ps[x.toNat]? with | some p=>p.tall | none=>0
def qK(ps:List Par)(l:List Int):Int:=(l.map (kW ps)).foldl (·+·) 0
theorem q4D(ps:List Par)(l:List Int)(k:Nat)(x:Int)(h:l[k]?=some x):qK ps (l.take (k+1))=qK ps (l.take k)+kW ps x:=by
 rw[qi7,h];simp[qK]
def Kc(ps:List Par)(lim:Int)(l:List Int):Int:=if qK ps l<=lim then 0 else 10
theorem kZ(lo hi:Nat)(yv pv:qgx)(ps:List Par)(lim:Int)(l:List Int)(w:qgt)(hY:jo lo hi w yv ps lim)(hI:qe lo hi w pv l)(hhi:hi<=w.heap.size)(h5:ps.length<=5)(hx:∀x∈l,0<=x/\x<ps.length)(c8:l.Nodup)(ht:∀p∈ps,0<=p.tall/\p.tall<=1000)(k6:l.length<=100) :qhx Ya 133 #[yv,pv] w λe w'=>e=.returned (.int .i64 (Kc ps lim l))/\w.grownBy w' none:=by
 have m4:∀(fn:Fn) (first cap:Array qgx) (w:qgt),(Instr.makeFunc fn first cap).run Ya w=.ok (.func fn first cap) w:=λ_ _ _ _=>rfl;have k5:∀(x:Bool) (w:qgt),(Op.unary .not (.bool x)).run Ya w=.ok (.bool (!x)) w:=λ_ _=>rfl;obtain⟨qv,rfl,hP⟩:=hY;obtain⟨yb,yc,rfl,l4,-⟩:=hP.cell;obtain⟨base,cap,rfl,m5,-⟩:=hI.cell;obtain⟨A,hA⟩:∃A,A=w.heap.size:=⟨_,rfl⟩;obtain⟨w1,a8⟩:∃w1,w1=(w.alloc (.cells #[.slice yb ps.length yc,.int .i64 lim] 91)).alloc (.cells #[.int .i64 0] 40):=⟨_,rfl⟩;have b7:w.grownBy w1 none:=by rw[a8];exact(qgs _ _ none).trans (qgs _ _ none)
 have b8:w1.heap[A]?=some (.cells #[.slice yb ps.length yc,.int .i64 lim] 91 (0,0)):=by rw[a8,hA];exact qr (qgC w _)
 have e4:w1.heap[A+1]?=some (.cells #[.int .i64 0] 40 (0,0)):=by
  rw[a8];have:=qgC (w.alloc (.cells #[.slice yb ps.length yc,.int .i64 lim] 91)) (.cells #[.int .i64 0] 40);rw[qgF,<- hA] at this;exact this
 have k0:=qgr (hI.kept b7 (by simp));have g9:=qgr (hP.kept b7 (by simp));have HX:=qgr hx;have h8:=qgr c8;have HT:=qgr ht;have g7:=qgr a8;have HA:=qgr hA;have e8:=qgr b7;have g8:=qgr e4;have q0:=q9 b8 (o:=0) rfl;have q1:=q9 b8 (o:=1) rfl;have g6:w1.heap.size=A+2:=by rw[a8,qgF,qgF,hA]
 clear hI hP hx c8 ht a8 hA b7 b8 e4;go_enter_defers Tp.x133,Tryz.ntmps133;go_upto_region 4 with(fail);rw[<- HA.out,show(w.alloc (.cells #[.slice yb ps.length yc,.int .i64 lim] 91)).alloc (.cells #[.int .i64 0] 40)=w1 from g7.out.symm];go_wp2;go_loopw [5,6,12] (λmv tv iv wr=>∃k:Nat,iv=.int .i64 k/\k<=l.length/\mv=.int .u8 (zy (l.take k))/\tv=.int .i64 (qK ps (l.take k))/\0<=qK ps (l.take k)/\qK ps (l.take k)<=1000*k/\w1.grownBy wr none) (λ_ _ iv _=>(l.length - qia iv).toNat)
 case atStart=>exact⟨0,rfl,by omega,by simp[zy],by simp[qK],by simp[qK],by simp[qK],qh6 _ _⟩
 case round=>
  obtain⟨k,rfl,hk,rfl,rfl,ht0,ht1,hG⟩:=hrel;have HG:=qgr hG;have k8:=hG.cell q0 (by simp);have k7:=hG.cell q1 (by simp);have l7:=hG.size;clear hG;by_cases hlt:k<l.length
  ·have e7:=k0.out.kept HG.out (by simp);have e6:=g9.out.kept HG.out (by simp);obtain⟨b1,c1,he,-,hc⟩:=e7.cell;cases he;obtain⟨B,o,rfl,b8,n4,n3,e5⟩:=hc (by intro e;rw[e] at hlt;simp at hlt);have hx:=e5 k hlt;obtain⟨x,a6⟩:∃x,l[k]?=some x:=⟨_,qgB hlt⟩;obtain⟨l6,c3⟩:=HX.out x (qhc a6);rw[a6] at hx;simp only[qgD] at hx;have a7:(zy (l.take k)).testBit x.toNat=false:=by
    rw[Bool.eq_false_iff];intro h;obtain⟨y,hy,k9⟩:=(YF _ _).1 h;obtain⟨j,hj⟩:=qnx hy;have d8:j<k:=by have:=(qh0.1 hj).1;simp at this;omega
    rw[qjc d8] at hj;have l5:=HX.out y (qhc hj);obtain rfl:y=x:=by omega
    obtain⟨h1,h2⟩:=qh0.1 hj;obtain⟨h3,h4⟩:=qh0.1 a6;exact List.pairwise_iff_getElem.1 h8.out j k h1 h3 d8 (h2.trans h4.symm)
   have hM:zy (l.take k)<32:=Qs _ 5 λy hy=>by have:=HX.out y (qkE hy);omega
   have b6:=q0o l k x a6;have a9:=q4D ps l k x a6;obtain⟨m,rfl⟩:∃m:Nat,x=m:=⟨x.toNat,by omega⟩;obtain⟨b2,c2,he,-,hc⟩:=e6.cell;cases he;obtain⟨YB,yo,rfl,m8,m7,m6,d9⟩:=hc (by intro e;rw[e] at c3;simp at c3;omega);obtain⟨p,hp,p0,p1,p2,p3⟩:=d9 m (by omega);have l9:=HT.out p (qhc hp);rw[show kW ps m=p.tall by unfold kW;simp[hp]] at a9;simp only[Int.toNat_natCast] at a7 b6;have m3:(m:Int)<(ps.length:Int):=c3;have d7:m<5:=by omega
   generalize zy (l.take k)=M at a7 hM b6;generalize qK ps (l.take k)=T at ht0 ht1 a9;have e9:=qgr a7;have h9:=qgr b6;have d5:=qgr a9;have n6:=qgr a6;clear e7 e6 hc e5 d9 hp a7 b6 a9 a6;go_wp2_with (first
    | (go_at_call 110;go_must (refine(yG _ _ _ _ (by omega) (by omega)).mono ?_);rintro e w' ⟨rfl,rfl⟩)
    | (go_at_call 162;go_must (refine(qaq _ _).mono ?_);rintro e w' ⟨rfl,rfl⟩)
    | (go_at_call 129;go_must (refine(q71 M m _ hM d7).mono ?_);rintro e w' ⟨rfl,rfl⟩;rw[e9.out])
    | (go_at_call 151;go_must (refine(JY M m _ hM d7).mono ?_);rintro e w' ⟨rfl,rfl⟩)
    | (go_at_call 145;go_must (refine(q2v _ _ _ T p.tall _ (by exact qe.laid _ [T,p.tall] 2 rfl (by simp)) (by omega) (by omega)).mono ?_);rintro e w' ⟨rfl,rfl⟩))
   go_roundw
   case rel=>
    refine⟨k+1,by simp,by omega,by rw[h9.out],by rw[d5.out],by rw[d5.out];omega,by rw[d5.out];omega,HG.out.trans (qgs _ _ _)⟩
   case measure=>simp[qia];omega
  ·obtain rfl:k=l.length:=by omega
   rw[qiy] at ht0 ht1;rw[qiy];have HZ:=qgr (show Kc ps lim l=if qK ps l<=lim then 0 else 10 from rfl);generalize qK ps l=T at ht0 ht1 HZ;generalize zy l=M;have b0:=blk HG.out (by simp) g8.out;have n2:=q9 (o:=0) b0 rfl;have m9:=qq (o:=0) b0;have d6:=qgr b0;have l8:=g6;clear b0;by_cases b9:T<=lim
   ·have HC:=qgr (HZ.out.trans (if_pos b9));go_wp2_with (first
     | (go_at_call 162;go_must (refine(qaq _ _).mono ?_);rintro e w' ⟨rfl,rfl⟩))
    refine leaves_cons (f:=161) (args:=#[.pointer (some ⟨A+1,0,none⟩)]) (by simp) (by simp[go_sem]) ?_;refine(q68 ⟨A+1,0,none⟩ _).mono ?_;rintro e u' g5 ⟨rfl,rfl,rfl⟩;have c9:(((wr.setCell ⟨A+1,0,none⟩ (.int .i64 0)).alloc (.cells #[.int .i64 0] 181)).heap[A+1]?=some (.cells #[.int .i64 0] 40 (0,0))):=qr (by rw[qj d6.out];rfl);refine⟨.int .i64 0,?_,by rw[HC.out],?_⟩
    ·simp[qk1,qqx,go_sem,qhu,c9]
    ·have hh:=e8.out.trans HG.out;exact(hh.andThen (qh _ _ _ _) (by rintro j e;cases e;exact .inl (by have:=HA.out;omega))).trans (qgs _ _ _)
   ·have HC:=qgr (HZ.out.trans (if_neg b9));have c8:decide (T<=lim)=false:=by simp;omega
    go_wp2_with (first
     | (go_at_call 162;go_must (refine(qeB _ _).mono ?_);rintro e w' ⟨rfl,rfl⟩))
    refine leaves_cons (f:=161) (args:=#[.pointer (some ⟨A+1,0,none⟩)]) (by simp) (by simp[go_sem]) ?_;refine(q8w (A+1) 0 10 [] _ d6.out).mono ?_;rintro e u' g5 ⟨rfl,rfl,rfl⟩;have hh:=e8.out.trans HG.out;have c9:=qj (o:=0) (v:=.int .i64 10) (qr (p:=.cells #[.int .i64 10] 181) d6.out);simp[Leaves,settle,qk1,qqx,go_sem,qhu,c9,HC.out];exact(hh.trans (qgs _ _ none)).andThen (qh _ _ _ _) (by rintro j e;cases e;exact .inl (by have:=HA.out;omega))
structure YOk(ps:List Par)(lim:Int):Prop where
 len:ps.length<=5
 each:∀p∈ps,1<=p.mn/\p.mn<=p.mx/\p.mx<=12/\0<=p.bears/\p.bears<=30/\1<=p.tall/\p.tall<=3
 l1:1<=lim
 l2:lim<=12
theorem YOk.chk{ps:List Par}{lim:Int}(h:YOk ps lim):Kb ps lim=0:=by
 have h1:=h.len;unfold Kb;rw[if_neg (by omega),q1z _ ps (λi y hy=>by
  have:=h.each y (qhc hy);have hz:KI y=0:=by unfold KI;rw[if_pos (by omega),if_pos (by omega),if_neg (by omega),if_pos (by omega),if_pos (by omega)]
  simp[hz])]
 exact if_pos ⟨h.l1,h.l2⟩
structure POk(ps:List Par)(lim:Int)(l:List Int):Prop where
 ok:∀x∈l,0<=x/\x<ps.length
 nd:l.Nodup
 tall:qK ps l<=lim
 len:l.length<=100
structure PIn(ps:List Par)(l:List Int):Prop where
 ok:∀x∈l,0<=x/\x<ps.length
 nd:l.Nodup
 len:l.length<=100
theorem POk.pin{ps:List Par}{lim:Int}{l:List Int}(h:POk ps lim l):PIn ps l:=⟨h.ok,h.nd,h.len⟩
theorem POk.chk{ps:List Par}{lim:Int}{l:List Int}(h:POk ps lim l):Kc ps lim l=0:=if_pos h.tall
theorem Yx(lo hi:Nat)(pv qv:qgx)(ps:List Par)(lim:Int)(l:List Int)(w:qgt)(hP:qw lo hi w pv ps)(hI:qe lo hi w qv l)(hhi:hi<=w.heap.size)(hok:YOk ps lim)(hp:PIn ps l) :qhx Ya 81 #[.agg #[pv,.int .i64 lim],qv] w λe w'=>e=.returned (.tuple #[.agg #[pv,.int .i64 lim],.int .i64 (Kc ps lim l)])/\w.grownBy w' none:=by
 obtain⟨yb,yc,rfl,k0,-⟩:=hP.cell;obtain⟨base,cap,rfl,k8,-⟩:=hI.cell;obtain⟨A,hA⟩:∃A,A=w.heap.size:=⟨_,rfl⟩;obtain⟨w1,a8⟩:∃w1,w1=(w.alloc (.cells #[.slice yb ps.length yc,.int .i64 lim] 24)).alloc (.cells #[.slice none 0 0,.int .i64 0] 91):=⟨_,rfl⟩;have b9:w.grownBy w1 none:=by rw[a8];exact(qgs _ _ none).trans (qgs _ _ none)
 have c8:w1.heap[A]?=some (.cells #[.slice yb ps.length yc,.int .i64 lim] 24 (0,0)):=by rw[a8,hA];exact qr (qgC w _)
 have d7:w1.heap[A+1]?=some (.cells #[.slice none 0 0,.int .i64 0] 91 (0,0)):=by
  rw[a8];have:=qgC (w.alloc (.cells #[.slice yb ps.length yc,.int .i64 lim] 24)) (.cells #[.slice none 0 0,.int .i64 0] 91);rw[qgF,<- hA] at this;exact this
 have k7:w1.heap.size=A+2:=by rw[a8,qgF,qgF,hA]
 have g8:=qgr (hI.kept b9 (by simp));have e5:=qgr (hP.kept b9 (by simp));have e8:=qgr a8;have HA:=qgr hA;have h9:=qgr b9;have g5:=qgr d7;have l5:=qgr c8;have q0:=q9 c8 (o:=0) rfl;have q1:=q9 c8 (o:=1) rfl;have k9:hi<=A:=by omega
 have HY:=qgr hok;have c9:=qgr hp;clear hP hI hok hp a8 hA b9 d7 c8;go_enter Tp.x81,Tryz.ntmps81;go_upto_region 1 with(fail);rw[<- HA.out,show(w.alloc (.cells #[.slice yb ps.length yc,.int .i64 lim] 24)).alloc (.cells #[.slice none 0 0,.int .i64 0] 91)=w1 from e8.out.symm];go_upto_region 4 with(first
  | (go_at_call 52;go_must (refine(q8v lo hi _ ps lim _ ⟨_,rfl,e5.out⟩ (by omega)).mono ?_);rintro e w2 ⟨rfl,e4⟩;rw[HY.out.chk];have a7:=qgr e4;clear e4))
 have p0:=a7.out.cell q0 (by simp);have p1:=a7.out.cell q1 (by simp);have k6:=a7.out.size;clear q0 q1;go_upto_region 5 with(fail);obtain⟨Y,b7⟩:∃Y,Y=w2.heap.size:=⟨_,rfl⟩;obtain⟨w3,a9⟩:∃w3,w3=w2.alloc (.cells #[.slice yb ps.length yc,.int .i64 lim] 91):=⟨_,rfl⟩;have b0:w2.grownBy w3 none:=by rw[a9];exact qgs _ _ none
 have c3:w3.heap[Y]?=some (.cells #[.slice yb ps.length yc,.int .i64 lim] 91 (0,0)):=by rw[a9,b7];exact qgC _ _
 have k5:w3.heap.size=Y+1:=by rw[a9,qgF,b7]
 rw[<- b7,<- a9];have q0:=q9 c3 (o:=0) rfl;have q1:=q9 c3 (o:=1) rfl;have b6:=qgr (blk b0 (by simp) (blk a7.out (by simp) g5.out));have e6:=qgr c3;have h8:=qgr ((h9.out.trans a7.out).trans b0);have g7:=qgr ((g8.out.kept a7.out (by simp)).kept b0 (by simp));have g6:=qgr ((e5.out.kept a7.out (by simp)).kept b0 (by simp));have l4:A+1<Y:=by omega
 clear b0 c3 a9 b7 p0 p1;go_region_law
  (first
   | (go_simp;go_at_call 133;refine(kZ lo hi _ _ ps lim l _ ⟨_,rfl,g6.out.kept (qg _ none) (by simp)⟩ (g7.out.kept (qg _ none) (by simp)) (by simp;omega) HY.out.len c9.out.ok c9.out.nd (λp hp=>by have:=HY.out.each p hp;omega) c9.out.len).mono ?_;rintro e w4 ⟨rfl,d9⟩;have a6:=qgr ((qg w3 none).trans d9);have r0:=q9 (o:=0) (blk a6.out (by simp) e6.out) rfl;have r1:=q9 (o:=1) (blk a6.out (by simp) e6.out) rfl;have s0:=q9 (o:=0) (blk a6.out (by simp) b6.out) rfl;have s1:=q9 (o:=1) (blk a6.out (by simp) b6.out) rfl;have f0:=qq (o:=0) (blk a6.out (by simp) b6.out);have f1:=qq (o:=1) (blk a6.out (by simp) b6.out);clear d9))
 all_goals
  have d5:=blk a6.out (by simp) b6.out;obtain⟨W,b8⟩:∃W,W=(w4.setCell ⟨A+1,0,none⟩ (.slice yb ps.length yc)).setCell ⟨A+1,1,none⟩ (.int .i64 lim):=⟨_,rfl⟩;have d6:W.heap[A+1]?=some (.cells #[.slice yb ps.length yc,.int .i64 lim] 91 (0,0)):=by rw[b8,qj (qj d5)];rfl
  have d8:w.grownBy W none:=(h8.out.trans a6.out).andThen (row':=some (A+1)) (by rw[b8];exact(qh _ _ _ _).trans (qh _ _ _ _)) (by rintro j e;cases e;exact .inl (by have:=HA.out;omega));have e9:=qgr d6;have g9:=qgr d8;have e7:=qgr b8;clear d5 d6 d8 b8;go_wp2;rw[<- e7.out];exact qjD (v:=.tuple #[.agg #[.slice yb ps.length yc,.int .i64 lim],.int .i64 (Kc ps lim l)]) (by simp[qk1,Tryz.results81,go_sem,qhu,e9.out]) rfl ⟨rfl,g9.out⟩
theorem x9(lo hi:Nat)(pv qv:qgx)(ps:List Par)(lim:Int)(l:List Int)(w:qgt)(hP:qw lo hi w pv ps)(hI:qe lo hi w qv l)(hhi:hi<=w.heap.size)(hok:YOk ps lim)(hp:POk ps lim l) :qhx Ya 81 #[.agg #[pv,.int .i64 lim],qv] w λe w'=>e=.returned (.tuple #[.agg #[pv,.int .i64 lim],.int .i64 0])/\w.grownBy w' none:=by
 have h:=Yx lo hi pv qv ps lim l w hP hI hhi hok hp.pin
 rwa [hp.chk] at h
def q92(a b:Bool):Int:=if a != b then 3 else if a then 1 else 2
theorem q2f(a b:Bool)(w:qgt):qhx Ya 95 #[.bool a,.bool b] w λe w'=>e=.returned (.int .i64 (q92 a b))/\w=w':=by
 cases a<;>cases b;all_goals
  go_enter Tp.x95,Tryz.ntmps95;go_wp2;go_ret;exact⟨rfl,rfl⟩
theorem q5l(a b c d:Int)(w:qgt):qhx Ya 39 #[.int .i64 a,.int .i64 b,.int .i64 c,.int .i64 d] w λe w'=>e=.returned (.agg #[.int .i64 a,.int .i64 b,.int .i64 c,.int .i64 d])/\w.grownBy w' none:=by
 obtain⟨A,hA⟩:∃A,A=w.heap.size:=⟨_,rfl⟩;obtain⟨w1,a6⟩:∃w1,w1=w.alloc (.cells #[.int .i64 0,.int .i64 0,.int .i64 0,.int .i64 0] 28):=⟨_,rfl⟩;have hR:w1.heap[A]?=some (.cells #[.int .i64 0,.int .i64 0,.int .i64 0,.int .i64 0] 28 (0,0)):=by rw[a6,hA];exact qgC w _
 have hG:w.grownBy w1 none:=by rw[a6];exact qgs _ _ none
 have HA:=qgr hA;have b6:=qgr a6;have HR:=qgr hR;have HG:=qgr hG;have r0:=q9 (o:=0) hR rfl;have r1:=q9 (o:=1) hR rfl;have r2:=q9 (o:=2) hR rfl;have r3:=q9 (o:=3) hR rfl;have fz:∀o,w1.frozen? ⟨A,o,none⟩=false:=λo=>qq hR;clear hA a6 hR hG;go_enter Tp.x39,Tryz.ntmps39;go_upto_region 1 with(fail);rw[<- HA.out,show w.alloc (.cells #[.int .i64 0,.int .i64 0,.int .i64 0,.int .i64 0] 28)=w1 from b6.out.symm];obtain⟨W,a7⟩:∃W,W=(((w1.setCell ⟨A,0,none⟩ (.int .i64 a)).setCell ⟨A,1,none⟩ (.int .i64 b)).setCell ⟨A,2,none⟩ (.int .i64 c)).setCell ⟨A,3,none⟩ (.int .i64 d):=⟨_,rfl⟩;have a8:W.heap[A]?=some (.cells #[.int .i64 a,.int .i64 b,.int .i64 c,.int .i64 d] 28 (0,0)):=by rw[a7,qj (qj (qj (qj HR.out)))];rfl
 have a9:w.grownBy W none:=HG.out.andThen (row':=some A) (by rw[a7];exact(((qh _ _ _ _).trans (qh _ _ _ _)).trans (qh _ _ _ _)).trans (qh _ _ _ _)) (by rintro j e;cases e;exact .inl (by have:=HA.out;omega));have b7:=qgr a8;have b8:=qgr a9;have b0:=qgr a7;clear a8 a9 a7;go_wp2;rw[<- b0.out];exact qjD (v:=.agg #[.int .i64 a,.int .i64 b,.int .i64 c,.int .i64 d]) (by simp[qk1,Tryz.results39,go_sem,qhu,b7.out]) rfl ⟨rfl,b8.out⟩
def zi(n:Int):List Par:=[⟨8,10,n,2⟩,⟨4,6,6,2⟩,⟨2,3,3,1⟩,⟨5,5,0,1⟩]
theorem YOk.mn{ps:List Par}{lim:Int}(h:YOk ps lim)(i:Nat):0<=pre Par.mn ps ps.length i/\pre Par.mn ps ps.length i<=1000:=by
 unfold pre;split
 ·rename_i hi
  rw[qgB hi];have:=h.each _ (qly hi);simp only;omega
 ·omega
theorem YOk.mx{ps:List Par}{lim:Int}(h:YOk ps lim)(i:Nat):0<=pre Par.mx ps ps.length i/\pre Par.mx ps ps.length i<=1000:=by
 unfold pre;split
 ·rename_i hi
  rw[qgB hi];have:=h.each _ (qly hi);simp only;omega
 ·omega
def Qj(ps:List Par)(l:List Int):Int:=q92 (qu ps (pre Par.mn ps ps.length) l) (qu ps (pre Par.mx ps ps.length) l)
theorem q03(lo hi:Nat)(pv qv:qgx)(ps:List Par)(lim:Int)(l:List Int)(w:qgt)(hP:qw lo hi w pv ps)(hI:qe lo hi w qv l)(hhi:hi<=w.heap.size)(hok:YOk ps lim)(hp:POk ps lim l) :qhx Ya 37 #[.agg #[pv,.int .i64 lim],qv] w λe w'=>e=.returned (.tuple #[.int .i64 (Qj ps l),.int .i64 0])/\w.grownBy w' none:=by
 obtain⟨yb,yc,rfl,k8,-⟩:=hP.cell;obtain⟨base,cap,rfl,k9,-⟩:=hI.cell;obtain⟨A,hA⟩:∃A,A=w.heap.size:=⟨_,rfl⟩;obtain⟨w1,a8⟩:∃w1,w1=w.alloc (.cells #[.slice yb ps.length yc,.int .i64 lim] 24):=⟨_,rfl⟩;have b7:w.grownBy w1 none:=by rw[a8];exact qgs _ _ none
 have c9:w1.heap[A]?=some (.cells #[.slice yb ps.length yc,.int .i64 lim] 24 (0,0)):=by rw[a8,hA];exact qgC w _
 have g7:w1.heap.size=A+1:=by rw[a8,qgF,hA]
 have e7:=qgr (hI.kept b7 (by simp));have e6:=qgr (hP.kept b7 (by simp));have g8:=qgr a8;have HA:=qgr hA;have k5:=qgr b7;have q0:=q9 c9 (o:=0) rfl;have q1:=q9 c9 (o:=1) rfl;have l4:hi<=A:=by omega
 have HY:=qgr hok;have d6:=qgr hp;clear hP hI hok hp a8 hA b7 c9;go_enter Tp.x37,Tryz.ntmps37;go_upto_region 1 with(fail);rw[<- HA.out,show w.alloc (.cells #[.slice yb ps.length yc,.int .i64 lim] 24)=w1 from g8.out.symm];go_upto_region 2 with(first
  | (go_at_call 81;go_must (refine(x9 lo hi _ _ ps lim l _ e6.out e7.out (by omega) HY.out d6.out).mono ?_);rintro e w2 ⟨rfl,e5⟩;have b9:=qgr e5;clear e5))
 have g6:=b9.out.size;obtain⟨Y,b0⟩:∃Y,Y=w2.heap.size:=⟨_,rfl⟩;obtain⟨w3,a7⟩:∃w3,w3=w2.alloc (.cells #[.slice yb ps.length yc,.int .i64 lim] 91):=⟨_,rfl⟩;have b6:w2.grownBy w3 none:=by rw[a7];exact qgs _ _ none
 have b8:w3.heap[Y]?=some (.cells #[.slice yb ps.length yc,.int .i64 lim] 91 (0,0)):=by rw[a7,b0];exact qgC _ _
 have g5:w3.heap.size=Y+1:=by rw[a7,qgF,b0]
 rw[<- b0,<- a7];clear q0 q1;have s0:=q9 b8 (o:=0) rfl;have s1:=q9 b8 (o:=1) rfl;have a6:=qgr b8;have k0:=qgr ((k5.out.trans b9.out).trans b6);have h9:=qgr ((e7.out.kept b9.out (by simp)).kept b6 (by simp));have g9:=qgr ((e6.out.kept b9.out (by simp)).kept b6 (by simp));have l5:A<Y:=by omega
 have a9:hi<=w3.heap.size:=by omega
 clear b6 b8 a7 b0 g7 g6 g5;go_upto_region 4 with(fail);have HT:=qgr (qh6 w3 none);have d7:∀W,w3.grownBy W none->jo lo hi W (.agg #[.slice yb ps.length yc,.int .i64 lim]) ps lim:=λW h=>⟨_,rfl,g9.out.kept h (by simp)⟩;have d8:∀W,w3.grownBy W none->qe lo hi W (.slice base l.length cap) l:=λW h=>h9.out.kept h (by simp);have d5:=qgr d7;have h8:=qgr d8;clear d7 d8;have SC:=qgr (qhb s0 s1);obtain⟨gm,c8⟩:∃gm,gm=pre Par.mn ps ps.length:=⟨_,rfl⟩;obtain⟨gx,c3⟩:∃gx,gx=pre Par.mx ps ps.length:=⟨_,rfl⟩;have e4:∀i,0<=gm i/\gm i<=1000:=by rw[c8];exact HY.out.mn
 have d9:∀i,0<=gx i/\gx i<=1000:=by rw[c3];exact HY.out.mx
 have e9:=qgr c8;have e8:=qgr c3;have k7:=qgr e4;have k6:=qgr d9;clear c8 c3 e4 d9;go_region_held3 (λw'=>w'.cell? ⟨Y,0,none⟩=some (.slice yb ps.length yc)/\w'.cell? ⟨Y,1,none⟩=some (.int .i64 lim))
  (first | exact SC.out)
  (first
   | (go_at_call 93;refine(Qu lo hi _ ps lim _ (d5.out _ (by first | exact HT.out | exact HT.out.trans (qg _ _))) (qgE a9 (by first | exact HT.out.size | exact(HT.out.trans (qg _ none)).size)) HY.out.len).mono ?_;rintro e w5 ⟨rfl,hg⟩;rw[<- e9.out];replace HT:=qgr (show w3.grownBy w5 none by first | exact HT.out.trans hg | exact(HT.out.trans (qg _ _)).trans hg);replace SC:=qgr (show w5.cell? ⟨Y,0,none⟩=some (.slice yb ps.length yc)/\w5.cell? ⟨Y,1,none⟩=some (.int .i64 lim) from⟨q9 (blk HT.out (by simp) a6.out) rfl,q9 (blk HT.out (by simp) a6.out) rfl⟩);clear hg)
   | (go_at_call 92;refine(xZ lo hi _ ps lim _ (d5.out _ (by first | exact HT.out | exact HT.out.trans (qg _ _))) (qgE a9 (by first | exact HT.out.size | exact(HT.out.trans (qg _ none)).size)) HY.out.len).mono ?_;rintro e w5 ⟨rfl,hg⟩;rw[<- e8.out];replace HT:=qgr (show w3.grownBy w5 none by first | exact HT.out.trans hg | exact(HT.out.trans (qg _ _)).trans hg);replace SC:=qgr (show w5.cell? ⟨Y,0,none⟩=some (.slice yb ps.length yc)/\w5.cell? ⟨Y,1,none⟩=some (.int .i64 lim) from⟨q9 (blk HT.out (by simp) a6.out) rfl,q9 (blk HT.out (by simp) a6.out) rfl⟩);clear hg)
   | (go_at_call 96;refine(kr lo hi _ _ ps lim l _ _ (d5.out _ (by first | exact HT.out | exact HT.out.trans (qg _ _))) (h8.out _ (by first | exact HT.out | exact HT.out.trans (qg _ _))) (qgE a9 (by first | exact HT.out.size | exact(HT.out.trans (qg _ none)).size)) HY.out.len d6.out.ok (by have:=d6.out.len;omega) (by first | exact k7.out | exact k6.out)).mono ?_;rintro e w5 ⟨rfl,hg⟩;replace HT:=qgr (show w3.grownBy w5 none by first | exact HT.out.trans hg | exact(HT.out.trans (qg _ _)).trans hg);replace SC:=qgr (show w5.cell? ⟨Y,0,none⟩=some (.slice yb ps.length yc)/\w5.cell? ⟨Y,1,none⟩=some (.int .i64 lim) from⟨q9 (blk HT.out (by simp) a6.out) rfl,q9 (blk HT.out (by simp) a6.out) rfl⟩);clear hg)
   | (go_at_call 95;refine(q2f _ _ _).mono ?_;rintro e w5 ⟨rfl,rfl⟩))
 have HV:=qgr (show Qj ps l=q92 (qu ps gm l) (qu ps gx l) by rw[e9.out,e8.out];rfl);generalize q92 (qu ps gm l) (qu ps gx l)=z at HV ⊢;go_wp2;go_ret2;exact⟨by rw[HV.out];rfl,k0.out.trans HT.out⟩
theorem q2y(lo hi:Nat)(pv qv:qgx)(ps:List Par)(lim:Int)(l:List Int)(w:qgt)(hP:qw lo hi w pv ps)(hI:qe lo hi w qv l)(hhi:hi<=w.heap.size)(hok:YOk ps lim)(hp:PIn ps l) :qhx Ya 37 #[.agg #[pv,.int .i64 lim],qv] w λe w'=>∃v,e=.returned (.tuple #[.int .i64 v,.int .i64 (Kc ps lim l)])/\(qK ps l<=lim->v=Qj ps l)/\w.grownBy w' none:=by
 by_cases ht:qK ps l<=lim
 ·refine(q03 lo hi pv qv ps lim l w hP hI hhi hok ⟨hp.ok,hp.nd,ht,hp.len⟩).mono ?_;rintro e w' ⟨rfl,hg⟩;exact⟨_,by rw[show Kc ps lim l=0 from if_pos ht],λ_=>rfl,hg⟩
 ·have hc:Kc ps lim l=10:=if_neg ht;obtain⟨yb,yc,rfl,b0,-⟩:=hP.cell;obtain⟨base,cap,rfl,b6,-⟩:=hI.cell;have HP:=qgr hP;have HI:=qgr hI;have HC:=qgr hc;have a8:=qgr hok;have a7:=qgr hp;clear hP hI hc hok hp;go_enter Tp.x37,Tryz.ntmps37;go_wp2_with (first
   | (go_at_call 81;go_must (refine(Yx lo hi _ _ ps lim l _ (HP.out.kept (qgs _ _ none) (by simp)) (HI.out.kept (qgs _ _ none) (by simp)) (qgE hhi (qgs w _ none).size) a8.out a7.out).mono ?_);rintro e w2 ⟨rfl,a6⟩;rw[HC.out];have a9:=qgr ((qgs w (.cells #[.slice yb ps.length yc,.int .i64 lim] 24) none).trans a6);clear a6))
  go_ret2;exact⟨0,by rw[HC.out];rfl,λh=>by omega,a9.out.trans (qgs _ _ none)⟩
def zU(ps:List Par)(g:Nat->Int)(l:List Int):Nat->Int
 | 0=>30
 | k+1=>match ps[(l[k]?.getD 0).toNat]? with | some p=>min (zU ps g l k) (p.bears - loadAt g l k) | none=>zU ps g l k
theorem q0a(lo hi:Nat)(yv pv:qgx)(ps:List Par)(lim:Int)(l:List Int)(g:Nat->Int)(w:qgt)(hY:jo lo hi w yv ps lim)(hI:qe lo hi w pv l)(hhi:hi<=w.heap.size)(h5:ps.length<=5)(hx:∀x∈l,0<=x/\x<ps.length)(hl:l.length<=1000)(hg:∀i,0<=g i/\g i<=1000)(hb:∀p∈ps,0<=p.bears/\p.bears<=1000) :qhx Ya 94 #[yv,pv,wts g] w λe w'=>e=.returned (.int .i64 (zU ps g l l.length))/\w.grownBy w' none:=by
 obtain⟨qv,rfl,hP⟩:=hY;obtain⟨yb,yc,rfl,g6,-⟩:=hP.cell;obtain⟨base,cap,rfl,k0,-⟩:=hI.cell;obtain⟨A,hA⟩:∃A,A=w.heap.size:=⟨_,rfl⟩;obtain⟨w1,a6⟩:∃w1,w1=(w.alloc (.cells #[.slice yb ps.length yc,.int .i64 lim] 91)).alloc (qG g):=⟨_,rfl⟩;have b7:w.grownBy w1 none:=by rw[a6];exact(qgs _ _ none).trans (qgs _ _ none)
 have a9:w1.heap[A]?=some (.cells #[.slice yb ps.length yc,.int .i64 lim] 91 (0,0)):=by rw[a6,hA];exact qr (qgC w _)
 have a7:w1.heap[A+1]?=some (qG g):=by
  rw[a6];have:=qgC (w.alloc (.cells #[.slice yb ps.length yc,.int .i64 lim] 91)) (qG g);rw[qgF,<- hA] at this;exact this
 have h8:w1.heap.size=A+2:=by rw[a6,qgF,qgF,hA]
 have d7:=qgr (hI.kept b7 (by simp));have e6:=qgr (hP.kept b7 (by simp));have HX:=qgr hx;have d8:=qgr hg;have e5:=qgr a6;have HA:=qgr hA;have e7:=qgr b7;have l7:=qgr a9;have q0:=q9 a9 (o:=0) rfl;have q1:=q9 a9 (o:=1) rfl;have r0:=qn a7 (show 0<5 by omega);have r1:=qn a7 (show 1<5 by omega);have r2:=qn a7 (show 2<5 by omega);have r3:=qn a7 (show 3<5 by omega);have r4:=qn a7 (show 4<5 by omega);have k5:hi<=A:=by omega
 clear hI hP hx hg a6 hA b7 a9 a7;unfold wts;go_enter Tp.x94,Tryz.ntmps94;go_upto_region 2 with(fail);rw[<- HA.out,show(w.alloc (.cells #[.slice yb ps.length yc,.int .i64 lim] 91)).alloc (.cells #[.int .i64 (g 0),.int .i64 (g 1),.int .i64 (g 2),.int .i64 (g 3),.int .i64 (g 4)] 101)=w1 from e5.out.symm];go_wp2_with (first | (go_at_call 91;go_must (refine(Qt lo hi _ _ l g _ d7.out (by omega) (by intro x hx;have:=HX.out x hx;omega) hl d8.out ⟨_,_,rfl⟩).mono ?_);rintro e w2 ⟨lv,rfl,c8,hL2⟩;have a8:=hL2.cell;rw[yZ] at a8;obtain⟨lb,lc,rfl,-,a8⟩:=a8;have e8:=qgr a8;clear a8;have b0:=qgr c8;have l6:=qgr hL2;clear c8 hL2));have d9:=b0.out.cell q0 (by simp);have g9:=b0.out.size;clear r0 r1 r2 r3 r4 q0 q1;have e9:=qgr hb;clear hb;go_loopw [7,15] (λnv iv wr=>∃k:Nat,iv=.int .i64 k/\k<=l.length/\nv=.int .i64 (zU ps g l k)/\w2.grownBy wr none) (λ_ iv _=>(l.length - qia iv).toNat)
 case atStart=>exact⟨0,rfl,by omega,rfl,qh6 _ _⟩
 case round=>
  obtain⟨k,rfl,hk,rfl,hG⟩:=hrel;have HG:=qgr hG;have g5:=hG.cell d9 (by simp);have g8:=hG.size;by_cases hlt:k<l.length
  ·have d6:=(d7.out.kept b0.out (by simp)).kept hG (by simp);have d5:=(e6.out.kept b0.out (by simp)).kept hG (by simp);obtain⟨b1,c1,he,-,hc⟩:=d6.cell;cases he;obtain⟨B,o,rfl,a9,l5,l4,c9⟩:=hc (by intro e;rw[e] at hlt;simp at hlt);have hx:=c9 k hlt;obtain⟨x,b6⟩:∃x,l[k]?=some x:=⟨_,qgB hlt⟩;obtain⟨g7,b8⟩:=HX.out x (qhc b6);rw[b6] at hx;simp only[qgD] at hx;obtain⟨m,rfl⟩:∃m:Nat,x=m:=⟨x.toNat,by omega⟩;obtain⟨b2,c2,he,-,hc⟩:=d5.cell;cases he;obtain⟨YB,yo,rfl,k9,k8,k7,c3⟩:=hc (by intro e;rw[e] at b8;simp at b8;omega);obtain⟨p,hp,p0,p1,p2,p3⟩:=c3 m (by omega);obtain⟨LB,lo',rfl,hL1,hL2,hL3,hL4⟩:=e8.out (by intro e;have:=yZ g l;rw[e] at this;simp at this;omega);have b9:=HG.out.cell (hL4 k hlt) (by simp);rw[JT g l k hlt] at b9;have hs:zU ps g l (k+1)=min (zU ps g l k) (p.bears - loadAt g l k):=by simp[zU,b6,hp]
   have k6:=e9.out p (qhc hp);have e4:=q0u g l k d8.out hl;have h9:(m:Int)<(ps.length:Int):=b8;generalize loadAt g l k=ld at b9 hs e4;generalize zU ps g l k=S0 at hs;obtain⟨M,hM⟩:∃M,min S0 (p.bears - ld)=M:=⟨_,rfl⟩;have hmm:(if p.bears - ld<S0 then p.bears - ld else S0)=M:=by rw[<- hM];omega
   have HS:=qgr (hs.trans hM);clear hG d6 d5 hc c9 c3 hL4 b6 hp hs;go_upto_region 5 with(fail);go_quiet (fail);go_wp2;go_roundw
   case rel=>exact⟨k+1,by simp,by omega,by rw[HS.out],HG.out.trans (qk _ _ _)⟩
   case measure=>simp[qia];omega
  ·obtain rfl:k=l.length:=by omega
   clear hG;go_wp2;go_ret;exact⟨rfl,(e7.out.trans b0.out).trans HG.out⟩
theorem zW(la ha lb hb:Nat)(va vb:qgx)(a b:List Int)(w:qgt)(hA:qe la ha w va a)(hB:qe lb hb w vb b) :qhx Ya 31 #[va,vb] w λe w'=>e=.returned (.bool (decide (a=b)))/\w.grownBy w' none:=by
 obtain⟨ba,ca,rfl,b7,h1⟩:=hA.cell;obtain⟨bb,cb,rfl,hl2,h2⟩:=hB.cell;have H1:=qgr h1;have H2:=qgr h2;clear h1 h2 hA hB;by_cases a6:a.length=b.length
 ·have HL:=qgr a6;have a8:((a.length:Int) != (b.length:Int))=false:=by rw[a6];simp
  clear a6;go_enter Tp.x31,Tryz.ntmps31;go_wp2;go_loopw [5] (λiv wr=>∃k:Nat,iv=.int .i64 k/\k<=a.length/\(∀i,i<k->a[i]?=b[i]?)/\w.grownBy wr none) (λiv _=>(a.length - qia iv).toNat)
  case atStart=>exact⟨0,rfl,by omega,λi hi=>absurd hi (by omega),qh6 _ _⟩
  case round=>
   obtain⟨k,rfl,hk,hok,hG⟩:=hrel;have b6:=qgr hok;have HG:=qgr hG;clear hok;by_cases hlt:k<a.length
   ·have a7:k<b.length:=by have:=HL.out;omega
    obtain⟨A1,o1,rfl,d7,d6,d5,b0⟩:=H1.out (by intro e;rw[e] at hlt;simp at hlt);obtain⟨B1,o2,rfl,c9,c8,c3,a9⟩:=H2.out (by intro e;rw[e] at a7;simp at a7);have x1:=hG.cell (b0 k hlt) (by simp);have x2:=hG.cell (a9 k a7) (by simp);have e1:a[k]?=some (a[k]?.getD 0):=by simp[qgB hlt]
    have e2:b[k]?=some (b[k]?.getD 0):=by simp[qgB a7]
    generalize a[k]?.getD 0=x at x1 e1;generalize b[k]?.getD 0=y at x2 e2;have b8:(k:Int)<(b.length:Int):=by omega
    have b9:(k:Int)<(a.length:Int):=by omega
    have E1:=qgr e1;have E2:=qgr e2;clear b0 a9 hG e1 e2;by_cases hxy:x=y
    ·subst hxy;go_upto_region 6 with(fail);go_quiet (fail);go_wp2;go_roundw
     case rel=>
      refine⟨k+1,by simp,by omega,λi hi=>?_,HG.out.trans (qk _ _ _)⟩;by_cases e:i=k
      ·rw[e,E1.out,E2.out]
      ·exact b6.out i (by omega)
     case measure=>simp[qia];omega
    ·have HR:=qgr (show decide (a=b)=false by
      rw[decide_eq_false_iff_not];intro e;have h1:=E1.out;rw[e,E2.out] at h1;exact hxy (by cases h1;rfl))
     have hne:(x != y)=true:=by simp[hxy]
     go_upto_region 6 with(fail);go_quiet (fail);go_wp2;go_ret;exact⟨by rw[HR.out];rfl,HG.out.trans (qk _ _ _)⟩
   ·obtain rfl:k=a.length:=by omega
    have HR:=qgr (show decide (a=b)=true by
     rw[decide_eq_true_eq];refine qlm λi=>?_;by_cases hi:i<a.length
     ·exact b6.out i hi
     ·rw[qi5 (by omega),qi5 (by have:=HL.out;omega)])
    clear hG;go_wp2;go_ret;exact⟨by rw[HR.out];rfl,HG.out⟩
 ·have HR:=qgr (show decide (a=b)=false by
   rw[decide_eq_false_iff_not];intro e;exact a6 (by rw[e]))
  have a8:((a.length:Int) != (b.length:Int))=true:=by simp;omega
  clear a6;go_enter Tp.x31,Tryz.ntmps31;go_wp2;go_ret;exact⟨by rw[HR.out];rfl,qh6 _ _⟩
def qS(w:qgt)(b g:Nat):Prop :=
 ∃(base:Option qi2) (len cap:Nat) (g':Nat) (s:Int),g'<=g/\w.heap[b]?=some (.cells #[.slice base len cap,.int .i64 g',.int .u64 s] 89 (0,0))/\(len:Int)<=9223372036854775807 /\
  (0<len->∃lb lo,base=some ⟨lb,lo,none⟩/\lb<b/\∀i,i<len->∃x,w.cell? ⟨lb,lo+i,none⟩=some (.int .i64 x))
theorem qS.mono{w:qgt}{b g g':Nat}(h:qS w b g)(hg:g<=g'):qS w b g':=by
 obtain⟨base,len,cap,k,s,hk,r⟩:=h;exact⟨base,len,cap,k,s,by omega,r⟩
theorem q2p{w:qgt}{b g:Nat}{base:Option qi2}{len cap:Nat}{s s':Int}{z:qgx}(hb:w.heap[b]?=some (.cells #[.slice base len cap,.int .i64 g,.int .u64 s] 89 (0,0)))(hl:(len:Int)<=9223372036854775807)(hr:0<len->∃lb lo,base=some ⟨lb,lo,none⟩/\lb<b/\∀i,i<len->∃x,w.cell? ⟨lb,lo+i,none⟩=some (.int .i64 x))(nq:Nat) :w.grownBy ((((w.drewN nq).setCell ⟨b,1,none⟩ (.int .i64 (g+1))).setCell ⟨b,2,none⟩ z).setCell ⟨b,2,none⟩ (.int .u64 s')).drew (some b) /\qS ((((w.drewN nq).setCell ⟨b,1,none⟩ (.int .i64 (g+1))).setCell ⟨b,2,none⟩ z).setCell ⟨b,2,none⟩ (.int .u64 s')).drew b (g+1) /\((((w.drewN nq).setCell ⟨b,1,none⟩ (.int .i64 (g+1))).setCell ⟨b,2,none⟩ z).setCell ⟨b,2,none⟩ (.int .u64 s')).drew.heap.size=w.heap.size:=by
 refine⟨((((qk w nq _).trans (qh _ b 1 _)).trans (qh _ b 2 _)).trans (qh _ b 2 _)).trans (qg _ _),?_,by simp[qja,World.drewN,World.drew]⟩;have h1:(w.drewN nq).heap[b]?=some (.cells #[.slice base len cap,.int .i64 g,.int .u64 s] 89 (0,0)):=hb;have h2:=qj (o:=2) (v:=.int .u64 s') (qj (o:=2) (v:=z) (qj (o:=1) (v:=.int .i64 (g+1)) h1));refine⟨base,len,cap,g+1,s',qgw _,by simpa[World.drew] using h2,hl,λhp=>?_⟩;obtain⟨lb,lo,e1,e2,e4⟩:=hr hp;refine⟨lb,lo,e1,e2,λi hi=>?_⟩;obtain⟨x,hx⟩:=e4 i hi;refine⟨x,?_⟩;have hne:∀o,(⟨b,o,none⟩:qi2)≠⟨lb,lo+i,none⟩:=λo e=>by cases e;omega
 show qhu ((((w.drewN nq).setCell ⟨b,1,none⟩ (.int .i64 (g+1))).setCell ⟨b,2,none⟩ z).setCell ⟨b,2,none⟩ (.int .u64 s')) _=_;rw[qiB _ _ _ _ (hne _),qiB _ _ _ _ (hne _),qiB _ _ _ _ (hne _)];exact hx
theorem qS.lt{w:qgt}{b g:Nat}(h:qS w b g):b<w.heap.size:=by
 obtain⟨_,_,_,_,_,_,hb,_⟩:=h;exact(qgu.1 hb).1
theorem qS.kept{w w':qgt}{b g:Nat}{row:Option Nat}(h:qS w b g)(hg:w.grownBy w' row)(hr:∀B,row=some B->b<B):qS w' b g:=by
 have hlt:=h.lt;have hne:some b≠row:=λe=>by have:=hr b e.symm;omega
 obtain⟨base,len,cap,g',s,hk,hb,hl,hr'⟩:=h;refine⟨base,len,cap,g',s,hk,(hg.block b hlt hne).trans hb,hl,λhp=>?_⟩;obtain⟨lb,lo,e1,e2,e4⟩:=hr' hp;exact⟨lb,lo,e1,e2,λi hi=>(e4 i hi).imp λx hx=>hg.cell hx (λe=>by have:=hr lb e.symm;omega)⟩
theorem qS.alloc{w:qgt}{b g:Nat}(h:qS w b g)(o:Obj):qS (w.alloc o) b g:=h.kept (qgs w o none) (by simp)
theorem qS.set{w:qgt}{b g X o:Nat}{v:qgx}(h:qS w b g)(hX:b<X):qS (w.setCell ⟨X,o,none⟩ v) b g:=h.kept (qh w X o v) (by rintro B e;cases e;exact hX)
theorem qeh{w w':qgt}{b B e size n:Nat}{v:qgx}{xs:List qgx}(hg:w.grownBy w' (some b))(h:w.ownsRow B e size v n xs)(hb:b<B):w'.ownsRow B e size v n xs :=
 h.kept hg (by
  by_cases e:v.ownBlock=some b
  ·have:=(h.lt b e).1;omega
  ·exact .inr e)
theorem q5A{w w1 w2:qgt}{b:Nat}{row:Option Nat}(h:w.grownBy w1 (some b))(k:w1.grownBy w2 row)(hr:∀j,row=some j->w.heap.size<=j):w.grownBy w2 (some b) :=
 h.andThen k λj e=>.inl (hr j e)
def Tn(b g:Nat)(w w':qgt):Prop:=w.grownBy w' (some b)/\qS w' b g
def QM(k:IntKind)(b g:Nat)(w:qgt)(p:Int->Prop)(e:Ending)(w':qgt):Prop:=∃r,p r/\e=.returned (.int k r)/\Tn b g w w'/\w'.heap.size=w.heap.size
theorem qcb(x:Int):0<=IntKind.u64.wrap x/\IntKind.u64.wrap x<18446744073709551616:=by
 have h:IntKind.u64.bits=64:=rfl;have hs:IntKind.u64.signed=false:=rfl;simp only[IntKind.wrap,h,hs];constructor
 ·simp;omega
 ·simp;omega
theorem qdt(op:BinOp)(x y:Int):0<=bits op .u64 x y/\bits op .u64 x y<18446744073709551616:=by
 unfold bits;exact qcb _
theorem qfm(x y:Int):0<=bits .xor .u64 x y / 512/\bits .xor .u64 x y / 512<36028797018963968:=by
 have:=qdt .xor x y;omega
theorem q9g(b:Nat)(lb lo:Nat)(len cap:Nat)(g:Nat)(s x:Int)(w:qgt)(hg:g<4611686018427387904)(hb:w.heap[b]?=some (.cells #[.slice (some ⟨lb,lo,none⟩) len cap,.int .i64 g,.int .u64 s] 89 (0,0)))(hl:(len:Int)<=9223372036854775807)(hlt:g<len)(hr:0<len->∃lb' lo',(some ⟨lb,lo,none⟩:Option qi2)=some ⟨lb',lo',none⟩/\lb'<b/\∀i,i<len->∃x,w.cell? ⟨lb',lo'+i,none⟩=some (.int .i64 x))(cx:w.cell? ⟨lb,lo+g,none⟩=some (.int .i64 x)) :qhx Ya 125 #[.pointer (some ⟨b,0,none⟩)] w (QM .u64 b (g+1) w λu=>0<=u/\u<36028797018963968):=by
 have c0:w.cell? ⟨b,0,none⟩=some (.slice (some ⟨lb,lo,none⟩) len cap):=by simp[qhu,hb]
 have c1:w.cell? ⟨b,1,none⟩=some (.int .i64 g):=by simp[qhu,hb]
 have c2:w.cell? ⟨b,2,none⟩=some (.int .u64 s):=by simp[qhu,hb]
 have f1:w.frozen? ⟨b,1,none⟩=false:=by simp[qkr,hb]
 have f2:w.frozen? ⟨b,2,none⟩=false:=by simp[qkr,hb]
 have a6:(g:Int)<(len:Int):=by omega
 have hs:∀(nq:Nat) (u v z:qgx),((((w.drewN nq).setCell ⟨b,1,none⟩ u).setCell ⟨b,2,none⟩ v).setCell ⟨b,2,none⟩ z).cell? ⟨b,2,none⟩=some z:=by
  intro nq u v z;refine qls _ _ _ (u:=v) ?_;refine qls _ _ _ (u:=.int .u64 s) ?_;rw[qiB _ _ _ _ (by simp)];simpa using c2
 have HP:=λnq z s'=>q2p (z:=z) (s':=s') hb hl hr nq;have HB:=qgr HP;have HL:=qgr hb;have HR:=qgr hr;clear HP hb hr;go_enter Tp.x125,Tryz.ntmps125;go_wp2;go_quiet (fail);go_wp2;go_quiet (fail);go_wp2;go_region;all_goals go_wp2
 all_goals go_ret
 all_goals exact⟨_,qfm _ _,rfl,⟨(HB.out _ _ _).1,(HB.out _ _ _).2.1⟩,(HB.out _ _ _).2.2⟩
theorem q9h(b:Nat)(base:Option qi2)(len cap:Nat)(g:Nat)(s:Int)(w:qgt)(hg:g<4611686018427387904)(hb:w.heap[b]?=some (.cells #[.slice base len cap,.int .i64 g,.int .u64 s] 89 (0,0)))(hl:(len:Int)<=9223372036854775807)(hlt:¬ g<len)(hr:0<len->∃lb' lo',base=some ⟨lb',lo',none⟩/\lb'<b/\∀i,i<len->∃x,w.cell? ⟨lb',lo'+i,none⟩=some (.int .i64 x)) :qhx Ya 125 #[.pointer (some ⟨b,0,none⟩)] w (QM .u64 b (g+1) w λu=>0<=u/\u<36028797018963968):=by
 have c0:w.cell? ⟨b,0,none⟩=some (.slice base len cap):=by simp[qhu,hb]
 have c1:w.cell? ⟨b,1,none⟩=some (.int .i64 g):=by simp[qhu,hb]
 have c2:w.cell? ⟨b,2,none⟩=some (.int .u64 s):=by simp[qhu,hb]
 have f1:w.frozen? ⟨b,1,none⟩=false:=by simp[qkr,hb]
 have f2:w.frozen? ⟨b,2,none⟩=false:=by simp[qkr,hb]
 have a6:(len:Int)<=(g:Int):=by omega
 have hs:∀(nq:Nat) (u v z:qgx),((((w.drewN nq).setCell ⟨b,1,none⟩ u).setCell ⟨b,2,none⟩ v).setCell ⟨b,2,none⟩ z).cell? ⟨b,2,none⟩=some z:=by
  intro nq u v z;refine qls _ _ _ (u:=v) ?_;refine qls _ _ _ (u:=.int .u64 s) ?_;rw[qiB _ _ _ _ (by simp)];simpa using c2
 have HP:=λnq z s'=>q2p (z:=z) (s':=s') hb hl hr nq;have HB:=qgr HP;have HL:=qgr hb;have HR:=qgr hr;clear HP hb hr;go_enter Tp.x125,Tryz.ntmps125;go_wp2;go_quiet (fail);go_wp2;go_region;all_goals go_wp2
 all_goals go_ret
 all_goals exact⟨_,qfm _ _,rfl,⟨(HB.out _ _ _).1,(HB.out _ _ _).2.1⟩,(HB.out _ _ _).2.2⟩
theorem KV(b g:Nat)(w:qgt)(ht:qS w b g)(hg:g<4611686018427387904) :qhx Ya 125 #[.pointer (some ⟨b,0,none⟩)] w (QM .u64 b (g+1) w λu=>0<=u/\u<36028797018963968):=by
 obtain⟨base,len,cap,g',s,hk,hb,hl,hr⟩:=ht;have fin:∀e w',QM .u64 b (g'+1) w (λu=>0<=u/\u<36028797018963968) e w'->QM .u64 b (g+1) w (λu=>0<=u/\u<36028797018963968) e w':=by
  rintro e w' ⟨r,h1,h2,h3,h4⟩;exact⟨r,h1,h2,⟨h3.1,h3.2.mono (by omega)⟩,h4⟩
 by_cases hlt:g'<len
 ·obtain⟨lb,lo,rfl,e2,e4⟩:=hr (by omega);obtain⟨x,hx⟩:=e4 g' hlt;exact(q9g b lb lo len cap g' s x w (by omega) hb hl hlt hr hx).mono fin
 ·exact(q9h b base len cap g' s w (by omega) hb hl hlt hr).mono fin
def q8G(b:Nat)(w:qgt)(v:qgx)(l:List Int):Prop :=
 ∃base cap,v=.slice base l.length cap/\(l.length:Int)<=9223372036854775807/\(l≠[]->∃B o,base=some ⟨B,o,none⟩/\B≠b/\B<w.heap.size/\∀i,i<l.length->w.cell? ⟨B,o+i,none⟩=some (.int .i64 (l[i]?.getD 0)))
theorem q8G.laid{b:Nat}(w:qgt)(l:List Int)(n:Nat)(hn:n=l.length)(hb:b<w.heap.size)(hl:l.length<=1000)(fr:Nat × Nat:=(0,0)) :q8G b (w.alloc (.cells (l.map (qhe .i64)).toArray 3 fr)) (.slice (some ⟨w.heap.size,0,none⟩) n n) l:=by
 subst hn;refine⟨_,_,rfl,by omega,λ_=>⟨w.heap.size,0,rfl,by omega,by simp,λi hi=>?_⟩⟩;have:=qgC w (.cells (l.map (qhe .i64)).toArray 3 fr);unfold qhu;rw[this];simp[qgB hi]
theorem qcA{u n:Int}(_:0<=u)(hn:0<=n):0<=u % (n+1)/\u % (n+1)<=n:=by
 have h1:=Int.emod_nonneg u (show n+1≠0 by omega);have h2:=Int.emod_lt_of_pos u (show 0<n+1 by omega);omega
theorem q97(b g:Nat)(n:Int)(w:qgt)(ht:qS w b g)(hg:g<4611686018427387904)(hn:n<1) :qhx Ya 68 #[.pointer (some ⟨b,0,none⟩),.int .i64 n] w (QM .i64 b (g+1) w λr=>r=0):=by
 have HT:=qgr ht;clear ht;go_enter Tp.x68,Tryz.ntmps68;go_wp2_with (go_at_call 125;refine(KV b g _ HT.out hg).mono ?_;rintro e w' ⟨u,⟨a9,a8⟩,rfl,HN,HS⟩;have a7:=qgr HN;have a6:=qgr HS;clear HN HS);go_ret;exact⟨0,rfl,rfl,a7.out,a6.out⟩
theorem q98(b g:Nat)(n:Int)(w:qgt)(ht:qS w b g)(hg:g<4611686018427387904)(hn:1<=n)(hm:n<=1000000000) :qhx Ya 68 #[.pointer (some ⟨b,0,none⟩),.int .i64 n] w (QM .i64 b (g+1) w λr=>0<=r/\r<=n):=by
 have HT:=qgr ht;clear ht;go_enter Tp.x68,Tryz.ntmps68;go_wp2_with (go_at_call 125;refine(KV b g _ HT.out hg).mono ?_;rintro e w' ⟨u,⟨a6,a9⟩,rfl,HN,HS⟩;have a8:=qgr HN;have a7:=qgr HS;clear HN HS);go_ret;have hf:=qcA a6 (show 0<=n by omega);refine⟨_,?_,rfl,a8.out,a7.out⟩;rw[IntWalk.wrap64_in (u % (n+1)) ⟨by omega,by omega⟩];exact hf
theorem kg(b g:Nat)(n:Int)(w:qgt)(ht:qS w b g)(hg:g<4611686018427387904)(hm:n<=1000000000) :qhx Ya 68 #[.pointer (some ⟨b,0,none⟩),.int .i64 n] w (QM .i64 b (g+1) w λr=>0<=r/\(r<=n\/r=0)):=by
 by_cases hn:n<1
 ·refine(q97 b g n w ht hg hn).mono ?_;rintro e w' ⟨r,h1,h2⟩;exact⟨r,by omega,h2⟩
 ·refine(q98 b g n w ht hg (by omega) hm).mono ?_;rintro e w' ⟨r,h1,h2⟩;exact⟨r,by omega,h2⟩
theorem xL(b g:Nat)(lo hi:Int)(w:qgt)(ht:qS w b g)(hg:g<4611686018427387904)(h1:-1000000000<=lo)(h2:lo<=400000000)(h3:-400000000<=hi)(h4:hi<=400000000)(h5:hi - lo<=1000000000) :qhx Ya 70 #[.pointer (some ⟨b,0,none⟩),.int .i64 lo,.int .i64 hi] w (QM .i64 b (g+1) w λr=>lo<=r/\(r<=hi\/r=lo)):=by
 have HT:=qgr ht;clear ht;go_enter Tp.x70,Tryz.ntmps70;go_wp2_with (go_at_call 68;refine(kg b g _ _ HT.out hg (by omega)).mono ?_;rintro e w' ⟨u,⟨b0,a9⟩,rfl,HN,HS⟩;have a7:=qgr HN;have a6:=qgr HS;clear HN HS;have a8:u<=1400000000:=by omega);go_ret;refine⟨_,?_,rfl,a7.out,a6.out⟩;omega
theorem xO(b g:Nat)(v:qgx)(l:List Int)(w:qgt)(ht:qS w b g)(hg:g<4611686018427387904)(hl:q8G b w v l)(hne:0<l.length)(hm:l.length<=1000) :qhx Ya 90 #[.pointer (some ⟨b,0,none⟩),v] w (QM .i64 b (g+1) w λr=>r∈l):=by
 obtain⟨base,cap,rfl,b0,hr⟩:=hl;obtain⟨B,o,rfl,e2,e3,e4⟩:=hr (by intro e;rw[e] at hne;simp at hne);have HT:=qgr ht;have E4:=qgr e4;clear ht e4 hr;go_enter Tp.x90,Tryz.ntmps90;go_wp2_with (first | (go_at_call 68;go_must (refine(kg b g _ _ HT.out hg (by omega)).mono ?_);rintro e w' ⟨u,⟨a7,a9⟩,rfl,HN,HS⟩;have a6:=qgr HN;have a8:=qgr HS;clear HN HS;go_must (obtain⟨k,rfl⟩:=Int.eq_ofNat_of_zero_le a7);go_must (have hk:k<l.length:=by omega);go_must (have b6:(k:Int)<(l.length:Int):=by omega);go_must (have hc:w'.cell? ⟨B,o+k,none⟩=some (.int .i64 (l[k]?.getD 0)):=a6.out.1.cell (E4.out k hk) (λe=>e2 (by cases e;rfl)))));go_ret;refine⟨_,?_,rfl,a6.out,a8.out⟩;simp[qgB hk]
theorem q2k(b g:Nat)(n:Int)(w:qgt)(ht:qS w b g)(hg:g<4611686018427387904)(h1:1<=n)(h2:n<=1000) :qhx Ya 69 #[.pointer (some ⟨b,0,none⟩),.int .i64 n] w λe w'=>(∃t:Bool,e=.returned (.bool t))/\Tn b (g+1) w w'/\w'.heap.size=w.heap.size:=by
 have HT:=qgr ht;clear ht;go_enter Tp.x69,Tryz.ntmps69;go_wp2_with (go_at_call 68;refine(kg b g _ _ HT.out hg (by omega)).mono ?_;rintro e w' ⟨u,⟨a9,a8⟩,rfl,HN,HS⟩;have a7:=qgr HN;have a6:=qgr HS;clear HN HS);go_ret;exact⟨⟨_,rfl⟩,a7.out,a6.out⟩
theorem q5p(base:Option qi2)(len cap:Nat)(w:qgt)(hl:(len:Int)<=9223372036854775807)(hr:0<len->∃lb lo,base=some ⟨lb,lo,none⟩/\∀i,i<len->∃x,w.cell? ⟨lb,lo+i,none⟩=some (.int .i64 x)) :qhx Ya 24 #[.slice base len cap] w λe w'=>e=.returned (.pointer (some ⟨w.heap.size,0,none⟩))/\w.grownBy w' none/\qS w' w.heap.size 0:=by
 have HR:=qgr hr;clear hr;go_enter Tp.x24,Tryz.ntmps24;go_wp2;go_ret;refine⟨rfl,qgs _ _ _,base,len,cap,0,7640891576956012809,qgw _,qgC _ _,hl,λhp=>?_⟩;obtain⟨lb,lo,e,h⟩:=HR.out hp;obtain⟨x0,a6⟩:=h 0 hp;have hlt:lb<w.heap.size:=block_lt_of_cell a6;refine⟨lb,lo,e,hlt,λi hi=>?_⟩;obtain⟨x,hx⟩:=h i hi;exact⟨x,(qgs w _ none).cell hx (by simp)⟩
structure q4q(p:Par):Prop where
 a:1<=p.mn
 b:p.mn<=8
 c:p.mn<=p.mx
 d:p.mx<=p.mn+2
 e:0<=p.bears
 f:p.bears<=30
 g:1<=p.tall
 h:p.tall<=2
def qfz(p:Par):qgx:=.agg #[.int .i64 p.mn,.int .i64 p.mx,.int .i64 p.bears,.int .i64 p.tall]
theorem q1c{w w1 w2:qgt}{b g:Nat}(h:w.grownBy w1 (some b))(k:Tn b g w1 w2):w.grownBy w2 (some b):=h.trans k.1
theorem q1s(b g:Nat)(w:qgt)(ht:qS w b g)(hg:g<1000000):qhx Ya 62 #[.pointer (some ⟨b,0,none⟩)] w λe w'=>∃p,q4q p/\e=.returned (qfz p)/\Tn b (g+7) w w':=by
 obtain⟨Z,hZ⟩:∃Z,Z=w.heap.size:=⟨_,rfl⟩;have b8:b<Z:=by rw[hZ];exact ht.lt
 obtain⟨w1,a8⟩:∃w1,w1=w.alloc (.cells #[.int .i64 0,.int .i64 0,.int .i64 0,.int .i64 0] 28):=⟨_,rfl⟩;have hR:w1.heap[Z]?=some (.cells #[.int .i64 0,.int .i64 0,.int .i64 0,.int .i64 0] 28 (0,0)):=by rw[a8,hZ];exact qgC w _
 have hG:w.grownBy w1 (some b):=by rw[a8];exact qgs _ _ _
 have HT:=qgr (show qS w1 b g by rw[a8];exact ht.alloc _);have HZ:=qgr hZ;have c3:=qgr a8;have HR:=qgr hR;have HG:=qgr hG;clear hZ a8 hR hG ht;go_enter Tp.x62,Tryz.ntmps62;go_upto_region 1 with(fail);rw[<- HZ.out,show w.alloc (.cells #[.int .i64 0,.int .i64 0,.int .i64 0,.int .i64 0] 28)=w1 from c3.out.symm];go_upto_region 2 with(first
  | (go_at_call 70;refine(xL b g 1 8 _ HT.out (by omega) (by omega) (by omega) (by omega) (by omega) (by omega)).mono ?_;rintro e w2 ⟨lo,hlo,rfl,hn,-⟩;replace HR:=qgr (blk hn.1 (by simp;omega) HR.out);replace HG:=qgr (q1c HG.out hn);replace HT:=qgr hn.2;clear hn))
 have a7:Z≠b:=by omega
 go_wp2_with (fail);refine(xO b (g+1) _ [0,0,1,2] _ (HT.out.alloc _) (by omega) (q8G.laid _ [0,0,1,2] 4 rfl HT.out.lt (by decide)) (by decide) (by decide)).mono ?_;rintro e w3 ⟨k,hk,rfl,hn,-⟩;simp only[qif,qiD,or_false] at hk;have a6:=qgs w2 (.cells #[.int .i64 0,.int .i64 0,.int .i64 1,.int .i64 2] 3) (some b);replace HR:=qgr (blk hn.1 (by simpa using a7) (blk a6 (by simpa using a7) HR.out));replace HG:=qgr ((HG.out.trans a6).trans hn.1);replace HT:=qgr hn.2;clear hn a6;have d5:0<=k/\k<=2:=by omega
 clear hk;go_wp2_with (first
  | (go_at_call 68;refine(kg b _ _ _ HT.out (by omega) (by omega)).mono ?_;rintro e w4 ⟨u,hu,rfl,hn,-⟩;replace HR:=qgr (blk hn.1 (by simpa using a7) HR.out);replace HG:=qgr (q1c HG.out hn);replace HT:=qgr hn.2;clear hn))
 rename_i u1 b7 wx u2 b6 wy wz
 refine(xO b (g+1+1+1+1+1) _ [0,u1,u2,u] _ (HT.out.alloc _) (by omega) (q8G.laid _ [0,u1,u2,u] 4 rfl HT.out.lt (by simp)) (by simp) (by simp)).mono ?_;rintro e w7 ⟨r,hr,rfl,hn,-⟩;simp only[qif,qiD,or_false] at hr;have a6:=qgs w4 (.cells #[.int .i64 0,.int .i64 u1,.int .i64 u2,.int .i64 u] 3) (some b);replace HR:=qgr (blk hn.1 (by simpa using a7) (blk a6 (by simpa using a7) HR.out));replace HG:=qgr ((HG.out.trans a6).trans hn.1);replace HT:=qgr hn.2;clear hn a6;have c9:0<=r/\r<=30:=by omega
 clear hr hu b7 b6;have f:=λ(w9:qgt) (h:w9.heap[Z]?=some (.cells #[.int .i64 0,.int .i64 0,.int .i64 0,.int .i64 0] 28 (0,0))) (o:Nat)=>qq (o:=o) h;have F:=qgr f;clear f;go_wp2_with (first
  | (go_at_call 70;refine(xL b _ 1 2 _ HT.out (by omega) (by omega) (by omega) (by omega) (by omega) (by omega)).mono ?_;rintro e w8 ⟨ta,c8,rfl,hn,-⟩;replace HR:=qgr (blk hn.1 (by simpa using a7) HR.out);replace HG:=qgr (q1c HG.out hn);replace HT:=qgr hn.2;clear hn;have z0:=q9 (o:=0) HR.out rfl;have z1:=q9 (o:=1) HR.out rfl;have z2:=q9 (o:=2) HR.out rfl;have z3:=q9 (o:=3) HR.out rfl;have t0:=qq (o:=0) HR.out;have t1:=qq (o:=1) HR.out;have t2:=qq (o:=2) HR.out;have t3:=qq (o:=3) HR.out))
 obtain⟨W,a9⟩:∃W,W=(((w8.setCell ⟨Z,0,none⟩ (.int .i64 lo)).setCell ⟨Z,1,none⟩ (.int .i64 (lo+k))).setCell ⟨Z,2,none⟩ (.int .i64 r)).setCell ⟨Z,3,none⟩ (.int .i64 ta):=⟨_,rfl⟩;have b9:W.heap[Z]?=some (.cells #[.int .i64 lo,.int .i64 (lo+k),.int .i64 r,.int .i64 ta] 28 (0,0)):=by rw[a9,qj (qj (qj (qj HR.out)))];rfl
 have b0:w8.grownBy W (some Z):=by rw[a9];exact(((qh _ _ _ _).trans (qh _ _ _ _)).trans (qh _ _ _ _)).trans (qh _ _ _ _)
 rw[<- a9];exact qjD (v:=.agg #[.int .i64 lo,.int .i64 (lo+k),.int .i64 r,.int .i64 ta]) (by simp[qk1,Tryz.results62,go_sem,qhu,b9]) rfl ⟨⟨lo,lo+k,r,ta⟩,⟨by dsimp only;omega,by dsimp only;omega,by dsimp only;omega,by dsimp only;omega,by dsimp only;omega,by dsimp only;omega,by dsimp only;omega,by dsimp only;omega⟩,rfl,q5A HG.out b0 (by rintro j e;cases e;have:=HZ.out;omega),HT.out.kept b0 (by rintro B e;cases e;exact b8)⟩
end
end Go.Proofs.YtidgnkmjgioapaaGreat
section
namespace Go
theorem xr(z:Array qgx):z=((qhl z.size).map λj=>z[j]?.getD qgz).toArray:=by
 apply Array.ext
 ·simp
 ·intro i h1 h2;simp[h1]
end Go
namespace Go.Co
open Go
def zr(w:qgt)(B:Nat):Prop:=∃cs e f,w.heap[B]?=some (.cells cs e f)/\∀(i:Nat) v,cs[i]?=some v->∃k m,v=qhe k m
def zp(xs:List qgx):Prop:=∀v∈xs,∃k m,v=qhe k m
theorem zp.app{xs ys:List qgx}(h:zp xs)(h':zp ys):zp (xs++ys):=λv hv=>(qiF.1 hv).elim (h v) (h' v)
theorem q2d{z:Array qgx}(hz:zp z.toList)(hp:0<z.size)(n:Nat):zp (qjd z n).toList:=by
 intro v hv;simp only[qjd,Array.toList_map,qkn] at hv;obtain⟨i,_,rfl⟩:=hv;have hlt:i % z.size<z.size:=Nat.mod_lt _ hp;rw[getElem!_pos z _ hlt];exact hz _ (Array.getElem_mem_toList hlt)
theorem ZD{w:qgt}{B:Nat}{xs:Array qgx}{e:qh5}{f:Nat × Nat}(h:w.heap[B]?=some (.cells xs e f))(hx:zp xs.toList):zr w B:=⟨xs,e,f,h,λi v hv=>hx v (qjl.2 (qiC hv))⟩
theorem zr.all{w:qgt}{B:Nat}{xs:Array qgx}{e:qh5}{f:Nat × Nat}(h:zr w B)(hx:w.heap[B]?=some (.cells xs e f)):zp xs.toList:=by
 obtain⟨cs,e',f',h1,h2⟩:=h;rw[hx] at h1;cases h1;intro v hv;obtain⟨i,hi⟩:=List.mem_iff_getElem?.1 hv;exact h2 i v (by simpa using hi)
theorem JE{P:qgG}(w:qgt)(t ty:qh5)(base:Nat)(e:qh5)(i:qli)(z:qgx)(size qob:Nat)(ht:P.underlying t=some (.slice e))(hi:P.info? e=some i)(hz:i.zero=some z)(hsize:i.size=size)(hby:i.bytes=qob)(hzs:z.cells.size=size)(hsz:0<size)(v:qgx)(n:Nat)(xs:List qgx)(hown:w.ownsRow base e size v n xs)(ad:qi2)(m c:Nat)(news:List qgx)(hl:news.length=m*size)(hnews:∀j u,news[j]?=some u->w.cell? (ad.add j)=some u)(h1:∀u∈news,u.oneCell'=true)(hm:0<m)(h63:n+m<=qky)(hbytes:(n+m)*qob<=140737488355328)(hbase:base<=w.heap.size)(H:Nat)(hH:w.heap.size=H)(hI:∀g,v.ownBlock=some g->zr w g)(hni:zp news)(hzi:zp z.cells.toList) :∃g cap w',(qlf #[t,t] ty #[v,.slice (some ad) m c]).run P w=.ok (.slice (some ⟨g,0,none⟩) (n+m) cap) w' /\w'.ownsRow base e size (.slice (some ⟨g,0,none⟩) (n+m) cap) (n+m) (xs++news)/\w.grownBy w' v.ownBlock/\(v.ownBlock=some g\/g=H)/\g<w'.heap.size/\zr w' g:=by
 obtain⟨g,cap,w',hr,h2,h3,h4,h5⟩:=run_append_lies (P:=P) w t ty base e i z size qob ht hi hz hsize hby hzs hsz v n xs hown ad m c news hl hnews h1 hm h63 hbytes hbase H hH;refine⟨g,cap,w',hr,h2,h3,h4,h5,?_⟩;subst hsize;subst hby
 have b0:n+m<=9223372036854775807:=by simp only[qky] at h63;omega
 have a8:=λk=>q2d (z:=z.cells) hzi (by rw[hzs];exact hsz) k;rcases hown.2 with⟨rfl,rfl⟩ | ⟨g0,cap0,cur,rfl,hbg,hg,hnc,hcm,hcs,htake⟩
 ·have hr':=run_append_nil (P:=P) w t ty e i z ht hi hz ad m c news hl hnews hm (by omega) (by have hb:=hbytes;simp only[qhd] at hb;omega);have he:=hr.symm.trans hr';simp only[Result.ok.injEq,Value.slice.injEq,qht,Addr.mk.injEq] at he;obtain⟨⟨⟨rfl,_⟩,_⟩,rfl⟩:=he;exact ZD (qgC w.drew _) (by simpa using hni.app (a8 _))
 ·by_cases a6:n+m<=cap0
  ·have a9:n*i.size+news.length<=cur.size:=by rw[hl,hcs,<- qny];exact Nat.mul_le_mul_right _ a6
   have hr':=run_append_room (P:=P) w t ty e i ht hi g0 n cap0 cur hg ad m c news hl hnews h1 a6 a9;have he:=hr.symm.trans hr';simp only[Result.ok.injEq,Value.slice.injEq,qht,Addr.mk.injEq] at he;obtain⟨⟨⟨rfl,_⟩,_⟩,rfl⟩:=he;have hc:=(hI g rfl).all hg;refine ZD (setRow_heap w g cur _ e _ hg) ?_;exact((zp.app (λv hv=>hc v (qkE hv)) hni).app λv hv=>hc v (List.mem_of_mem_drop hv))
  ·have a7:∀j u,xs[j]?=some u->w.cell? ((⟨g0,0,none⟩:qi2).add j)=some u:=hown.cells (g:=g0) rfl;have hr':=run_append_grow (P:=P) w t ty e i z ht hi hz ⟨g0,0,none⟩ n cap0 xs hown.1 a7 ad m c news hl hnews (by omega) (by omega) (growslice_fits (by omega) hbytes);have he:=hr.symm.trans hr';simp only[Result.ok.injEq,Value.slice.injEq,qht,Addr.mk.injEq] at he;obtain⟨⟨⟨rfl,_⟩,_⟩,rfl⟩:=he;have hc:=(hI g0 rfl).all hg;refine ZD (qgC w.drew _) ?_;have hx:zp xs:=λv hv=>hc v (by rw[<- htake] at hv;exact qkE hv);simpa using(hx.app hni).app (a8 _)
theorem xI{P:qgG}{w:qgt}{o:qiu}{a:Act}{K:Act->qgt->Prop}{Q:Exit->Act->qgt->Prop}(s x:qhF)(t:qh5)(ho:o.op=.call { callee:=.builtin .append,args:=#[s,x],argTypes:=#[t,t] })(base:Nat)(e:qh5)(i:qli)(z:qgx)(size qob:Nat)(ht:P.underlying t=some (.slice e))(hi:P.info? e=some i)(hz:i.zero=some z)(hsize:i.size=size)(hby:i.bytes=qob)(hzs:z.cells.size=size)(hsz:0<size)(v:qgx)(n:Nat)(xs:List qgx)(hs:a.eval s=v)(hown:w.ownsRow base e size v n xs)(ad:qi2)(m c:Nat)(news:List qgx)(hx:a.eval x=.slice (some ad) m c)(hl:news.length=m*size)(hnews:∀j u,news[j]?=some u->w.cell? (ad.add j)=some u)(h1:∀u∈news,u.oneCell'=true)(hm:0<m)(h63:n+m<=qky)(hbytes:(n+m)*qob<=140737488355328)(hbase:base<=w.heap.size)(H:Nat)(hH:w.heap.size=H)(hI:∀g,v.ownBlock=some g->zr w g)(hni:zp news)(hzi:zp z.cells.toList)(h:∀g cap w',w'.ownsRow base e size (.slice (some ⟨g,0,none⟩) (n+m) cap) (n+m) (xs++news)->w.grownBy w' v.ownBlock->(v.ownBlock=some g\/g=H)->g<w'.heap.size->zr w' g->K (a.put o.dst (.slice (some ⟨g,0,none⟩) (n+m) cap)) w'):o.wp P a w K Q:=by
 obtain⟨g,cap,w',hr,h2,h3,h4,h5,h6⟩:=JE (P:=P) w t o.type base e i z size qob ht hi hz hsize hby hzs hsz v n xs hown ad m c news hl hnews h1 hm h63 hbytes hbase H hH hI hni hzi;unfold Oper.wp qk5;simp only[ho,resolve,invoke,builtin,qiw,qnc,qix,List.map_toArray,qjr,qln,hs,hx,hr];exact h g cap w' h2 h3 h4 h5 h6
theorem zr.kept{w w':qgt}{j:Nat}{r:Option Nat}(h:zr w j)(hg:w.grownBy w' r)(hr:some j≠r):zr w' j:=by
 obtain⟨cs,e,f,h1,h2⟩:=h;exact⟨cs,e,f,(hg.block j (qgu.1 h1).1 hr).trans h1,h2⟩
theorem vu{P:qgG}{w:qgt}{ops:Array qiu}{o:qiu}{a:Act}{K:Act->qgt->Prop}{Q:Exit->Act->qgt->Prop}{E:Prop}(a6:o.guard=none)(s x:qhF)(t:qh5)(ho:o.op=.call { callee:=.builtin .append,args:=#[s,x],argTypes:=#[t,t] })(base:Nat)(e:qh5)(i:qli)(z:qgx)(size qob:Nat)(ht:P.underlying t=some (.slice e))(hi:P.info? e=some i)(hz:i.zero=some z)(hsize:i.size=size)(hby:i.bytes=qob)(hzs:z.cells.size=size)(hsz:0<size)(v:qgx)(n:Nat)(xs:List qgx)(hs:a.eval s=v)(hown:w.ownsRow base e size v n xs)(ad:qi2)(m c:Nat)(news:List qgx)(hx:a.eval x=.slice (some ad) m c)(hl:news.length=m*size)(hnews:∀j u,news[j]?=some u->w.cell? (ad.add j)=some u)(h1:∀u∈news,u.oneCell'=true)(hm:0<m)(h63:n+m<=qky)(hbytes:(n+m)*qob<=140737488355328)(hbase:base<=w.heap.size)(H:Nat)(hH:w.heap.size=H)(hI:∀g,v.ownBlock=some g->zr w g)(hni:zp news)(hzi:zp z.cells.toList)(h:∀g cap w',w'.ownsRow base e size (.slice (some ⟨g,0,none⟩) (n+m) cap) (n+m) (xs++news)->w.grownBy w' v.ownBlock->(v.ownBlock=some g\/g=H)->g<w'.heap.size->zr w' g->K (a.put o.dst (.slice (some ⟨g,0,none⟩) (n+m) cap)) w') :if qhD o (qjn ops a.tmps)=true then Oper.wp P o a w K Q else E:=by
 rw[if_pos (by simp[qhD,a6])];exact xI s x t ho base e i z size qob ht hi hz hsize hby hzs hsz v n xs hs hown ad m c news hx hl hnews h1 hm h63 hbytes hbase H hH hI hni hzi h
theorem QP{P:qgG}{w:qgt}{ops:Array qiu}{rest:List qiu}{o:qiu}{a:Act}{Q:Exit->Act->qgt->Prop}(a6:o.guard=none)(s x:qhF)(t:qh5)(ho:o.op=.call { callee:=.builtin .append,args:=#[s,x],argTypes:=#[t,t] })(base:Nat)(e:qh5)(i:qli)(z:qgx)(size qob:Nat)(ht:P.underlying t=some (.slice e))(hi:P.info? e=some i)(hz:i.zero=some z)(hsize:i.size=size)(hby:i.bytes=qob)(hzs:z.cells.size=size)(hsz:0<size)(v:qgx)(n:Nat)(xs:List qgx)(hs:a.eval s=v)(hown:w.ownsRow base e size v n xs)(ad:qi2)(m c:Nat)(news:List qgx)(hx:a.eval x=.slice (some ad) m c)(hl:news.length=m*size)(hnews:∀j u,news[j]?=some u->w.cell? (ad.add j)=some u)(h1:∀u∈news,u.oneCell'=true)(hm:0<m)(h63:n+m<=qky)(hbytes:(n+m)*qob<=140737488355328)(hbase:base<=w.heap.size)(H:Nat)(hH:w.heap.size=H)(hI:∀g,v.ownBlock=some g->zr w g)(hni:zp news)(hzi:zp z.cells.toList)(h:∀g cap w',w'.ownsRow base e size (.slice (some ⟨g,0,none⟩) (n+m) cap) (n+m) (xs++news)->w.grownBy w' v.ownBlock->(v.ownBlock=some g\/g=H)->g<w'.heap.size->zr w' g->qol P ops Q rest (a.put o.dst (.slice (some ⟨g,0,none⟩) (n+m) cap)) w'):qol P ops Q (o::rest) a w :=
 wpList_plain a6 λ_ hK=>xI s x t ho base e i z size qob ht hi hz hsize hby hzs hsz v n xs hs hown ad m c news hx hl hnews h1 hm h63 hbytes hbase H hH hI hni hzi λg cap w' h2 h3 h4 h5 h6=>hK _ _ (h g cap w' h2 h3 h4 h5 h6)
end Go.Co
end
namespace Go.Proofs.YtidgnkmjgioapaaGreat
section
open Go.RowKit Go.Co
theorem Tp.und22:Ya.underlying 22=some (.slice 28):=by rw[Tp.und];exact Tryz.underlying22
theorem Tp.info28p:(Ya.info? 28).map (λi=>(i.zero,i.size,i.bytes))=some (some (.agg #[.int .i64 0,.int .i64 0,.int .i64 0,.int .i64 0]),4,32):=by kernel_rfl
def Zs(p:Par):List qgx:=[.int .i64 p.mn,.int .i64 p.mx,.int .i64 p.bears,.int .i64 p.tall]
def Zr(ps:List Par):List qgx:=ps.flatMap Zs
theorem q5k(ps:List Par)(p:Par):Zr (ps++[p])=Zr ps++Zs p:=by simp[Zr]
theorem q7F(ps:List Par)(i:Nat)(p:Par)(h:ps[i]?=some p)(d:Nat)(hd:d<4):(Zr ps)[i*4+d]?=(Zs p)[d]?:=by
 induction ps generalizing i with
 | nil=>simp at h
 | cons q t ih=>
  unfold Zr;rw[qjA];cases i with
  | zero=>
   simp at h;subst h;rw[qhh (by simp[Zs];omega),Nat.zero_mul,qhd]
  | succ i=>
   simp at h;rw[qid (by simp[Zs];omega)];rw[show(i+1)*4+d - (Zs q).length=i*4+d from by simp[Zs];omega];exact ih i h
theorem qw.own{lo n:Nat}{w:qgt}{v:qgx}{ps:List Par}(h:w.ownsRow lo 28 4 v n (Zr ps))(hn:ps.length=n)(hl:(ps.length:Int)<=1000000):qw lo w.heap.size w v ps:=by
 subst hn;obtain⟨h1,h2⟩:=h;rcases h2 with⟨rfl,h0⟩ | ⟨g,cap,cur,rfl,hb,hg,hc,hm,hs,ht⟩
 ·exact⟨none,0,by rw[h0],hl,λhne=>absurd (qhv h0) hne⟩
 ·refine⟨_,cap,rfl,hl,λ_=>⟨g,0,cur,(0,0),rfl,hb,(qgu.1 hg).1,hg,λi hi=>?_⟩⟩;have hp:ps[i]?=some ps[i]:=qgB hi;have key:∀d,d<4->cur[i*4+d]?=(Zs ps[i])[d]?:=λd hd=>by
   have h3:(cur.toList.take (ps.length*4))[i*4+d]?=(Zs ps[i])[d]?:=by rw[ht];exact q7F ps i _ hp d hd
   rw[qjc (by omega)] at h3;simpa using h3
  have k0:=key 0 (by omega);have k1:=key 1 (by omega);have k2:=key 2 (by omega);have k3:=key 3 (by omega);rw[Nat.add_zero] at k0;refine⟨_,hp,?_,?_,?_,?_⟩;all_goals simp only[qhd]
  ·exact k0
  ·exact k1
  ·exact k2
  ·exact k3
theorem JK{P:qgG}{c:qj9}{Q:Exit->Act->qgt->Prop}{a:Act}{w:qgt}(F:qgt->Prop)(hF:F w)(h:∀u,F u->c.wp P Q a u):c.wp P Q a w:=h w hF
theorem J2{w:qgt}{k:Nat}{o:Obj}(h:w.heap[k]?=some o):k<w.heap.size:=(qgu.1 h).1
def YR(b g Z X:Nat)(u:Nat)(lim:Int)(w:qgt)(i:qgx)(wr:qgt):Prop :=
 ∃(k:Nat) (fv:qgx) (ps:List Par),i=.int .i64 ((u:Int) - k)/\k<=u/\ps.length=k/\(∀p∈ps,q4q p) /\
  wr.heap[X]?=some (.cells #[fv,.int .i64 lim] 24 (0,0))/\wr.ownsRow (X+1) 28 4 fv k (Zr ps)/\qS wr b (g+7*k)/\w.grownBy wr (some b)/\X<wr.heap.size/\wr.heap[Z]?=some (.cells #[.slice none 0 0,.int .i64 0] 24 (0,0))/\∀j,fv.ownBlock=some j->zr wr j
theorem YR.step{b g Z X u k gg cap:Nat}{lim:Int}{w w5:qgt}{ps:List Par}{p:Par}(hk:k<u)(hl:ps.length=k)(hd:∀x∈ps,q4q x)(hp:q4q p){fv:qgx}(hB:w5.heap[X]?=some (.cells #[fv,.int .i64 lim] 24 (0,0)))(hO:w5.ownsRow (X+1) 28 4 (.slice (some ⟨gg,0,none⟩) (k+1) cap) (k+1) (Zr ps++Zs p))(hT:qS w5 b (g+7*k+7))(hG:w.grownBy w5 (some b))(hX:w.heap.size<=X)(hb:b<X)(hZ:w5.heap[Z]?=some (.cells #[.slice none 0 0,.int .i64 0] 24 (0,0)))(a6:Z<X)(hI:zr w5 gg) :YR b g Z X u lim w (.int .i64 ((u:Int) - k - 1)) (w5.setCell ⟨X,0,none⟩ (.slice (some ⟨gg,0,none⟩) (k+1) cap)):=by
 have hn:gg≠X:=by have:=(hO.lt gg rfl).1;omega
 refine⟨k+1,_,ps++[p],by simp;omega,by omega,by simp[hl],?_,by rw[qj hB];rfl,?_,?_,q5A hG (qh _ X 0 _) (by rintro j e;cases e;exact hX),?_,blk (qh _ _ _ _) (by simp;omega) hZ,λj e=>by
  simp[qhp] at e;subst e;exact hI.kept (qh _ X 0 _) (by simpa using hn)⟩
 ·intro x hx;rcases qiF.1 hx with h | h
  ·exact hd x h
  ·rw[qib.1 h];exact hp
 ·rw[q5k];exact hO.kept (qh _ X 0 _) (.inr (by simp[qhp];exact hn))
 ·rw[show g+7*(k+1)=g+7*k+7 by omega];exact hT.set hb
 ·have:=(qgu.1 hB).1;simpa[qja] using this
structure qdy(n:Nat)(ps:List Par)(lim:Int):Prop where
 len:ps.length<=n
 each:∀p∈ps,q4q p
 l1:2<=lim
 l2:lim<=6\/lim=12
theorem q4v(b g n:Nat)(w:qgt)(ht:qS w b g)(hg:g<100000)(hn:n<=1000):qhx Ya 33 #[.pointer (some ⟨b,0,none⟩),.int .i64 n] w λe w'=>∃ps lim v,qdy n ps lim/\e=.returned (.agg #[v,.int .i64 lim])/\Tn b (g+3+7*n) w w'/\qw w.heap.size w'.heap.size w' v ps/\∀ad m c,v=.slice (some ad) m c->zr w' ad.block:=by
 obtain⟨i0,g8,e9,e8,e7⟩:=qjy Tp.info28p;obtain⟨Z,hZ⟩:∃Z,Z=w.heap.size:=⟨_,rfl⟩;have k0:b<Z:=by rw[hZ];exact ht.lt
 have HT:=qgr ht;have HZ:=qgr hZ;clear ht hZ;go_enter Tp.x33,Tryz.ntmps33;go_upto_region 1 with(fail);rw[<- HZ.out];refine JK (λu=>u.heap[Z]?=some (.cells #[.slice none 0 0,.int .i64 0] 24 (0,0))/\w.grownBy u (some b)/\qS u b g) ⟨by rw[HZ.out];exact qgC _ _,qgs _ _ _,HT.out.alloc _⟩ (λw1 hF=>?_);obtain⟨r1,g1,t1⟩:=hF;have R1:=qgr r1;have G1:=qgr g1;have T1:=qgr t1;clear r1 g1 t1;have b6:Z≠b:=by omega
 go_upto_region 2 with(first
  | (go_at_call 70;refine(xL b g 2 6 _ T1.out (by omega) (by omega) (by omega) (by omega) (by omega) (by omega)).mono ?_;rintro e w2 ⟨lo,hlo,rfl,d5,-⟩;have N2:=qgr d5;clear d5)
  | (go_at_call 90;refine(xO b (g+1) _ [lo,12] _ (N2.out.2.alloc _) (by omega) (q8G.laid _ [lo,12] 2 rfl N2.out.2.lt (by simp)) (by simp) (by simp)).mono ?_;rintro e w3 ⟨lim,a6,rfl,c9,-⟩;have N3:=qgr c9;have b8:=qgr a6;clear c9 a6))
 have a6:=b8.out;simp only[qif,qiD,or_false] at a6;have hl2:2<=lim/\(lim<=6\/lim=12):=by omega
 clear a6 b8 hlo;have b9:=qgs w2 (.cells #[.int .i64 lo,.int .i64 12] 3) (some b);have g3:w.grownBy w3 (some b):=((G1.out.trans N2.out.1).trans b9).trans N3.out.1;have z3:=blk N3.out.1 (by simpa using b6) (blk b9 (by simpa using b6) (blk N2.out.1 (by simpa using b6) R1.out));obtain⟨X,hX⟩:∃X,X=w3.heap.size:=⟨_,rfl⟩;rw[<- hX];refine JK (λu=>u.heap[X]?=some (.cells #[.slice none 0 0,.int .i64 lim] 24 (0,0))/\w.grownBy u (some b)/\qS u b (g+2)/\u.heap[Z]?=some (.cells #[.slice none 0 0,.int .i64 0] 24 (0,0))) ⟨by rw[hX];exact qgC _ _,g3.trans (qgs _ _ _),N3.out.2.alloc _,qr z3⟩ (λw4 hF=>?_);obtain⟨x4,g4,t4,z4⟩:=hF;have k6:Z<X:=by have:=J2 z3;omega
 have g5:w.heap.size<=X:=by have:=HZ.out;omega
 have X4:=qgr x4;have G4:=qgr g4;have T4:=qgr t4;have Z4:=qgr z4;clear b9 g3 z3 hX x4 g4 t4 z4 R1 G1 T1 N2 N3;have k5:b<X:=by omega
 go_wp2_with (first
  | (go_at_call 68;refine(kg b (g+2) _ _ T4.out (by omega) (by omega)).mono ?_;rintro e w5 ⟨u,hu,rfl,c8,-⟩;have N5:=qgr c8;clear c8))
 obtain⟨m,rfl⟩:=Int.eq_ofNat_of_zero_le hu.1;have hm:m<=n:=by omega
 have x5:=blk N5.out.1 (by simp;omega) X4.out;have z5:=blk N5.out.1 (by simpa using b6) Z4.out;have X5:=qgr x5;have Z5:=qgr z5;have G5:=qgr (G4.out.trans N5.out.1);have T5:=qgr N5.out.2;clear x5 z5 X4 Z4 G4 T4 N5 hu;go_loopw [6] (YR b (g+3) Z X m lim w) (λi _=>(qia i).toNat)
 case atStart=>exact⟨0,_,[],by simp,by omega,rfl,by simp,X5.out,qjg _ _ _ _,by simpa using T5.out,G5.out,J2 X5.out,Z5.out,λj e=>by cases e⟩
 case round=>
  obtain⟨k,fv,ps,rfl,h1,h2,h3,h4,h5,h6,h7,h8,h9,d9⟩:=hrel;have e5:=qgr d9;have c0:wr.cell? ⟨X,0,none⟩=some fv:=q9 h4 rfl;have c1:wr.cell? ⟨X,1,none⟩=some (.int .i64 lim):=q9 h4 rfl;have H4:=qgr h4;have H5:=qgr h5;have H6:=qgr h6;have H7:=qgr h7;have H2:=qgr h2;have H3:=qgr h3;have H9:=qgr h9;clear h4 h5 h6 h7 h2 h3 h9 d9;by_cases hlt:k<m
  ·have l4:(0:Int)<(m:Int) - (k:Int):=by omega
   have l6:IntKind.i64.wrap ((m:Int) - (k:Int) - 1)=(m:Int) - (k:Int) - 1:=qhm _ (by omega);have g9:some X≠fv.ownBlock:=λe=>by have:=(H5.out.lt X e.symm).1;omega
   have fX:wr.frozen? ⟨X,0,none⟩=false:=qq H4.out;have d7:b<X+1:=by omega
   go_wp2_with (fail);go_region_law
    (first
     | (go_simp;go_at_call 62;refine(q1s b (g+3+7*k) _ (by exact H6.out) (by omega)).mono ?_;rintro e w2 ⟨p,hp,rfl,HN⟩;have g6:wr.heap.size<=w2.heap.size:=HN.1.size;have l5:X<w2.heap.size:=(by omega);have l9:w2.cell? ⟨X,0,none⟩=some fv:=q9 (blk HN.1 (by simp;omega) H4.out) rfl;have a7:=qgr HN;have HP:=qgr hp;clear HN hp;unfold qfz)
     | (refine vu (by rfl) _ _ _ (by rfl) (X+1) 28 i0 _ 4 32 Tp.und22 g8 e9 e8 e7 rfl (by omega) fv k (Zr ps) (by rfl) (by exact(qeh a7.out.1 H5.out d7).alloc _) ⟨w2.heap.size,0,none⟩ 1 1 (Zs p) (by rfl) (by rfl) (qit (cs:=(Zs p).toArray) (t:=28) (fr:=(0,0)) (qgC w2 _)) (by simp[Zs,qjh]) (by omega) (by unfold qky;omega) (by omega) (by simp at g6 ⊢;omega) (w2.heap.size+1) (by simp) (λj e=>((((e5.out j e).kept (qg _ none) (by simp)).kept a7.out.1 (λe2=>by have:=(H5.out.lt j e).1;cases e2;omega)).kept (qgs w2 _ none) (by simp))) (by intro v hv;simp[Zs] at hv;rcases hv with rfl | rfl | rfl | rfl<;>exact⟨_,_,rfl⟩) (by intro v hv;simp[Value.cells] at hv;exact⟨_,_,hv⟩) ?_;intro gg cap w5 a8 a9 l7 hgl b7;have k8:=qgr b7;clear b7;have B5:=blk a9 g9 (qr (blk a7.out.1 (by simp;omega) H4.out));have l8:w5.cell? ⟨X,0,none⟩=some fv:=q9 B5 rfl;have c5:w5.frozen? ⟨X,0,none⟩=false:=qq B5;have k9:=qgr B5;have HG:=qgr a9;have HO:=qgr a8;clear B5 a8))
   all_goals
    have d6:=q5A (((H7.out.trans (qg _ _)).trans a7.out.1).trans (qgs w2 _ _)) HG.out (λj e=>by have:=(H5.out.lt j e).1;omega);have e4:qS w5 b (g+3+7*k+7):=((a7.out.2.alloc _).kept HG.out (λj e=>by have:=(H5.out.lt j e).1;omega));have d8:=blk HG.out (λe=>by have:=(H5.out.lt Z e.symm).1;omega) (qr (blk a7.out.1 (by simpa using b6) H9.out));have e6:=YR.step (g:=g+3) (w:=w) hlt H2.out H3.out HP.out k9.out HO.out e4 d6 g5 k5 d8 k6 k8.out;have FF:=qgr e6;clear e6 d6 e4 d8;go_wp2;go_roundw
    case rel=>exact FF.out
    case measure=>simp[qia];omega
  ·obtain rfl:k=m:=by omega
   obtain⟨fa,fm,fc,rfl⟩:=zK H5.out;have d0:=q9 H9.out (o:=0) rfl;have d1:=q9 H9.out (o:=1) rfl;have f0:=qq H9.out (o:=0);have f1:=qq H9.out (o:=1);go_wp2;obtain⟨W,c3⟩:∃W,W=(wr.setCell ⟨Z,0,none⟩ (.slice fa fm fc)).setCell ⟨Z,1,none⟩ (.int .i64 lim):=⟨_,rfl⟩;have k7:W.heap[Z]?=some (.cells #[.slice fa fm fc,.int .i64 lim] 24 (0,0)):=by rw[c3,qj (qj H9.out)];rfl
   have b0:wr.grownBy W (some Z):=by rw[c3];exact(qh _ _ _ _).trans (qh _ _ _ _)
   have hps:ps.length<=1000:=by have:=H2.out;omega
   have g7:=(qw.own H5.out H2.out (by omega)).kept b0 (by rintro R e;cases e;exact .inl (by omega));rw[<- c3];refine qjD (v:=.agg #[.slice fa fm fc,.int .i64 lim]) (by simp[qk1,Tryz.results33,go_sem,qhu,k7]) rfl ⟨ps,lim,_,⟨by have:=H2.out;omega,H3.out,hl2.1,hl2.2⟩,rfl,⟨q5A H7.out b0 (by rintro j e;cases e;have:=HZ.out;omega),(H6.out.kept b0 (by rintro B e;cases e;exact k0)).mono (by have:=H2.out;omega)⟩,g7.mono (by omega) b0.size,λad m2 c2 e=>by
    cases e;exact(e5.out _ rfl).kept b0 (λe2=>by have:=(H5.out.lt _ rfl).1;cases e2;omega)⟩
theorem q4w(b g n:Nat)(w:qgt)(ht:qS w b g)(hg:g<100000)(hn:n<=1000):qhx Ya 33 #[.pointer (some ⟨b,0,none⟩),.int .i64 n] w λe w'=>∃ps lim v,qdy n ps lim/\e=.returned (.agg #[v,.int .i64 lim])/\Tn b (g+3+7*n) w w'/\qw w.heap.size w'.heap.size w' v ps :=
 (q4v b g n w ht hg hn).mono λ_ _ ⟨ps,lim,v,h1,h2,h3,h4,_⟩=>⟨ps,lim,v,h1,h2,h3,h4⟩
end
section
open Go.RowKit
structure q8F(n:Nat)(l:List Int):Prop where
 len:l.length=n
 nd:l.Nodup
 all:∀x∈l,0<=x/\x<n
def Zv(l:List Int)(i k:Nat):List Int:=(l++[l[k]?.getD 0]).set k i
theorem qa7{l:List Int}{k:Nat}{x:Int}(y:Int)(h:l[k]?=some x):(l.set k y++[x]).Perm (y::l):=by
 induction l generalizing k with
 | nil=>simp at h
 | cons a t ih=>
  cases k with
  | zero=>
   simp at h;subst h;simp only[List.set_cons_zero,qha];exact(qmd (l₁:=t) (l₂:=[a])).cons y
  | succ k=>
   simp at h;simp only[List.set_cons_succ,qha];exact((ih h).cons a).trans (List.Perm.swap _ _ _)
theorem q8F.step{i k:Nat}{l:List Int}(h:q8F i l)(hk:k<=i):q8F (i+1) (Zv l i k):=by
 have hp:(Zv l i k).Perm ((i:Int)::l):=by
  unfold Zv;by_cases e:k<i
  ·obtain⟨x,hx⟩:∃x,l[k]?=some x:=⟨_,qgB (by rw[h.len];exact e)⟩;rw[hx,qnz _ _ (by rw[h.len];exact e)];exact qa7 _ hx
  ·obtain rfl:k=i:=by omega
   rw[List.set_append_right _ _ (by rw[h.len];exact qgw _),h.len,Nat.sub_self];exact qmd (l₁:=l) (l₂:=[(k:Int)])
 refine⟨by rw[hp.length_eq,qh1,h.len],hp.nodup_iff.2 (List.nodup_cons.2 ⟨λhm=>?_,h.nd⟩),λx hx=>?_⟩
 ·have:=h.all _ hm;omega
 ·rcases qif.1 (hp.mem_iff.1 hx) with rfl | h1
  ·omega
  ·have:=h.all x h1;omega
theorem q85(b g n:Nat)(w:qgt)(ht:qS w b g)(hg:g<100000)(hn:n<=1000):qhx Ya 72 #[.pointer (some ⟨b,0,none⟩),.int .i64 n] w λe w'=>∃l v,q8F n l/\e=.returned v/\Tn b (g+n) w w'/\qe w.heap.size w'.heap.size w' v l:=by
 have a8:∀w,(qnE 29 (.int .i64 n) (.int .i64 n)).run Ya w=.ok (.slice (some ⟨w.heap.size,0,none⟩) n n) (w.alloc (.cells (qmt #[.int .i64 0] n) 3)):=λw=>by
  have:=run_make (P:=Ya) w 29 3 qq6 (.int .i64 0) (by rw[Tp.und];exact qll) (by rw[JV _ _ Tp.tables];exact Tryz.type3) rfl .i64 .i64 n n (by omega) (by omega) (by simp[qq6];omega) (by omega);simpa[Value.cells,qq6] using this
 obtain⟨D,hD⟩:∃D,D=w.heap.size:=⟨_,rfl⟩;have b6:b<D:=by rw[hD];exact ht.lt
 have HT:=qgr ht;have HD:=qgr hD;have b7:=qgr a8;clear ht hD a8;go_enter Tp.x72,Tryz.ntmps72;go_upto_region 2 with(first | rw[b7.out]);rw[<- HD.out];show Code.wp _ _ _ _ (w.alloc (.cells (qmt #[.int .i64 0] n) 3));refine JK (λu=>w.grownBy u (some b)/\qS u b g/\yR u D n λ_=>0) ⟨qgs _ _ _,HT.out.alloc _,by rw[HD.out];exact yR.made w n⟩ (λw1 hF=>?_);obtain⟨g1,t1,r1⟩:=hF;have G1:=qgr g1;have T1:=qgr t1;have R1:=qgr r1;clear g1 t1 r1;go_wp2;go_loopw [6] (λiv wr=>∃(i:Nat) (l:List Int),iv=.int .i64 i/\i<=n/\q8F i l/\w.grownBy wr (some b)/\qS wr b (g+i)/\yR wr D n λj=>l[j]?.getD 0) (λiv _=>(n - qia iv).toNat)
 case atStart=>exact⟨0,[],rfl,by omega,⟨rfl,List.nodup_nil,by simp⟩,G1.out,T1.out,R1.out.congr λi hi=>by simp⟩
 case round=>
  obtain⟨i,l,rfl,hi,hl,hG,hT,hR⟩:=hrel;have HL:=qgr hl;have HG:=qgr hG;have b0:=qgr hT;have a6:=qgr hR;clear hl hG hT hR;by_cases hlt:i<n
  ·have b8:(i:Int)<(n:Int):=by omega
   have b9:IntKind.i64.wrap ((i:Int)+1)=(i:Int)+1:=qhm _ (by omega);go_upto_region 6 with(first
    | (go_at_call 68;refine(kg b (g+i) _ _ b0.out (by omega) (by omega)).mono ?_;rintro e w5 ⟨u,hu,rfl,a7,-⟩;have N5:=qgr a7;clear a7))
   obtain⟨k,rfl⟩:=Int.eq_ofNat_of_zero_le hu.1;have hk:k<=i:=by omega
   have c3:(k:Int)<(n:Int):=by omega
   have r5:=a6.out.kept N5.out.1 (by simp;omega);have ck:=r5.cell (i:=k) (by omega);have ci:=r5.cell (i:=i) hlt;have fi:=r5.thaw i;have r6:=r5.set (i:=i) (x:=l[k]?.getD 0) hlt;have c9:=r6.cell (i:=k) (by omega);have fk:=r6.thaw k;have r7:=r6.set (i:=k) (x:=(i:Int)) (by omega);have R7:=qgr r7;have c8:=r5.lt;clear r5 r6 r7 hu;go_wp2;go_roundw
   case rel=>
    have a9:w5.grownBy ((w5.setCell ⟨D,i,none⟩ (.int .i64 (l[k]?.getD 0))).setCell ⟨D,k,none⟩ (.int .i64 i)) (some D):=(qh _ _ _ _).trans (qh _ _ _ _);refine⟨i+1,Zv l i k,by simp,by omega,HL.out.step hk,q5A (HG.out.trans N5.out.1) a9 (by rintro j e;cases e;have:=HD.out;omega),N5.out.2.kept a9 (by rintro B e;cases e;exact b6),R7.out.congr λj hj=>?_⟩;unfold Zv;by_cases e1:j=k
    ·subst e1;rw[if_pos rfl,qks (by simp[HL.out.len];omega)];rfl
    ·rw[if_neg e1,qjq (λe=>e1 e.symm)];by_cases e2:j=i
     ·subst e2;rw[if_pos rfl,qid (by rw[HL.out.len];exact qgw _),HL.out.len,Nat.sub_self];rfl
     ·rw[if_neg e2];by_cases e3:j<i
      ·rw[qhh (by rw[HL.out.len];exact e3)]
      ·rw[qi5 (by rw[HL.out.len];omega),qi5 (by simp[HL.out.len];omega)]
   case measure=>simp[qia];omega
  ·obtain rfl:i=n:=by omega
   go_wp2;go_ret;exact⟨l,_,HL.out,rfl,⟨HG.out,b0.out⟩,a6.out.ints (by have:=HD.out;omega) a6.out.lt HL.out.len (by omega) λj hj=>by rw[qgB (by rw[HL.out.len];exact hj)];rfl⟩
end
end Go.Proofs.YtidgnkmjgioapaaGreat
namespace Go.Proofs
section
open Go Go.RowKit
theorem Tp.x200:Yc 200 Tryz.f200:=Yd
theorem Tp.x211:Yc 211 Tryz.f211:=Yd
theorem Tp.x217:Yc 217 Tryz.f217:=Yd
@[simp] theorem Tp.callPf2:Ye 200/\Ye 211/\Ye 217:=⟨Yf 200,Yf 211,Yf 217⟩
end
end Go.Proofs
namespace Go.Proofs.YtidgnkmjgioapaaGreat
section
open Go.RowKit
theorem Qv(x:Int)(w:qgt):qhx Ya 198 #[.int .i64 x] w λe w'=>e=.returned (.bool false)/\w=w':=by
 go_enter Tp.x198,Tryz.ntmps198;go_wp2;go_ret;exact⟨rfl,rfl⟩
theorem q3u(x y:Int)(w:qgt):qhx Ya 217 #[.int .i64 x,.int .i64 y] w λe w'=>e=.returned (.bool (decide (x<y)))/\w=w':=by
 go_enter Tp.x217,Tryz.ntmps217;go_wp2_with (first | (go_at_call 198;refine(Qv _ _).mono ?_;rintro e w2 ⟨rfl,rfl⟩));go_ret;exact⟨rfl,rfl⟩
theorem q8a(n:Nat)(h:n<=12)(w:qgt):qhx Ya 197 #[.int .u64 n] w λe w'=>∃v,e=.returned (.int .i64 v)/\w=w':=by
 obtain rfl | rfl | rfl | rfl | rfl | rfl | rfl | rfl | rfl | rfl | rfl | rfl | rfl:n=0\/n=1\/n=2\/n=3\/n=4\/n=5\/n=6\/n=7\/n=8\/n=9\/n=10\/n=11\/n=12:=by omega
 all_goals
  go_enter Tp.x197,Tryz.ntmps197;go_wp2;go_ret;exact⟨_,rfl,rfl⟩
end
end Go.Proofs.YtidgnkmjgioapaaGreat
section
namespace Go
section
variable{P:qgG}{ops:Array qiu}{md:qku}{Q:Exit->Act->qgt->Prop}{S:qgt->Prop}
def jc(P:qgG)(md:qku)(ops:Array qiu)(Q:Exit->Act->qgt->Prop)(S:qgt->Prop)(n:Nat)(L:Array Bool->Act->qgt->Prop):Nat->Array Bool->Act->qgt->Prop
 | 0,listed,a,w=>L listed a w
 | f+1,listed,a,w=>
  qh8 md ops listed≠[]/\∀i∈qh8 md ops listed,i<n/\wpOp P ops Q i (λa' w'=>S w'/\jc P md ops Q S n L f (listed.setIfInBounds i true) a' w') a w
theorem jS{n g:Nat}{L:Array Bool->Act->qgt->Prop}(hL:∀listed a w,L listed a w->wpAny P md ops Q g listed a w) :∀(f:Nat) (listed:Array Bool) (a:Act) (w:qgt),jc P md ops Q S n L f listed a w->wpAny P md ops Q (f+g) listed a w
 | 0,listed,a,w,h=>by rw[qhd];exact hL _ _ _ h
 | f+1,listed,a,w,h=>by
  rw[show f+1+g=(f+g)+1 by omega];exact⟨λh0=>absurd h0 h.1,λi hi=>wpOp_mono (λa' w' h'=>jS hL f _ a' w' h'.2) (h.2 i hi).2⟩
theorem q18{n i:Nat}{oi:qiu}{v:qgx}{L:Array Bool->Act->qgt->Prop}(hi:ops[i]?=some oi)(b7:∀(j:Nat) (o:qiu) cs b,ops[j]?=some o->o.op≠.select cs b)(hs:qoE md ops n=true)(hc:qon md ops n=true)(hn:n<ops.size)(hin:i<n)(hQ:∀c a w,Q (.panic c) (a.put oi.dst v) w->Q (.panic c) a w)(hdone:∀listed a w,L listed a w->∀j∈qh8 md ops listed,n<=j) :∀(f:Nat) (listed:Array Bool) (a:Act) (w:qgt),HeadInv md ops n listed ->(∀j oj,ops[j]?=some oj->j≠i->listed.getD j true=false->(∀e∈oj.after,qhH md e=true->e.on≠i)->oi.apart ops oj=true) ->i∈qh8 md ops listed->YieldsIf P ops S oi v a->S w ->jc P md ops Q S n L f (listed.setIfInBounds i true) (a.put oi.dst v) w->jc P md ops Q S n L (f+1) listed a w:=by
 intro f;induction f with
 | zero=>
  intro listed a w a9 _ hr hy hS H;have a7:=(mem_ready.1 hr).1;refine⟨λh=>(by rw[h] at hr;cases hr),λj hj=>?_⟩;have b0:j<n:=by
   rcases qiA j n with h | h
   ·exact h
   ·exact absurd hj (tail_waits hs hc hn a9 _ i rfl hin a7 j h)
  refine⟨b0,?_⟩;by_cases a6:j=i
  ·subst a6;exact hy.wpOp hi hS ⟨hS,H⟩
  ·have:=hdone _ _ _ H j (ready_mono hj a6);omega
 | succ f ih=>
  intro listed a w a9 a8 hr hy hS H;have a7:=(mem_ready.1 hr).1;refine⟨λh=>(by rw[h] at hr;cases hr),λj hj=>?_⟩;have b0:j<n:=by
   rcases qiA j n with h | h
   ·exact h
   ·exact absurd hj (tail_waits hs hc hn a9 _ i rfl hin a7 j h)
  refine⟨b0,?_⟩;by_cases a6:j=i
  ·subst a6;exact hy.wpOp hi hS ⟨hS,H⟩
  ·have h1:=(H.2 j (ready_mono hj a6)).2;obtain⟨b8,oj,b9,hall⟩:=mem_ready.1 hj;have c3:∀e∈oj.after,qhH md e=true->e.on≠i:=λe he hb d6=>by
    have h1:=hall e he hb;rw[d6,getD_both a7] at h1;cases h1
   have h2:=wpOp_putIf b9 (a8 j oj b9 a6 b8 c3) (λcs b=>b7 i oi cs b hi) (λcs b=>b7 j oj cs b b9) hQ hy h1;have b6:∀k ok,ops[k]?=some ok->k≠i->(listed.setIfInBounds j true).getD k true=false ->
     (∀e∈ok.after,qhH md e=true->e.on≠i)->oi.apart ops ok=true:=λk ok hk d5 a7 c9=>by
    refine a8 k ok hk d5 ?_ c9;by_cases c8:j=k
    ·subst c8;exact b8
    ·rw[getD_set_ne true c8] at a7;exact a7
   refine wpOp_mono (λa' w' h3=>⟨h3.2.1,ih (listed.setIfInBounds j true) a' w' (a9.set hj b0) b6 (ready_mono hr (Ne.symm a6)) h3.1 h3.2.1 ?_⟩) h2;rw[Array.setIfInBounds_comm _ _ a6];exact h3.2.2
def q3B(md:qku)(ops:Array qiu)(n:Nat)(listed:Array Bool):Bool :=
 decide (listed.size=ops.size) && (qhl ops.size).all (λj=>!listed.getD j false || ((ops[j]?).map (·.after.all λe=>!qhH md e || listed.getD e.on false)).getD true) &&
  (qhl ops.size).all λt=>decide (t<n) || !listed.getD t true
theorem q8g{n:Nat}{listed:Array Bool}(h:q3B md ops n listed=true):HeadInv md ops n listed:=by
 simp only[q3B,qh9,decide_eq_true_eq] at h;obtain⟨⟨h1,h2⟩,h3⟩:=h;refine⟨h1,λj oj hj hl e he hb=>?_,λt ht a6=>?_⟩
 ·have:=qhE.1 h2 j (qj3.2 (qgu.1 hj).1);simp only[hl,hj,qmw,Bool.false_or,qij,qgD] at this;have h4:=(qiv.1 this) e he;simpa[hb] using h4
 ·have:=qhE.1 h3 t (qj3.2 a6);simp only[qju,decide_eq_true_eq,qjz] at this;exact this.elim (λe=>absurd e (by omega)) id
theorem Ja{n i g:Nat}{oi:qiu}{v:qgx}{f:Nat}{listed:Array Bool}{a:Act}{w:qgt}{R:Act->qgt->Prop}(hi:ops[i]?=some oi)(hB:(qp0 ops && qoE md ops n && qon md ops n && decide (n<ops.size) && decide (i<n) && q3B md ops n listed && qqt md ops listed i && (qh8 md ops listed).contains i)=true)(hQ:∀c a w,Q (.panic c) (a.put oi.dst v) w->Q (.panic c) a w)(hy:YieldsIf P ops S oi v a)(hS:S w)(h:jc P md ops Q S n (λlisted a w=>qlB md ops g n listed=true/\R a w) f (listed.setIfInBounds i true) (a.put oi.dst v) w) :jc P md ops Q S n (λlisted a w=>qlB md ops g n listed=true/\R a w) (f+1) listed a w:=by
 simp only[qh9,decide_eq_true_eq] at hB;obtain⟨⟨⟨⟨⟨⟨⟨h1,h2⟩,h3⟩,h4⟩,h5⟩,h6⟩,h7⟩,h8⟩:=hB;exact q18 hi (Region.noSelect_spec h1) h2 h3 h4 h5 hQ (λlisted a w hL=>seqB_ready hL.1) f listed a w (q8g h6) (Region.free_spec hi h7) (by simpa using h8) hy hS h
theorem tk(i:Nat){n g:Nat}{oi:qiu}{v:qgx}{f:Nat}{listed:Array Bool}{a:Act}{w:qgt}{R:Act->qgt->Prop}(hi:ops[i]?=some oi:=by rfl)(hy:∀w,S w->(qk5 a.eval oi).run P w=.ok (.value v) w:=by intro w a6;(try dsimp only at a6);go_simp;try with_reducible rfl)(hB:(qp0 ops && qoE md ops n && qon md ops n && decide (n<ops.size) && decide (i<n) && q3B md ops n listed && qqt md ops listed i && (qh8 md ops listed).contains i)=true:=by kernel_rfl)(hQ:∀c a w,Q (.panic c) (a.put oi.dst v) w->Q (.panic c) a w:=by exact λ_ _ _ h=>h)(hw:qhD oi (qjn ops a.tmps)=true:=by kernel_rfl)(hS:S w:=by assumption)(h:jc P md ops Q S n (λlisted a w=>qlB md ops g n listed=true/\R a w) f (listed.setIfInBounds i true) (a.put oi.dst v) w) :jc P md ops Q S n (λlisted a w=>qlB md ops g n listed=true/\R a w) (f+1) listed a w:=Ja hi hB hQ (Or.inl ⟨hw,hy⟩) hS h
theorem tku(i:Nat){n g:Nat}{oi:qiu}{f:Nat}{listed:Array Bool}{a:Act}{w:qgt}{R:Act->qgt->Prop}(hi:ops[i]?=some oi:=by rfl)(hB:(qp0 ops && qoE md ops n && qon md ops n && decide (n<ops.size) && decide (i<n) && q3B md ops n listed && qqt md ops listed i && (qh8 md ops listed).contains i)=true:=by kernel_rfl)(hQ:∀c a w,Q (.panic c) (a.put oi.dst qgz) w->Q (.panic c) a w:=by exact λ_ _ _ h=>h)(hw:qhD oi (qjn ops a.tmps)=false:=by kernel_rfl)(hS:S w:=by assumption)(h:jc P md ops Q S n (λlisted a w=>qlB md ops g n listed=true/\R a w) f (listed.setIfInBounds i true) (a.put oi.dst qgz) w) :jc P md ops Q S n (λlisted a w=>qlB md ops g n listed=true/\R a w) (f+1) listed a w:=Ja hi hB hQ (Or.inr ⟨hw,rfl⟩) hS h
def qp(P:qgG)(md:qku)(ops:Array qiu)(Q:Exit->Act->qgt->Prop)(S:qgt->Prop)(n:Nat)(L:Array Bool->Act->qgt->Prop)(f:Nat)(listed:Array Bool)(a:Act)(w:qgt)(rs:List Nat):Prop :=
 ∀i∈rs,i<n/\wpOp P ops Q i (λa' w'=>S w'/\jc P md ops Q S n L f (listed.setIfInBounds i true) a' w') a w
theorem qp.nil{n f:Nat}{L:Array Bool->Act->qgt->Prop}{listed:Array Bool}{a:Act}{w:qgt}:qp P md ops Q S n L f listed a w []:=λ_ h=>by cases h
theorem qp.cons{n i:Nat}{oi:qiu}{f:Nat}{listed:Array Bool}{a:Act}{w:qgt}{L:Array Bool->Act->qgt->Prop}{rs:List Nat}(hi:ops[i]?=some oi)(hn:decide (i<n)=true)(h:∀K':Act->qgt->Prop,Shut (∀a w,S w->(S w->jc P md ops Q S n L f (listed.setIfInBounds i true) a w)->K' a w)->if qhD oi (qjn ops a.tmps)=true then Oper.wp P oi a w K' Q else K' (a.put oi.dst qgz) w)(hs:qp P md ops Q S n L f listed a w rs):qp P md ops Q S n L f listed a w (i::rs):=λj hj=>by
 rcases qif.1 hj with rfl | hj
 ·exact⟨by simpa using hn,wpOp_step hi (λK' hK=>h K' (λa w hS hW=>hK a w ⟨hS,hW hS⟩))⟩
 ·exact hs j hj
theorem q17{n f:Nat}{listed:Array Bool}{a:Act}{w:qgt}{L:Array Bool->Act->qgt->Prop}(rs:List Nat)(hr:decide (qh8 md ops listed=rs)=true)(hne:rs≠[])(h:qp P md ops Q S n L f listed a w rs) :jc P md ops Q S n L (f+1) listed a w:=by
 have hr':qh8 md ops listed=rs:=by simpa using hr
 exact⟨λe=>hne (hr' ▸ e),hr' ▸ h⟩
theorem rdy(rs:List Nat){n f:Nat}{listed:Array Bool}{a:Act}{w:qgt}{L:Array Bool->Act->qgt->Prop}(h:qp P md ops Q S n L f listed a w rs)(hr:decide (qh8 md ops listed=rs)=true:=by kernel_rfl)(hne:rs≠[]:=by simp):jc P md ops Q S n L (f+1) listed a w:=q17 rs hr hne h
theorem cns(i:Nat){n:Nat}{oi:qiu}{f:Nat}{listed:Array Bool}{a:Act}{w:qgt}{L:Array Bool->Act->qgt->Prop}{rs:List Nat}(h:∀K':Act->qgt->Prop,Shut (∀a w,S w->(S w->jc P md ops Q S n L f (listed.setIfInBounds i true) a w)->K' a w)->if qhD oi (qjn ops a.tmps)=true then Oper.wp P oi a w K' Q else K' (a.put oi.dst qgz) w)(hs:qp P md ops Q S n L f listed a w rs)(hi:ops[i]?=some oi:=by rfl)(hn:decide (i<n)=true:=by rfl):qp P md ops Q S n L f listed a w (i::rs):=qp.cons hi hn h hs
theorem qU{id:Nat}{a:Act}{w:qgt}{l:List qiu}(n:Nat)(S:qgt->Prop)(hm:P.follows .mixedOrders=true)(hn:decide (n<=l.length)=true)(hS:S w.drew)(h:S w.drew->jc P .any l.toArray Q S n (λlisted a w=>qlB .any l.toArray (l.length - n) n listed=true/\qol P l.toArray Q (l.drop n) a w) n (qhC l.length false) a w.drew) :(Code.region id l.toArray true).wp P Q a w:=by
 have a6:n<=l.length:=by simpa using hn
 refine wp_region_any hm ?_;have:=jS (g:=l.length - n) (λlisted a w hL=>by
  have:=qq7 (md:=.any) (Q':=Q) (ops:=l.toArray) (l.drop n) n listed a w (λj=>by simp[qlE]) (by rw[ql8];exact hL.1) hL.2
  rwa [ql8] at this) _ _ _ _ (h hS)
 rw[show n+(l.length - n)=l.toArray.size by simp;omega] at this;simpa using this
end
end Go
namespace Go
theorem qe4{P:qgG}{Q:Exit->Act->qgt->Prop}{a:Act}{w:qgt}{l:List qiu}(n:Nat)(S:qgt->Prop)(hn:decide (n<=l.length)=true)(hS:S w)(h:S w->jc P .any l.toArray Q S n (λlisted a w=>qlB .any l.toArray (l.length - n) n listed=true/\qol P l.toArray Q (l.drop n) a w) n (qhC l.length false) a w) :wpAny P .any l.toArray Q l.toArray.size (qhC l.toArray.size false) a w:=by
 have a6:n<=l.length:=by simpa using hn
 have:=jS (g:=l.length - n) (λlisted a w hL=>by
  have:=qq7 (md:=.any) (Q':=Q) (ops:=l.toArray) (l.drop n) n listed a w (λj=>by simp[qlE]) (by rw[ql8];exact hL.1) hL.2
  rwa [ql8] at this) _ _ _ _ (h hS)
 rw[show n+(l.length - n)=l.toArray.size by simp;omega] at this;simpa using this
end Go
end
namespace Go.Proofs.YtidgnkmjgioapaaGreat
section
open Go.RowKit
def zf(B:Nat)(w:qgt)(L:List Int):Prop:=∃cs,w.heap[B]?=some (.cells cs 3 (0,0))/\∀i,i<L.length->cs[i]?=some (.int .i64 (L[i]?.getD 0))
def vD:Nat->List Int->List Int
 | 0,L=>L
 | j+1,L=>if L[j+1]?.getD 0<L[j]?.getD 0 then vD j ((L.set (j+1) (L[j]?.getD 0)).set j (L[j+1]?.getD 0)) else L
def zM(k:Nat)(L:List Int):List Int:=(qhl k).foldl (λL i=>vD i L) L
theorem yK(k:Nat)(L:List Int):zM (k+1) L=vD k (zM k L):=by simp[zM,qkG]
theorem q7z(j:Nat)(L:List Int):(vD j L).length=L.length:=by
 induction j generalizing L with
 | zero=>rfl
 | succ j ih=>
  unfold vD;split
  ·rw[ih];simp
  ·rfl
theorem xq(k:Nat)(L:List Int):(zM k L).length=L.length:=by
 induction k with
 | zero=>rfl
 | succ k ih=>rw[yK,q7z,ih]
theorem YQ{l:List Int}(h:∀i,i+1<l.length->l[i]?.getD 0<=l[i+1]?.getD 0):∀k,k<=l.length->zM k l=l
 | 0,_=>rfl
 | k+1,hk=>by
  rw[yK,YQ h k (by omega)];cases k with
  | zero=>rfl
  | succ k=>
   unfold vD;have:=h k (by omega);rw[if_neg (by omega)]
section
variable{B:Nat}{w w':qgt}{L:List Int}
theorem zf.kept{r:Option Nat}(h:zf B w L)(hg:w.grownBy w' r)(hr:some B≠r):zf B w' L:=let ⟨cs,h1,h2⟩:=h;⟨cs,blk hg hr h1,h2⟩
theorem zf.at{k:Nat}(h:zf B w L)(hk:k<L.length):w.cell? ⟨B,k,none⟩=some (.int .i64 (L[k]?.getD 0)):=let ⟨_,h1,h2⟩:=h;q9 h1 (h2 k hk)
theorem zf.thaw{k:Nat}(h:zf B w L):w.frozen? ⟨B,k,none⟩=false:=let ⟨_,h1,_⟩:=h;qq h1
theorem zf.step{j:Nat}{y v:qgx}(h:zf B w L)(hy:w.cell? ⟨B,j,none⟩=some y):(w.setCell ⟨B,j+1,none⟩ v).cell? ⟨B,j,none⟩=some y/\(w.setCell ⟨B,j+1,none⟩ v).frozen? ⟨B,j,none⟩=false:=by
 obtain⟨cs,h1,-⟩:=h;have g1:(w.setCell ⟨B,j+1,none⟩ v).heap[B]?=some (.cells (cs.setIfInBounds (j+1) v) 3 (0,0)):=by rw[qj h1]
 have c2:cs[j]?=some y:=by simpa[qhu,h1] using hy
 exact⟨q9 g1 (by rw[qi3 (by omega)];exact c2),qq g1⟩
theorem zf.swap{j:Nat}{a b:Int}(h:zf B w L)(hj:j+1<L.length) :zf B ((w.setCell ⟨B,j+1,none⟩ (.int .i64 b)).setCell ⟨B,j,none⟩ (.int .i64 a)) ((L.set (j+1) b).set j a):=by
 obtain⟨cs,h1,h2⟩:=h;have g1:(w.setCell ⟨B,j+1,none⟩ (.int .i64 b)).heap[B]?=some (.cells (cs.setIfInBounds (j+1) (.int .i64 b)) 3 (0,0)):=by rw[qj h1]
 have g2:((w.setCell ⟨B,j+1,none⟩ (.int .i64 b)).setCell ⟨B,j,none⟩ (.int .i64 a)).heap[B]?=some (.cells ((cs.setIfInBounds (j+1) (.int .i64 b)).setIfInBounds j (.int .i64 a)) 3 (0,0)):=by rw[qj g1]
 have s1:=(qgu.1 (h2 (j+1) hj)).1;refine⟨_,g2,λi hi=>?_⟩;simp only[qlh] at hi;by_cases e:i=j
 ·subst e;rw[qjk (by rw[Array.size_setIfInBounds];omega),qks (by rw[qlh];omega)];rfl
 ·by_cases e':i=j+1
  ·subst e';rw[qi3 (by omega),qjk (by omega),qjq (by omega),qks (by omega)];rfl
  ·rw[qi3 (by omega),qi3 (by omega),qjq (by omega),qjq (by omega)];exact h2 i hi
end
theorem q5u(B c:Nat)(L:List Int)(w:qgt)(hI:zf B w L)(h9:L.length<=1000) :qhx Ya 211 #[.slice (some ⟨B,0,none⟩) L.length c,.int .i64 0,.int .i64 L.length] w λe w'=>e=.returned (.tuple #[])/\w.grownBy w' (some B)/\zf B w' (zM L.length L):=by
 have HI:=qgr hI;have g7:(L.length:Int)<=1000:=by omega
 clear hI;go_enter Tp.x211,Tryz.ntmps211;go_wp2;go_loopw [6] (λiv wr=>∃k:Nat,iv=.int .i64 (k+1:Nat)/\k<=1000/\w.grownBy wr (some B)/\zf B wr (zM (min (k+1) L.length) L)) (λiv _=>(L.length - qia iv).toNat)
 case atStart=>exact⟨0,rfl,by omega,qh6 _ _,by
  by_cases h:L.length=0
  ·rw[h];exact HI.out
  ·rw[show min (0+1) L.length=0+1 by omega,yK];exact HI.out⟩
 case round=>
  obtain⟨k,rfl,hk,hG,hR⟩:=hrel;have HG:=qgr hG;have HR:=qgr hR;clear hG hR;by_cases hlt:k+1<L.length
  ·have e6:(k:Int)+1<(L.length:Int):=by omega
   have e5:IntKind.i64.wrap ((k:Int)+1+1)=(k:Int)+1+1:=qhm _ (by omega);have e8:IntKind.i64.wrap ((k:Int)+1)=(k:Int)+1:=qhm _ (by omega);go_wp2;go_loopw [7] (λjv w2=>∃(j:Nat) (Lj:List Int),jv=.int .i64 j/\j<=k+1/\vD (k+1) (zM (min (k+1) L.length) L)=vD j Lj/\Lj.length=L.length/\w.grownBy w2 (some B)/\zf B w2 Lj) (λjv _=>(qia jv).toNat)
   case atStart=>exact⟨k+1,_,rfl,qgw _,rfl,xq _ _,HG.out,HR.out⟩
   case round=>
    obtain⟨j0,Lj,rfl,hj,hs,c8,d5,c9⟩:=hrel;have b9:=qgr hs;have d7:=qgr c8;have c3:=qgr d5;have a8:=qgr c9;clear hs c8 d5 c9;have hout:vD (k+1) (zM (min (k+1) L.length) L)=Lj->∀w5,w.grownBy w5 (some B)->zf B w5 Lj->∃k',qhe .i64 ((k:Int)+1+1)=.int .i64 ((k'+1:Nat):Int)/\k'<=1000/\w.grownBy w5 (some B)/\zf B w5 (zM (min (k'+1) L.length) L):=λe w5 h1 h2=>
     ⟨k+1,by simp,by omega,h1,by rw[show min (k+1+1) L.length=(k+1)+1 by omega,yK,<- show min (k+1) L.length=k+1 by omega,show min (k+1) L.length=k+1 by omega];rw[show min (k+1) L.length=k+1 by omega] at e;rw[e];exact h2⟩
    have a9:=qgr hout;clear hout;cases j0 with
    | zero=>
     go_wp2_with (fail);go_quiet (fail);go_wp2;go_roundw
     case rel=>exact a9.out b9.out _ (c3.out.andThen (qk _ _ none) (by simp)) (a8.out.kept (qk _ _ none) (by simp))
     case measure=>simp[qia];omega
    | succ j=>
     have b0:j+1<Lj.length:=by have:=d7.out;omega
     have x1:=a8.out.at (k:=j+1) b0;have y1:=a8.out.at (k:=j) (by omega);have z1:=a8.out.thaw (k:=j+1);have z0:=a8.out.thaw (k:=j);have a7:vD (j+1) Lj=if Lj[j+1]?.getD 0<Lj[j]?.getD 0 then vD j ((Lj.set (j+1) (Lj[j]?.getD 0)).set j (Lj[j+1]?.getD 0)) else Lj:=rfl;generalize Lj[j+1]?.getD 0=a at a7 x1;generalize Lj[j]?.getD 0=b at a7 y1;have e9:IntKind.i64.wrap (j:Int)=(j:Int):=qhm _ (by omega);have g6:((j:Int)+1).toNat=j+1:=by omega
     have g9:(j:Int)+1<(L.length:Int):=by omega
     have e7:(j:Int)<(L.length:Int):=by omega
     have h8:(0:Int)<=(j:Int)+1:=by omega
     have g8:(0:Int)<(j:Int)+1:=by omega
     have g5:(j:Int)+1 - 1=(j:Int):=by omega
     have e4:=qgr b0;clear b0;by_cases hz:a<b
     ·rw[if_pos hz] at a7;have b8:=qgr a7;clear a7;go_wp2_with (fail);go_quiet (first | (go_at_call 217;refine qiG ((q3u _ _ _).mono (λe w5 h=>⟨h.1,h.2.symm⟩))));go_upto_region 6 with(fail);have b6:=qk wr nq none;generalize wr.drewN nq=wa at b6 ⊢;have hgb:wr.grownBy wa.drew none:=b6.trans (qg wa none);have RA:=a8.out.kept hgb (by simp);have x2:=hgb.cell x1 (by simp);have y2:=hgb.cell y1 (by simp);have d8:=qgr (RA.swap (a:=a) (b:=b) e4.out);have d9:=qgr (((c3.out.andThen hgb (by simp)).andThen (qh _ B (j+1) (.int .i64 b)) (λj e=>.inr e)).andThen (qh _ B j (.int .i64 a)) (λj e=>.inr e));have z2:=RA.thaw (k:=j+1);have z3:=RA.thaw (k:=j);have b7:=RA.step (v:=.int .i64 b) y2;have d6:=qgr b7;have z4:=b7.2;clear RA b7 x1 y1 z1 z0 b6 hgb;refine qU 16 (λw'=>w'.cell? ⟨B,j,none⟩=some (.int .i64 b)/\w'.frozen? ⟨B,j,none⟩=false) (by kernel_rfl) (by kernel_rfl) ⟨y2,z3⟩ (λa6=>?_);simp only[qh1,qh7,qhj,qir,qhd,qhr,qhs,qi1,qhn,qha];refine tk 0 (h:=tk 1 (h:=tk 2 (h:=tk 3 (h:=tk 4 (h:=tk 5 (h:=tk 6 (h:=tk 7 (h:=tk 8 (h:=tk 9 (h:=tk 10 (h:=tk 11 (h:=tk 12 (h:=?_)))))))))))));try go_frame
      refine rdy [13] ?_;refine cns 13 (λK hK=>?_) ?_
      ·skip;go_simp;refine hK.out _ _ (by first | exact a6 | exact⟨y2,z3⟩ | exact d6.out) (λa6=>?_);clear hK K;try go_frame
       refine tk 14 (h:=?_);try go_frame
       refine rdy [15] ?_;refine cns 15 (λK hK=>?_) ?_
       ·skip;go_simp;refine hK.out _ _ (by first | exact a6 | exact⟨y2,z3⟩ | exact d6.out) (λa6=>?_);clear hK K;try go_frame
        refine⟨by kernel_rfl,?_⟩;simp only[qhA,qio];go_wp2;refine⟨?_,?measure⟩
        repeat apply Exists.intro
        refine⟨?rel,rfl⟩
        case rel=>exact⟨j,_,rfl,by omega,b9.out.trans b8.out,by simp[d7.out],d9.out,d8.out⟩
        case measure=>simp[qia]
       exact qp.nil
      exact qp.nil
     ·rw[if_neg hz] at a7;have b8:=qgr a7;clear a7;go_wp2_with (fail);go_quiet (first | (go_at_call 217;refine qiG ((q3u _ _ _).mono (λe w5 h=>⟨h.1,h.2.symm⟩))));go_wp2;go_roundw
      case rel=>exact a9.out (b9.out.trans b8.out) _ (c3.out.andThen (qk _ _ none) (by simp)) (a8.out.kept (qk _ _ none) (by simp))
      case measure=>simp[qia];omega
  ·have he:min (k+1) L.length=L.length:=by omega
   rw[he] at HR;go_wp2;go_end0;exact⟨rfl,HG.out,HR.out⟩
def QN(base:Option qi2)(B:Nat)(w:qgt)(L:List Int):Prop:=(base=some ⟨B,0,none⟩/\zf B w L)\/L=[]
theorem q5v(base:Option qi2)(B c:Nat)(L:List Int)(w:qgt)(hI:QN base B w L)(a6:L.length<=1000) :qhx Ya 211 #[.slice base L.length c,.int .i64 0,.int .i64 L.length] w λe w'=>e=.returned (.tuple #[])/\w.grownBy w' (some B)/\QN base B w' (zM L.length L):=by
 rcases hI with⟨rfl,hI⟩ | rfl
 ·exact(q5u B c L w hI a6).mono λe w' ⟨h1,h2,h3⟩=>⟨h1,h2,.inl ⟨rfl,h3⟩⟩
 ·go_enter Tp.x211,Tryz.ntmps211;go_wp2;go_loopw [6] (λiv wr=>iv=.int .i64 1/\w.grownBy wr (some B)) (λ_ _=>0)
  case atStart=>exact⟨rfl,qh6 _ _⟩
  case round=>
   obtain⟨rfl,hG⟩:=hrel;go_wp2;go_end0;exact⟨rfl,hG,.inr rfl⟩
end
section
open Go.RowKit
theorem JA(n:Nat)(h:n<=12)(w:qgt):qhx Ya 156 #[.int .u64 n] w λe w'=>∃v,e=.returned (.int .i64 v)/\w=w':=by
 go_enter Tp.x156,Tryz.ntmps156;go_wp2_with (first | (go_at_call 197;refine(q8a n h _).mono ?_;rintro e w2 ⟨v,rfl,rfl⟩));go_ret;exact⟨_,rfl,rfl⟩
theorem pdqI(base:Option qi2)(B c:Nat)(L:List Int)(lim:Int)(w:qgt)(hI:QN base B w L)(a6:L.length<=12) :qhx Ya 200 #[.slice base L.length c,.int .i64 0,.int .i64 L.length,.int .i64 lim] w λe w'=>e=.returned (.tuple #[])/\w.grownBy w' (some B)/\QN base B w' (zM L.length L):=by
 have HI:=qgr hI;clear hI;go_enter Tp.x200,Tryz.ntmps200;go_wp2;go_loopw [1,2,3] (λa b c wr=>a=.int .i64 0/\b=.int .i64 L.length/\c=.int .i64 lim/\w=wr) (λ_ _ _ _=>0)
 case atStart=>exact⟨rfl,rfl,rfl,rfl⟩
 case round=>
  obtain⟨rfl,rfl,rfl,rfl⟩:=hrel;have h1:IntKind.i64.wrap (L.length:Int)=(L.length:Int):=qhm _ (by omega);have h2:(L.length:Int)<=12:=by omega
  go_wp2_with (first | (go_at_call 211;refine(q5v base B c L _ HI.out (by omega)).mono ?_;rintro e w2 ⟨rfl,hg,hr⟩));refine qjD (results_none rfl _ _ _) rfl ?_;exact⟨rfl,hg,hr⟩
theorem qfv(base:Option qi2)(B c:Nat)(L:List Int)(w:qgt)(hI:QN base B w L)(a6:L.length<=12) :qhx Ya 164 #[.slice base L.length c] w λe w'=>e=.returned (.tuple #[])/\w.grownBy w' (some B)/\QN base B w' (zM L.length L):=by
 have HI:=qgr hI;clear hI;have hw:IntKind.u64.wrap (L.length:Int)=(L.length:Int):=by simp[IntKind.wrap,IntKind.signed,IntKind.bits];omega
 go_enter Tp.x164,Tryz.ntmps164;go_wp2_with (first
  | (go_at_call 156;refine(JA L.length a6 _).mono ?_;rintro e w2 ⟨v,rfl,rfl⟩)
  | (go_at_call 200;refine(pdqI base B c L _ _ HI.out a6).mono ?_;rintro e w2 ⟨rfl,hg,hr⟩))
 go_end0;exact⟨rfl,hg,hr⟩
theorem QQ(b:Option qi2)(n c:Nat)(w:qgt):qhx Ya 135 #[.slice b n c] w λe w'=>e=.returned (.func (.func 165) #[] #[.pointer (some ⟨w.heap.size,0,none⟩)])/\w'=w.alloc (.cells #[.slice b n c] 29):=by
 go_enter Tp.x135,Tryz.ntmps135;go_wp2;go_ret;exact⟨rfl,rfl⟩
def zO(ws:List Int):Nat->List Int->Nat->List (List Int)
 | 0,now,_=>[now]
 | m+1,now,from_=>(qnw from_ (ws.length - from_)).flatMap λi=>zO ws m (now++[ws[i]?.getD 0]) (i+1)
theorem Z3{ws:List Int}{m:Nat}{now:List Int}{i:Nat}(h:i<ws.length):zO ws (m+1) now i=zO ws m (now++[ws[i]?.getD 0]) (i+1)++zO ws (m+1) now (i+1):=by
 have e:ws.length - i=(ws.length - (i+1))+1:=by omega
 simp only[zO];rw[e,List.range'_succ,qjA]
theorem q0y{ws:List Int}{m:Nat}{now:List Int}{i:Nat}(h:ws.length<=i):zO ws (m+1) now i=[]:=by
 simp only[zO];rw[show ws.length - i=0 by omega];rfl
def yp(ws:List Int)(k:Nat):List (List Int):=(qnw k (ws.length+1 - k)).flatMap λm=>zO ws m [] 0
theorem ZR{ws:List Int}{k:Nat}(h:k<ws.length+1):yp ws k=zO ws k [] 0++yp ws (k+1):=by
 have e:ws.length+1 - k=(ws.length+1 - (k+1))+1:=by omega
 unfold yp;rw[e,List.range'_succ,qjA]
theorem q2w{ws:List Int}{k:Nat}(h:ws.length+1<=k):yp ws k=[]:=by
 unfold yp;rw[show ws.length+1 - k=0 by omega];rfl
end
end Go.Proofs.YtidgnkmjgioapaaGreat
namespace Go
section
open Go.RowKit
section
variable{F:Fence}{n:Nat}{P:qgG}
structure Stp(n1 B:Nat)(G:Nat->Prop)(A C:qgt):Prop where
 os:C.os=A.os
 tape:C.tape=A.tape
 output:C.output=A.output
 size:A.heap.size<=C.heap.size
 keep:∀k,k<A.heap.size->((k<n1/\k≠B)\/G k)->C.heap[k]?=A.heap[k]?
structure Bod(n1 B:Nat)(G G':Nat->Prop)(A C:qgt):Prop where
 tape:C.tape=A.tape
 size:A.heap.size<=C.heap.size
 keep:∀k,k<A.heap.size->(n1<=k\/k=B)->¬ G k->C.heap[k]?=A.heap[k]?
 fp:∀k,G' k->G k\/A.heap.size<=k
theorem Bod.trans{n1 B:Nat}{G G' a6:Nat->Prop}{A C E:qgt}(h:Bod n1 B G G' A C)(k:Bod n1 B G' a6 C E):Bod n1 B G a6 A E :=
 ⟨k.tape.trans h.tape,qgE h.size k.size,λj hj hn hf=>(k.keep j (qh2 hj h.size) hn (λe=>(h.fp j e).elim hf (by omega))).trans (h.keep j hj hn hf),
  λj hj=>(k.fp j hj).elim (h.fp j) (λe=>.inr (qgE h.size e))⟩
theorem Stp.mono{n1 n2 B:Nat}{G:Nat->Prop}{A C:qgt}(h:Stp n2 B G A C)(hn:n1<=n2):Stp n1 B G A C:=⟨h.os,h.tape,h.output,h.size,λk hk hc=>h.keep k hk (hc.imp (λe=>⟨by omega,e.2⟩) id)⟩
theorem Bod.mono{n1 n2 B:Nat}{G G':Nat->Prop}{A C:qgt}(h:Bod n1 B G G' A C)(hn:n1<=n2):Bod n2 B G G' A C:=⟨h.tape,h.size,λk hk hc=>h.keep k hk (hc.imp (λe=>by omega) id),h.fp⟩
def qgf{Y:Type}(F:Fence)(n:Nat)(P:qgG)(g:Nat)(lb:Array qgx)(a6:Y->Array qgx)(Xp:Y->qgt->Prop)(S Sp:List Y->Prop)(B:Nat)(w0:qgt):Prop :=
 ∀(l:Nat) (J Jx:List Y->(Nat->Prop)->qgt->Prop) (G0:Nat->Prop) (W:qgt),Below w0.heap.size w0 W->¬ G0 B->(∀s G A,J s G A->∀k,G k->k<A.heap.size) ->
  (∀s G A C,J s G A->Stp W.heap.size B G A C->J s G C)->(∀s G A C,Jx s G A->Stp W.heap.size B G A C->Jx s G C) ->
  (∀pre G x W1,J pre G W1->Xp x W1->Sp (pre++[x])->YieldAt F (n - 1) P l (a6 x) W1 λe W'=>
   ∃G',(e=.returned (.bool true)/\J (pre++[x]) G' W'/\Bod W.heap.size B G G' W1 W')\/(e=.returned (.bool false)/\Jx (pre++[x]) G' W'/\Bod W.heap.size B G G' W1 W')) ->
  J [] G0 W ->
  CallsIn F n P g (#[.func (.yield l) #[] #[]]++lb) W λe W'=>(∃v,e=.returned v)/\((∃xs G,S xs/\J xs G W')\/(∃pre G,Sp pre/\Jx pre G W'))
def qfw{Y:Type}(n1 B:Nat)(G:Nat->Prop)(I:List Y->(Nat->Prop)->qgt->Prop)(Ix:qj9->List Y->(Nat->Prop)->qgt->Prop)(xs:List Y)(W:qgt):Exit->Act->qgt->Prop
 | .normal,_,W'=>∃G',Bod n1 B G G' W W'/\I xs G' W'
 | .ret,_,W'=>∃G',Bod n1 B G G' W W'/\Ix .ret xs G' W'
 | .exit id,_,W'=>∃G',Bod n1 B G G' W W'/\Ix (.exit id) xs G' W'
 | .goto t,_,W'=>∃G',Bod n1 B G G' W W'/\Ix (.goto t) xs G' W'
 | .panic _,_,_=>False
 | .outgrown,_,_=>False
theorem kq{n1 B:Nat}{G:Nat->Prop}{A:qgt}{l:Nat}(o:Obj)(h1:n1<=l)(h2:¬ G l):Stp n1 B G A (A.putObj l o) :=
 have hg:=qko A l o
 ⟨hg.os,hg.tape,hg.output,hg.size,λk hk hc=>hg.block k hk (by
  intro e;cases e;rcases hc with h | h
  ·omega
  ·exact h2 h)⟩
theorem vh{Y:Type}{g:qhF}{ps:Array Tmp}{assign body:qj9}{Q:Exit->Act->qgt->Prop}{a:Act}{w:qgt}(hro:F.round=none)(h1:1<=n){gf:Nat}{lb:Array qgx}(hg:a.eval g=.func (.func gf) #[] lb)(l8:F.fn gf)(eg:∀args w,(callFunc gf args).run P w=.ok (.enter gf args) w){d5:Y->Array qgx}{Xp:Y->qgt->Prop}{S Sp:List Y->Prop}{B:Nat}{w0:qgt}(g6:qgf F (n - 1) P gf lb d5 Xp S Sp B w0)(h9:Below w0.heap.size w0 w)(hps:∀x,(d5 x).size=ps.size){G0:Nat->Prop}(hB:¬ G0 B)(m3:B<w.heap.size)(hX:∀x A l o o',A.heap[l]?=some o->o.isCells=false->Xp x A->Xp x (A.putObj l o'))(I:List Y->(Nat->Prop)->qgt->Prop)(Ix:qj9->List Y->(Nat->Prop)->qgt->Prop)(d9:∀s G A,I s G A->∀k,G k->k<A.heap.size)(hI:∀s G A C,I s G A->Stp w.heap.size B G A C->I s G C)(e5:∀c s G A C,Ix c s G A->Stp w.heap.size B G A C->Ix c s G C)(h0:I [] G0 w)(a₁:Y->Act)(e4:∀(l:Nat) (x:Y) (W:qgt) (K:Act->qgt->Prop),K (a₁ x) W ->assign.wpIn (F.inRound l) (n - 1 - 1) P (Exit.then K (λ_ _ _=>False)) { tmps:=(ps.zip (d5 x)).foldl (λt (p,v)=>t.setIfInBounds p v) a.tmps,defers:=[] } W)(hbody:∀(l:Nat) (pre:List Y) (G:Nat->Prop) (x:Y) (W:qgt),I pre G W->Xp x W->Sp (pre++[x])->body.wpIn (F.inRound l) (n - 1 - 1) P (qfw w.heap.size B G I Ix (pre++[x]) W) (a₁ x) W)(hdone:∀(D:Nat) (xs:List Y) (G:Nat->Prop) (W:qgt),w.heap.size<=D->S xs->I xs G W->W.heap[D]?=some (.deferred (some []))->¬ G D->Q .normal { a with defers:={ target:=.collected D,args:=#[] }::a.defers } W)(hstop:∀(D:Nat) (c:qj9) (pre:List Y) (G:Nat->Prop) (W:qgt),w.heap.size<=D->Sp pre->Ix c pre G W->W.heap[D]?=some (.deferred (some []))->¬ G D->c.wpIn F n P Q { a with defers:={ target:=.collected D,args:=#[] }::a.defers } W) :(Code.rangeFunc g ps assign body).wpIn F n P Q a w:=by
 refine wpIn_rangeFunc ?_;intro fn hfn;rw[hro];obtain⟨a6,a7⟩:∃a6:LoopState->Option qj9->Loop,a6=λst pe=>{ state:=st,pending:=pe,fn,tmps:=a.tmps,params:=ps,assign,body,defers:=w.heap.size }:=⟨_,rfl⟩;obtain⟨W1,d8⟩:∃W1,(w.alloc (.deferred (some []))).alloc (.loop (a6 .ready none))=W1:=⟨_,rfl⟩;have hL1:W1.heap[w.heap.size+1]?=some (.loop (a6 .ready none)):=by
  rw[<- d8];have:=qpb (w.alloc (.deferred (some []))) (.loop (a6 .ready none));rwa [qgF] at this
 have l6:W1.heap[w.heap.size]?=some (.deferred (some [])):=by
  rw[<- d8];exact(Below.heap_alloc _ _ _ (by simp)).trans (qpb w _)
 have l9:W1.heap.size=w.heap.size+2:=by rw[<- d8];simp
 have g5:Stp w.heap.size B G0 w W1:=by
  have h:=(qgs w (.deferred (some [])) none).trans (qgs _ (.loop (a6 .ready none)) none);rw[d8] at h;exact⟨h.os,h.tape,h.output,h.size,λk hk _=>h.block k hk (by simp)⟩
 have l7:I [] G0 W1:=hI _ _ _ _ h0 g5;have k8:¬ G0 w.heap.size:=λh=>by have:=d9 _ _ _ h0 _ h;omega
 have k7:¬ G0 (w.heap.size+1):=λh=>by have:=d9 _ _ _ h0 _ h;omega
 have hb1:Below w0.heap.size w0 W1:=by
  rw[<- d8];exact h9.trans ((((qn0 _ w).alloc (qgw _) _).alloc (by simp) _).mono h9.size)
 refine⟨w.heap.size+1,[{ target:=.collected w.heap.size,args:=#[] }],W1,{ target:=.fn (.func gf) lb,args:=#[.func (.yield (w.heap.size+1)) #[] #[]] },W1,gf,
  #[.func (.yield (w.heap.size+1)) #[] #[]]++lb,W1,?_,?_,?_,?_,λ_=>h1,?_⟩
 ·rw[<- d8,a7];exact run_enterLoop_outer _ _ _ _ _
 ·simp only[resolve,hg];simp[go_sem]
 ·intro f' h8;simp[Target.leads] at h8;subst h8;exact l8
 ·simp[invoke,go_sem,eg]
 ·have b0:∀(G:Nat->Prop) (A C:qgt),Stp W1.heap.size B G A C->w.heap.size+2<=A.heap.size->C.heap[w.heap.size+1]?=A.heap[w.heap.size+1]?/\C.heap[w.heap.size]?=A.heap[w.heap.size]?:=λG A C h hA=>
   ⟨h.keep _ (by omega) (.inl ⟨by omega,by omega⟩),h.keep _ (by omega) (.inl ⟨by omega,by omega⟩)⟩
  refine(g6 (w.heap.size+1)
   (λpre G W=>(I pre G W/\w.heap.size+2<=W.heap.size/\¬ G w.heap.size/\¬ G (w.heap.size+1))/\W.heap[w.heap.size+1]?=some (.loop (a6 .ready none))/\W.heap[w.heap.size]?=some (.deferred (some [])))
   (λpre G W=>∃c,(Ix c pre G W/\w.heap.size+2<=W.heap.size/\¬ G w.heap.size/\¬ G (w.heap.size+1))/\W.heap[w.heap.size+1]?=some (.loop (a6 .done (some c)))/\W.heap[w.heap.size]?=some (.deferred (some [])))
   G0 W1 hb1 hB (λs G A hs=>d9 s G A hs.1.1)
   (λs G A C hs h=>⟨⟨hI s G A C hs.1.1 (h.mono (by omega)),qgE hs.1.2.1 h.size,hs.1.2.2.1,hs.1.2.2.2⟩,(b0 G A C h hs.1.2.1).1.trans hs.2.1,(b0 G A C h hs.1.2.1).2.trans hs.2.2⟩)
   (λs G A C hs h=>by
    obtain⟨c,hc,hl,hk⟩:=hs;exact⟨c,⟨e5 c s G A C hc.1 (h.mono (by omega)),qgE hc.2.1 h.size,hc.2.2.1,hc.2.2.2⟩,(b0 G A C h hc.2.1).1.trans hl,(b0 G A C h hc.2.1).2.trans hk⟩)
   ?_ ⟨⟨l7,by omega,k8,k7⟩,hL1,l6⟩).mono ?_
  ·-- ONE ROUND
   rintro pre G x W ⟨⟨hi,hsz,d6,b6⟩,hl,hk⟩ hx hsp;have hlt:w.heap.size+1<W.heap.size:=(qgu.1 hl).1;have hy:=run_yield (P:=P) (args:=d5 x) hl (by rw[a7];exact hps x);rw[a7] at hy;refine⟨fn,_,assign,body,hy,roundIn_of_wpIn hfn (e4 _ x W _ ⟨_,run_beginRound hl (by rw[a7]),?_⟩)⟩;obtain⟨Wb,d7⟩:∃Wb,W.putObj (w.heap.size+1) (.loop { a6 .ready none with state:=.busy })=Wb:=⟨_,rfl⟩;have hl2:Wb.heap[w.heap.size+1]?=some (.loop { a6 .ready none with state:=.busy }):=by rw[<- d7];exact qlH hlt
   have l4:Wb.heap[w.heap.size]?=some (.deferred (some [])):=by rw[<- d7];exact(qlz (by omega)).trans hk
   have e6:Stp w.heap.size B G W Wb:=by rw[<- d7];exact kq _ (by omega) b6
   have hgb:W.grownBy Wb (some (w.heap.size+1)):=by rw[<- d7];exact qko _ _ _
   have k6:Xp x Wb:=by rw[<- d7];exact hX x W _ _ _ hl rfl hx
   rw[d7];have e9:w.heap.size+2<=Wb.heap.size:=qgE hsz e6.size;refine wpIn_mono (hbody _ pre G x _ (hI _ _ _ _ hi e6) k6 hsp) ?_;have k5:Bod W1.heap.size B G G W Wb:=⟨hgb.tape,hgb.size,λk hk' hn _=>hgb.block k hk' (by intro e;cases e;rcases hn with h | h<;>omega),λk hk'=>.inl hk'⟩;have fin:∀(jump:Option qj9) (G3:Nat->Prop) (W3:qgt),Bod w.heap.size B G G3 Wb W3 ->
     (qjE (w.heap.size+1) jump).run P W3=.ok (.bool jump.isNone) (W3.putObj (w.heap.size+1) (.loop (a6 (if jump.isNone then .ready else .done) jump))) /\
     (W3.putObj (w.heap.size+1) (.loop (a6 (if jump.isNone then .ready else .done) jump))).heap[w.heap.size+1]?=some (.loop (a6 (if jump.isNone then .ready else .done) jump)) /\
     (W3.putObj (w.heap.size+1) (.loop (a6 (if jump.isNone then .ready else .done) jump))).heap[w.heap.size]?=some (.deferred (some [])) /\
     Stp w.heap.size B G3 W3 (W3.putObj (w.heap.size+1) (.loop (a6 (if jump.isNone then .ready else .done) jump))) /\
     Bod W1.heap.size B G G3 W (W3.putObj (w.heap.size+1) (.loop (a6 (if jump.isNone then .ready else .done) jump))) /\
     w.heap.size+2<=(W3.putObj (w.heap.size+1) (.loop (a6 (if jump.isNone then .ready else .done) jump))).heap.size /\
     ¬ G3 w.heap.size/\¬ G3 (w.heap.size+1):=λjump G3 W3 a8=>by
    have g9:=(a8.keep (w.heap.size+1) (by omega) (.inl (by omega)) b6).trans hl2;have k9:=(a8.keep w.heap.size (by omega) (.inl (by omega)) d6).trans l4;have g8:¬ G3 (w.heap.size+1):=λe=>(a8.fp _ e).elim b6 (by omega);have g7:¬ G3 w.heap.size:=λe=>(a8.fp _ e).elim d6 (by omega);have e7:Stp w.heap.size B G3 W3 (W3.putObj (w.heap.size+1) (.loop (a6 (if jump.isNone then .ready else .done) jump))):=kq _ (by omega) g8;have e8:W3.grownBy (W3.putObj (w.heap.size+1) (.loop (a6 (if jump.isNone then .ready else .done) jump))) (some (w.heap.size+1)):=qko _ _ _;have k0:Bod W1.heap.size B G3 G3 W3 (W3.putObj (w.heap.size+1) (.loop (a6 (if jump.isNone then .ready else .done) jump))):=⟨e8.tape,e8.size,λk hk' hn _=>e8.block k hk' (by intro e;cases e;rcases hn with h | h<;>omega),λk hk'=>.inl hk'⟩;have:=run_endRound (P:=P) jump g9;rw[a7] at this;refine⟨by rw[a7];exact this,qlH (qgu.1 g9).1,(qlz (by omega)).trans k9,e7,(k5.trans (a8.mono (by omega))).trans k0,qgE e9 (qgE a8.size e7.size),g7,g8⟩
   rintro e a3 W3 hp;cases e with
   | normal=>
    obtain⟨G3,a8,b9⟩:=hp;obtain⟨hr,b7,b8,hst,c9,a9,c8,c3⟩:=fin none G3 W3 a8;exact⟨_,_,hr,G3,.inl ⟨rfl,⟨⟨hI _ _ _ _ b9 hst,a9,c8,c3⟩,b7,b8⟩,c9⟩⟩
   | ret=>
    obtain⟨G3,a8,b9⟩:=hp;obtain⟨hr,b7,b8,hst,c9,a9,c8,c3⟩:=fin (some .ret) G3 W3 a8;exact⟨_,_,hr,G3,.inr ⟨rfl,⟨.ret,⟨e5 _ _ _ _ _ b9 hst,a9,c8,c3⟩,b7,b8⟩,c9⟩⟩
   | exit id=>
    obtain⟨G3,a8,b9⟩:=hp;obtain⟨hr,b7,b8,hst,c9,a9,c8,c3⟩:=fin (some (.exit id)) G3 W3 a8;exact⟨_,_,hr,G3,.inr ⟨rfl,⟨.exit id,⟨e5 _ _ _ _ _ b9 hst,a9,c8,c3⟩,b7,b8⟩,c9⟩⟩
   | goto t=>
    obtain⟨G3,a8,b9⟩:=hp;obtain⟨hr,b7,b8,hst,c9,a9,c8,c3⟩:=fin (some (.goto t)) G3 W3 a8;exact⟨_,_,hr,G3,.inr ⟨rfl,⟨.goto t,⟨e5 _ _ _ _ _ b9 hst,a9,c8,c3⟩,b7,b8⟩,c9⟩⟩
   | panic ch=>exact hp.elim
   | outgrown=>exact hp.elim
  ·-- BEHIND THE ITERATOR
   rintro e W2 ⟨⟨v,rfl⟩,(⟨xs,G,hS,⟨hi,hsz,d6,b6⟩,hl,hk⟩ | ⟨pre,G,l5,c,⟨hi,hsz,d6,b6⟩,hl,hk⟩)⟩
   ·refine⟨none,_,by have:=run_endLoop (P:=P) hl (by rw[a7];simp);rw[a7] at this;exact this,hdone _ xs G _ (qgw _) hS (hI _ _ _ _ hi (kq _ (by omega) b6)) ((qlz (by omega)).trans hk) d6⟩
   ·refine⟨some c,_,by have:=run_endLoop (P:=P) hl (by rw[a7];simp);rw[a7] at this;exact this,hstop _ c pre G _ (qgw _) l5 (e5 c _ _ _ _ hi (kq _ (by omega) b6)) ((qlz (by omega)).trans hk) d6⟩
end
end
end Go
namespace Go.Proofs.YtidgnkmjgioapaaGreat
section
open Go.RowKit
theorem qbB:∀m:Fin 32,∀n:Fin 5,m.1.testBit n.1=false->bits .andNot .u8 ((m.1 ||| 2 ^ n.1:Nat):Int) ((2 ^ n.1:Nat):Int)=(m.1:Int):=by decide
theorem q8z{m n:Nat}(hm:m<32)(hn:n<5)(h:m.testBit n=false):bits .andNot .u8 ((m ||| 2 ^ n:Nat):Int) ((2 ^ n:Nat):Int)=(m:Int):=qbB ⟨m,hm⟩ ⟨n,hn⟩ h
def Popped(Bn Bu:Nat)(g:Option qi2)(k cap m:Nat)(w w':qgt):Prop :=
 w'.os=w.os/\w'.tape=w.tape/\w'.output=w.output/\w'.heap=((w.setCell ⟨Bn,0,none⟩ (.slice g k cap)).setCell ⟨Bu,0,none⟩ (.int .u8 m)).heap
theorem qcB(Bn Bu Bx:Nat)(g:Option qi2)(k cap m n:Nat)(w:qgt)(a7:n<5)(hm:m<32)(hb:m.testBit n=false)(hk:k<1000000)(b7:k+1<=cap)(hne:Bn≠Bu)(a9:Bn≠Bx)(h1:w.heap[Bn]?=some (.cells #[.slice g (k+1) cap] 29 (0,0)))(h2:w.heap[Bu]?=some (.cells #[.int .u8 (m ||| 2 ^ n:Nat)] 130 (0,0)))(h3:w.heap[Bx]?=some (.cells #[.int .i64 n] 3 (0,0)))(u:FrameMode) :CallsD Ya 152 #[.pointer (some ⟨Bn,0,none⟩),.pointer (some ⟨Bu,0,none⟩),.pointer (some ⟨Bx,0,none⟩)] u w λe u' w'=>u'=u/\e=.returned (.tuple #[]) /\Popped Bn Bu g k cap m w w':=by
 have c1:w.cell? ⟨Bn,0,none⟩=some (.slice g (k+1) cap):=q9 (o:=0) h1 rfl;have c2:w.cell? ⟨Bu,0,none⟩=some (.int .u8 (m ||| 2 ^ n:Nat)):=q9 (o:=0) h2 rfl;have c3:w.cell? ⟨Bx,0,none⟩=some (.int .i64 n):=q9 (o:=0) h3 rfl;have z1:=qq (o:=0) h1;have z2:=qq (o:=0) h2;have a8:=q8z hm a7 hb;have b8:IntKind.i64.wrap ((k:Int)+1 - 1)=(k:Int):=by rw[show(k:Int)+1 - 1=k by omega];exact qhm _ (by omega)
 have b0:IntKind.i64.wrap (k:Int)=(k:Int):=qhm _ (by omega);have b9:(k:Int)<=(cap:Int):=by omega
 have b6:Bu≠Bn:=λe=>hne e.symm;clear h1 h2 h3;refine callsD_of_wp (R:=λe w'=>e=.returned (.tuple #[])/\Popped Bn Bu g k cap m w w') Tp.x152 rfl ?_;simp only[Tryz.ntmps152,qhk,qh1,qh7,qhj,qir,qhr,qhs,qi1,qke,qhn,qha];generalize hM:((m ||| 2 ^ n:Nat):Int)=M at c2 a8;generalize hN:((2 ^ n:Nat):Int)=N2 at a8;have HN:=qgr hN;have HM:=qgr hM;clear hN hM;have hk:∀(W:qgt) (x:qgx),(W.cell? ⟨Bu,0,none⟩=some (.int .u8 M)/\W.cell? ⟨Bx,0,none⟩=some (.int .i64 n))->((W.setCell ⟨Bn,0,none⟩ x).cell? ⟨Bu,0,none⟩=some (.int .u8 M)/\(W.setCell ⟨Bn,0,none⟩ x).cell? ⟨Bx,0,none⟩=some (.int .i64 n)):=λW x h=>
  ⟨by rw[qiB _ _ _ _ (λe=>hne (congrArg qoa e))];exact h.1,by rw[qiB _ _ _ _ (λe=>a9 (congrArg qoa e))];exact h.2⟩
 have HK:=qgr hk;clear hk;go_wp2_with (fail);refine qU 10 (λw'=>w'.cell? ⟨Bu,0,none⟩=some (.int .u8 M)/\w'.cell? ⟨Bx,0,none⟩=some (.int .i64 n)) (by kernel_rfl) (by kernel_rfl) ⟨c2,c3⟩ (λa6=>?_);simp only[qh1,qh7,qhj,qir,qhd,qhr,qhs,qi1,qhn,qha];refine tk 5 (h:=tk 6 (h:=?_));try go_frame
 refine rdy [0,1,7] ?_;refine cns 0 (λK hK=>?_) ?_
 ·skip;go_simp;refine hK.out _ _ (by first | exact a6 | exact HK.out _ _ a6) (λa6=>?_);clear hK K;try go_frame
  refine rdy [1,7] ?_;refine cns 1 (λK hK=>?_) ?_
  ·skip;go_simp;refine hK.out _ _ (by first | exact a6 | exact HK.out _ _ a6) (λa6=>?_);clear hK K;try go_frame
   refine tk 2 (h:=tk 3 (h:=tk 4 (h:=?_)));try go_frame
   refine rdy [7] ?_;refine cns 7 (λK hK=>?_) ?_
   ·skip;go_simp;go_at_call 153;refine(xy n _ a7).mono ?_;rintro e w2 ⟨rfl,rfl⟩;rw[HN.out];refine hK.out _ _ (by first | exact a6 | exact HK.out _ _ a6) (λa6=>?_);clear hK K;try go_frame
    refine tk 8 (h:=?_);try go_frame
    refine rdy [9] ?_;refine cns 9 (λK hK=>?_) ?_
    ·skip;go_simp;refine hK.out _ _ (by first | exact a6 | exact HK.out _ _ a6) (λa6=>?_);clear hK K;try go_frame
     refine⟨by kernel_rfl,?_⟩;simp only[qhA,qio];go_wp2;go_end0;exact⟨rfl,rfl,rfl,rfl,rfl⟩
    exact qp.nil
   exact qp.nil
  refine cns 7 (λK hK=>?_) ?_
  ·skip;go_simp;go_at_call 153;refine(xy n _ a7).mono ?_;rintro e w2 ⟨rfl,rfl⟩;rw[HN.out];refine hK.out _ _ (by first | exact a6 | exact HK.out _ _ a6) (λa6=>?_);clear hK K;try go_frame
   refine tk 8 (h:=?_);try go_frame
   refine rdy [1] ?_;refine cns 1 (λK hK=>?_) ?_
   ·skip;go_simp;refine hK.out _ _ (by first | exact a6 | exact HK.out _ _ a6) (λa6=>?_);clear hK K;try go_frame
    refine tk 2 (h:=tk 3 (h:=tk 4 (h:=?_)));try go_frame
    refine rdy [9] ?_;refine cns 9 (λK hK=>?_) ?_
    ·skip;go_simp;refine hK.out _ _ (by first | exact a6 | exact HK.out _ _ a6) (λa6=>?_);clear hK K;try go_frame
     refine⟨by kernel_rfl,?_⟩;simp only[qhA,qio];go_wp2;go_end0;exact⟨rfl,rfl,rfl,rfl,rfl⟩
    exact qp.nil
   exact qp.nil
  exact qp.nil
 refine cns 1 (λK hK=>?_) ?_
 ·skip;go_simp;refine hK.out _ _ (by first | exact a6 | exact HK.out _ _ a6) (λa6=>?_);clear hK K;try go_frame
  refine tk 2 (h:=tk 3 (h:=?_));try go_frame
  refine rdy [0,7] ?_;refine cns 0 (λK hK=>?_) ?_
  ·skip;go_simp;refine hK.out _ _ (by first | exact a6 | exact HK.out _ _ a6) (λa6=>?_);clear hK K;try go_frame
   refine tk 4 (h:=?_);try go_frame
   refine rdy [7] ?_;refine cns 7 (λK hK=>?_) ?_
   ·skip;go_simp;go_at_call 153;refine(xy n _ a7).mono ?_;rintro e w2 ⟨rfl,rfl⟩;rw[HN.out];refine hK.out _ _ (by first | exact a6 | exact HK.out _ _ a6) (λa6=>?_);clear hK K;try go_frame
    refine tk 8 (h:=?_);try go_frame
    refine rdy [9] ?_;refine cns 9 (λK hK=>?_) ?_
    ·skip;go_simp;refine hK.out _ _ (by first | exact a6 | exact HK.out _ _ a6) (λa6=>?_);clear hK K;try go_frame
     refine⟨by kernel_rfl,?_⟩;simp only[qhA,qio];go_wp2;go_end0;exact⟨rfl,rfl,rfl,rfl,rfl⟩
    exact qp.nil
   exact qp.nil
  refine cns 7 (λK hK=>?_) ?_
  ·skip;go_simp;go_at_call 153;refine(xy n _ a7).mono ?_;rintro e w2 ⟨rfl,rfl⟩;rw[HN.out];refine hK.out _ _ (by first | exact a6 | exact HK.out _ _ a6) (λa6=>?_);clear hK K;try go_frame
   refine tk 8 (h:=?_);try go_frame
   refine rdy [0] ?_;refine cns 0 (λK hK=>?_) ?_
   ·skip;go_simp;refine hK.out _ _ (by first | exact a6 | exact HK.out _ _ a6) (λa6=>?_);clear hK K;try go_frame
    refine tk 4 (h:=?_);try go_frame
    refine rdy [9] ?_;refine cns 9 (λK hK=>?_) ?_
    ·skip;go_simp;refine hK.out _ _ (by first | exact a6 | exact HK.out _ _ a6) (λa6=>?_);clear hK K;try go_frame
     refine⟨by kernel_rfl,?_⟩;simp only[qhA,qio];go_wp2;go_end0;exact⟨rfl,rfl,rfl,rfl,rfl⟩
    exact qp.nil
   exact qp.nil
  exact qp.nil
 refine cns 7 (λK hK=>?_) ?_
 ·skip;go_simp;go_at_call 153;refine(xy n _ a7).mono ?_;rintro e w2 ⟨rfl,rfl⟩;rw[HN.out];refine hK.out _ _ (by first | exact a6 | exact HK.out _ _ a6) (λa6=>?_);clear hK K;try go_frame
  refine tk 8 (h:=?_);try go_frame
  refine rdy [0,1] ?_;refine cns 0 (λK hK=>?_) ?_
  ·skip;go_simp;refine hK.out _ _ (by first | exact a6 | exact HK.out _ _ a6) (λa6=>?_);clear hK K;try go_frame
   refine rdy [1] ?_;refine cns 1 (λK hK=>?_) ?_
   ·skip;go_simp;refine hK.out _ _ (by first | exact a6 | exact HK.out _ _ a6) (λa6=>?_);clear hK K;try go_frame
    refine tk 2 (h:=tk 3 (h:=tk 4 (h:=?_)));try go_frame
    refine rdy [9] ?_;refine cns 9 (λK hK=>?_) ?_
    ·skip;go_simp;refine hK.out _ _ (by first | exact a6 | exact HK.out _ _ a6) (λa6=>?_);clear hK K;try go_frame
     refine⟨by kernel_rfl,?_⟩;simp only[qhA,qio];go_wp2;go_end0;exact⟨rfl,rfl,rfl,rfl,rfl⟩
    exact qp.nil
   exact qp.nil
  refine cns 1 (λK hK=>?_) ?_
  ·skip;go_simp;refine hK.out _ _ (by first | exact a6 | exact HK.out _ _ a6) (λa6=>?_);clear hK K;try go_frame
   refine tk 2 (h:=tk 3 (h:=?_));try go_frame
   refine rdy [0] ?_;refine cns 0 (λK hK=>?_) ?_
   ·skip;go_simp;refine hK.out _ _ (by first | exact a6 | exact HK.out _ _ a6) (λa6=>?_);clear hK K;try go_frame
    refine tk 4 (h:=?_);try go_frame
    refine rdy [9] ?_;refine cns 9 (λK hK=>?_) ?_
    ·skip;go_simp;refine hK.out _ _ (by first | exact a6 | exact HK.out _ _ a6) (λa6=>?_);clear hK K;try go_frame
     refine⟨by kernel_rfl,?_⟩;simp only[qhA,qio];go_wp2;go_end0;exact⟨rfl,rfl,rfl,rfl,rfl⟩
    exact qp.nil
   exact qp.nil
  exact qp.nil
 exact qp.nil
def RowsIn(lo hi:Nat)(w:qgt)(v:qgx)(L:List (List Int)):Prop :=
 ∃base cap,v=.slice base L.length cap/\(L.length:Int)<=1000000 /\
  (L≠[]->∃B o cs fr,base=some ⟨B,o,none⟩/\lo<=B/\B<hi/\w.heap[B]?=some (.cells cs 29 fr) /\
   ∀i,i<L.length->∃l x,L[i]?=some l/\cs[o+i]?=some x/\qe lo hi w x l)
theorem RowsIn.kept{lo hi:Nat}{w w':qgt}{v:qgx}{L:List (List Int)}{row:Option Nat}(h:RowsIn lo hi w v L)(hg:w.grownBy w' row)(hr:∀R,row=some R->R<lo\/hi<=R):RowsIn lo hi w' v L:=by
 obtain⟨base,cap,rfl,hl,hr'⟩:=h;refine⟨base,cap,rfl,hl,λhne=>?_⟩;obtain⟨B,o,cs,fr,e1,e2,e3,e4,e5⟩:=hr' hne;refine⟨B,o,cs,fr,e1,e2,e3,blk hg (λe=>by have:=hr B e.symm;omega) e4,λi hi=>?_⟩;obtain⟨l,x,h1,h2,h3⟩:=e5 i hi;exact⟨l,x,h1,h2,h3.kept hg hr⟩
theorem RowsIn.mono{lo hi lo' a6:Nat}{w:qgt}{v:qgx}{L:List (List Int)}(h:RowsIn lo hi w v L)(h1:lo'<=lo)(h2:hi<=a6):RowsIn lo' a6 w v L:=by
 obtain⟨base,cap,rfl,hl,hr⟩:=h;refine⟨base,cap,rfl,hl,λhne=>?_⟩;obtain⟨B,o,cs,fr,e1,e2,e3,e4,e5⟩:=hr hne;refine⟨B,o,cs,fr,e1,by omega,by omega,e4,λi hi=>?_⟩;obtain⟨l,x,h3,h4,h5⟩:=e5 i hi;exact⟨l,x,h3,h4,h5.mono h1 h2⟩
theorem RowsIn.cell{lo hi:Nat}{w:qgt}{v:qgx}{L:List (List Int)}(h:RowsIn lo hi w v L):∃base cap,v=.slice base L.length cap/\(L.length:Int)<=1000000 /\(L≠[]->∃B o,base=some ⟨B,o,none⟩/\lo<=B/\B<hi/\B<w.heap.size/\∀i,i<L.length->∃l x,L[i]?=some l/\w.cell? ⟨B,o+i,none⟩=some x/\qe lo hi w x l):=by
 obtain⟨base,cap,rfl,hl,hr'⟩:=h;refine⟨base,cap,rfl,hl,λhne=>?_⟩;obtain⟨B,o,cs,fr,e1,e2,e3,e4,e5⟩:=hr' hne;refine⟨B,o,e1,e2,e3,(qgu.1 e4).1,λi hi=>?_⟩;obtain⟨l,x,h1,h2,h3⟩:=e5 i hi;exact⟨l,x,h1,by simp[qhu,e4,h2],h3⟩
theorem q1w(la ha lb hb:Nat)(va vb:qgx)(a b:List (List Int))(w:qgt)(hA:RowsIn la ha w va a)(hB:RowsIn lb hb w vb b) :qhx Ya 65 #[va,vb] w λe w'=>e=.returned (.bool (decide (a=b)))/\w.grownBy w' none:=by
 obtain⟨ba,ca,rfl,c9,h1⟩:=hA.cell;obtain⟨bb,cb,rfl,hl2,h2⟩:=hB.cell;have H1:=qgr h1;have H2:=qgr h2;clear h1 h2 hA hB;by_cases a6:a.length=b.length
 ·have HL:=qgr a6;have a9:((a.length:Int) != (b.length:Int))=false:=by rw[a6];simp
  clear a6;go_enter Tp.x65,Tryz.ntmps65;go_wp2;go_loopw [5] (λiv wr=>∃k:Nat,iv=.int .i64 k/\k<=a.length/\(∀i,i<k->a[i]?=b[i]?)/\w.grownBy wr none) (λiv _=>(a.length - qia iv).toNat)
  case atStart=>exact⟨0,rfl,by omega,λi hi=>absurd hi (by omega),qh6 _ _⟩
  case round=>
   obtain⟨k,rfl,hk,hok,hG⟩:=hrel;have c3:=qgr hok;have HG:=qgr hG;clear hok;by_cases hlt:k<a.length
   ·have a8:k<b.length:=by have:=HL.out;omega
    obtain⟨A1,o1,rfl,e6,e5,e4,b9⟩:=H1.out (by intro e;rw[e] at hlt;simp at hlt);obtain⟨B1,o2,rfl,d9,d8,d7,b8⟩:=H2.out (by intro e;rw[e] at a8;simp at a8);obtain⟨p,x,e1,b7,hx⟩:=b9 k hlt;obtain⟨q,y,e2,b6,hy⟩:=b8 k a8;have x1:=hG.cell b7 (by simp);have y1:=hG.cell b6 (by simp);have d5:(k:Int)<(b.length:Int):=by omega
    have d6:(k:Int)<(a.length:Int):=by omega
    have E1:=qgr e1;have E2:=qgr e2;have HX:=qgr (hx.kept hG (by simp));have HY:=qgr (hy.kept hG (by simp));obtain⟨xb,xc,rfl,-,-⟩:=hx.cell;obtain⟨yb,yc,rfl,-,-⟩:=hy.cell;have SC:=qgr (qhb x1 y1);clear b9 b8 hG e1 e2 b7 b6 hx hy;go_upto_region 6 with(fail);go_region_held3 (λw'=>w'.cell? ⟨A1,o1+k,none⟩=some (.slice xb p.length xc)/\w'.cell? ⟨B1,o2+k,none⟩=some (.slice yb q.length yc))
     (first | exact SC.out)
     (first
      | (go_at_call 31;refine(zW _ _ _ _ _ _ p q _ (by first | exact HX.out | exact HX.out.kept (qg _ none) (by simp)) (by first | exact HY.out | exact HY.out.kept (qg _ none) (by simp))).mono ?_;rintro e w5 ⟨rfl,hg⟩;have HT:=qgr (show wr.grownBy w5 none by first | exact hg | exact(qg _ _).trans hg);replace SC:=qgr (qhb (HT.out.cell SC.out.1 (by simp)) (HT.out.cell SC.out.2 (by simp)));clear hg))
    all_goals
     rename_i b0
     clear b0
    all_goals
     by_cases a7:p=q
     ·have hd:decide (p=q)=true:=by simpa using a7
      have c8:=qgr a7;clear a7;rw[hd];clear hd;go_wp2;go_roundw
      case rel=>
       refine⟨k+1,by simp,by omega,λi hi=>?_,HG.out.trans HT.out⟩;by_cases e:i=k
       ·rw[e,E1.out,E2.out,c8.out]
       ·exact c3.out i (by omega)
      case measure=>simp[qia];omega
     ·have hd:decide (p=q)=false:=by simpa using a7
      have HR:=qgr (show decide (a=b)=false by
       rw[decide_eq_false_iff_not];intro e;have h1:=E1.out;rw[e,E2.out] at h1;exact a7 (by cases h1;rfl))
      clear a7;rw[hd];clear hd;go_wp2;go_ret;exact⟨by rw[HR.out];rfl,HG.out.trans HT.out⟩
   ·obtain rfl:k=a.length:=by omega
    have HR:=qgr (show decide (a=b)=true by
     rw[decide_eq_true_eq];refine qlm λi=>?_;by_cases hi:i<a.length
     ·exact c3.out i hi
     ·rw[qi5 (by omega),qi5 (by have:=HL.out;omega)])
    clear hG;go_wp2;go_ret;exact⟨by rw[HR.out];rfl,HG.out⟩
 ·have HR:=qgr (show decide (a=b)=false by
   rw[decide_eq_false_iff_not];intro e;exact a6 (by rw[e]))
  have a9:((a.length:Int) != (b.length:Int))=true:=by simp;omega
  clear a6;go_enter Tp.x65,Tryz.ntmps65;go_wp2;go_ret;exact⟨by rw[HR.out];rfl,qh6 _ _⟩
end
end Go.Proofs.YtidgnkmjgioapaaGreat
namespace Go
section
section
variable{l m:Nat}{P:qgG}{md:qku}{ops:Array qiu}{Q:Exit->Act->qgt->Prop}
theorem Oper.wpIn_of_wp{o:qiu}{a:Act}{w:qgt}{K:Act->qgt->Prop}(hd:∀c,o.op≠.defer c)(h:o.wp P a w K Q):o.wpIn (Fence.wide.inRound l) m P a w K Q:=by
 refine⟨λf _=>trivial,?_⟩;rw[show o.semAt (Fence.wide.inRound l).round a.eval=qk5 a.eval o from Oper.semAt_some l _ _ hd];unfold Oper.wp at h;generalize (qk5 a.eval o).run P w=r at h ⊢;cases r with
 | ok x w'=>
  cases x with
  | enter f args=>exact⟨(λe=>(by cases e)),CallsIn.inRound l (qjt.2 h)⟩
  | row r args=>
   refine⟨(λe=>(by cases e)),λc cs _=>?_⟩;obtain⟨v,w2,h1,h2⟩:=h c cs;exact⟨v,w2,h1,stepsIn_wide.2 h2⟩
  | value v=>exact h
  | skip=>exact h
  | defer d=>exact h
  | _=>exact h.elim
 | halt x w'=>cases x<;>first | exact h | exact h.elim
theorem JX(a6:¬ LetsOut Q)(hd:∀(i:Nat) (o:qiu),ops[i]?=some o->∀c,o.op≠.defer c){i:Nat}{K:Act->qgt->Prop}{a:Act}{w:qgt}(h:wpOp P ops Q i K a w):wpOpIn (Fence.wide.inRound l) m P ops Q i K a w:=by
 unfold wpOp at h;unfold wpOpIn;cases ho:ops[i]? with
 | none=>rw[ho] at h;exact h
 | some o=>
  rw[ho] at h;dsimp only at h ⊢;split
  ·rename_i hw
   rw[if_pos hw] at h;rcases h with h | h
   ·exact Oper.wpIn_of_wp (hd i o ho) h
   ·exact absurd h.2 a6
  ·rename_i hw
   rw[if_neg hw] at h;exact⟨λf _=>trivial,h⟩
theorem vj(a6:¬ LetsOut Q)(hd:∀(i:Nat) (o:qiu),ops[i]?=some o->∀c,o.op≠.defer c):∀(f:Nat) (listed:Array Bool) (a:Act) (w:qgt),wpAny P md ops Q f listed a w->wpAnyIn (Fence.wide.inRound l) m P md ops Q f listed a w
 | 0,listed,a,w,h=>h
 | f+1,listed,a,w,h=>⟨h.1,λi hi=>JX a6 hd (wpOp_mono (λa' w' h'=>vj a6 hd f _ a' w' h') (h.2 i hi))⟩
def q6w(ops:List qiu):Bool:=ops.all λo=>match o.op with | .defer _=>false | _=>true
theorem q1u{ops:List qiu}(h:q6w ops=true)(i:Nat)(o:qiu)(ho:ops.toArray[i]?=some o):∀c,o.op≠.defer c:=by
 intro c;have:=qhE.1 h o (by rw[qnf] at ho;exact qhc ho);intro e;rw[e] at this;cases this
theorem Kr{id:Nat}{a:Act}{w:qgt}{os:List qiu}(a6:¬ LetsOut Q)(hd:q6w os=true)(n:Nat)(S:qgt->Prop)(hm:P.follows .mixedOrders=true)(hn:decide (n<=os.length)=true)(hS:S w.drew)(h:S w.drew->jc P .any os.toArray Q S n (λlisted a w=>qlB .any os.toArray (os.length - n) n listed=true/\qol P os.toArray Q (os.drop n) a w) n (qhC os.length false) a w.drew) :(Code.region id os.toArray true).wpIn (Fence.wide.inRound l) m P Q a w:=by
 have a7:n<=os.length:=by simpa using hn
 refine wpIn_region_any hm ?_;refine vj a6 (q1u hd) _ _ _ _ ?_;have:=jS (g:=os.length - n) (λlisted a w hL=>by
  have:=qq7 (md:=.any) (Q':=Q) (ops:=os.toArray) (os.drop n) n listed a w (λj=>by simp[qlE]) (by rw[ql8];exact hL.1) hL.2
  rwa [ql8] at this) _ _ _ _ (h hS)
 rw[show n+(os.length - n)=os.toArray.size by simp;omega] at this;simpa using this
end
end
end Go
namespace Go.Proofs.YtidgnkmjgioapaaGreat
section
open Go Go.Conc.Lib
abbrev link:Go.Conc.Lib.WgLink:={ add:=138,done:=140,wait:=144,relMerge:=166,disable:=167,enable:=168,inBubble:=169,associate:=170,fatal:=171,uOr:=172,uAdd:=173,raceRead:=174,uLoad:=175,uStore:=176,disassociate:=177,semrelease:=178,acquire:=183,isAssociated:=184,uCas:=185,raceWrite:=186,semacquire:=187,orU64:=201,addU64:=202,loadU64:=203,storeU64:=204,casU64:=205,tWgP:=184,tUP:=186,tAssoc:=187,tWg:=166,tAU:=164,tU64:=87,tUint:=177,tU32:=159,tPU32:=191,tPAU:=217,tPU64:=219,tNoCopy:=162,tANoCopy:=155,tAlign64:=156 }
theorem JZ:Go.Conc.Lib.WgLib qh3 link :=
 ⟨Tryz.func138,Tryz.func140,Tryz.func144,Tryz.func166,Tryz.func167,Tryz.func168,Tryz.func169,Tryz.func170,Tryz.func171,Tryz.func172,Tryz.func173,Tryz.func174,Tryz.func175,Tryz.func176,Tryz.func177,Tryz.func178,Tryz.func183,Tryz.func184,Tryz.func185,Tryz.func186,Tryz.func187,Tryz.func201,Tryz.func202,Tryz.func203,Tryz.func204,Tryz.func205,Tryz.underlying184,Tryz.runUnderlying184,Tryz.sizeOf184,Tryz.isAgg184,Tryz.zeroValue184,Tryz.underlying186,Tryz.runUnderlying186,Tryz.sizeOf186,Tryz.isAgg186,Tryz.zeroValue186,Tryz.underlying187,Tryz.runUnderlying187,Tryz.sizeOf187,Tryz.isAgg187,Tryz.zeroValue187,Tryz.underlying166,Tryz.runUnderlying166,Tryz.sizeOf166,Tryz.isAgg166,Tryz.zeroValue166,Tryz.underlying164,Tryz.runUnderlying164,Tryz.sizeOf164,Tryz.isAgg164,Tryz.zeroValue164,Tryz.underlying87,Tryz.runUnderlying87,Tryz.sizeOf87,Tryz.isAgg87,Tryz.zeroValue87,Tryz.underlying177,Tryz.runUnderlying177,Tryz.sizeOf177,Tryz.isAgg177,Tryz.zeroValue177,Tryz.underlying159,Tryz.runUnderlying159,Tryz.sizeOf159,Tryz.isAgg159,Tryz.zeroValue159,Tryz.underlying191,Tryz.runUnderlying191,Tryz.sizeOf191,Tryz.isAgg191,Tryz.zeroValue191,Tryz.underlying217,Tryz.runUnderlying217,Tryz.sizeOf217,Tryz.isAgg217,Tryz.zeroValue217,Tryz.underlying219,Tryz.runUnderlying219,Tryz.sizeOf219,Tryz.isAgg219,Tryz.zeroValue219,Tryz.underlying0,Tryz.runUnderlying0,Tryz.sizeOf0,Tryz.isAgg0,Tryz.zeroValue0,Tryz.underlying3,Tryz.runUnderlying3,Tryz.sizeOf3,Tryz.isAgg3,Tryz.zeroValue3,Tryz.underlying4,Tryz.runUnderlying4,Tryz.sizeOf4,Tryz.isAgg4,Tryz.zeroValue4,Tryz.underlying9,Tryz.runUnderlying9,Tryz.sizeOf9,Tryz.isAgg9,Tryz.zeroValue9,Tryz.underlying20,Tryz.runUnderlying20,Tryz.sizeOf20,Tryz.isAgg20,Tryz.zeroValue20,Tryz.underlying21,Tryz.runUnderlying21,Tryz.sizeOf21,Tryz.isAgg21,Tryz.zeroValue21,(by kernel_rfl),(by kernel_rfl)⟩
end
section
open Go.RowKit
theorem YOk.be{ps:List Par}{lim:Int}(h:YOk ps lim):∀p∈ps,0<=p.bears/\p.bears<=1000:=λp hp=>by
 have:=h.each p hp;omega
theorem q0w{w:qgt}{R Y o:Nat}{u v x:qgx}(hne:Y≠R)(h:w.cell? ⟨Y,o,none⟩=some x):((w.setCell ⟨R,0,none⟩ u).setCell ⟨R,1,none⟩ v).cell? ⟨Y,o,none⟩=some x:=by
 rw[qiB _ _ _ _ (λe=>hne (congrArg qoa e).symm),qiB _ _ _ _ (λe=>hne (congrArg qoa e).symm)];exact h
def QZ(ps:List Par)(l:List Int):qgx :=
 if zU ps (pre Par.mn ps ps.length) l l.length<0\/l.length=0 then .tuple #[.agg #[.int .i64 0,.int .i64 0],.int .i64 11]
 else .tuple #[.agg #[.int .i64 (max (-1) (zU ps (pre Par.mx ps ps.length) l l.length)),.int .i64 (zU ps (pre Par.mn ps ps.length) l l.length)],.int .i64 0]
theorem q7x(lo hi:Nat)(pv qv:qgx)(ps:List Par)(lim:Int)(l:List Int)(w:qgt)(hP:qw lo hi w pv ps)(hI:qe lo hi w qv l)(hhi:hi<=w.heap.size)(hok:YOk ps lim)(hp:POk ps lim l) :qhx Ya 36 #[.agg #[pv,.int .i64 lim],qv] w λe w'=>e=.returned (QZ ps l)/\w.grownBy w' none:=by
 obtain⟨yb,yc,rfl,m8,-⟩:=hP.cell;obtain⟨base,cap,rfl,m9,-⟩:=hI.cell;obtain⟨A,hA⟩:∃A,A=w.heap.size:=⟨_,rfl⟩;obtain⟨w1,a8⟩:∃w1,w1=(w.alloc (.cells #[.slice yb ps.length yc,.int .i64 lim] 24)).alloc (.cells #[.int .i64 0,.int .i64 0] 26):=⟨_,rfl⟩;have c8:w.grownBy w1 none:=by rw[a8];exact(qgs _ _ none).trans (qgs _ _ none)
 have e5:w1.heap[A]?=some (.cells #[.slice yb ps.length yc,.int .i64 lim] 24 (0,0)):=by rw[a8,hA];exact qr (qgC w _)
 have g7:w1.heap[A+1]?=some (.cells #[.int .i64 0,.int .i64 0] 26 (0,0)):=by
  rw[a8];have:=qgC (w.alloc (.cells #[.slice yb ps.length yc,.int .i64 lim] 24)) (.cells #[.int .i64 0,.int .i64 0] 26);rw[qgF,<- hA] at this;exact this
 have l6:w1.heap.size=A+2:=by rw[a8,qgF,qgF,hA]
 have k0:=qgr (hI.kept c8 (by simp));have h8:=qgr (hP.kept c8 (by simp));have l8:=qgr a8;have HA:=qgr hA;have m7:=qgr c8;have m4:=qgr g7;have q0:=q9 e5 (o:=0) rfl;have q1:=q9 e5 (o:=1) rfl;have n2:hi<=A:=by omega
 have HY:=qgr hok;have b8:=qgr hp;clear hP hI hok hp a8 hA c8 e5 g7;go_enter Tp.x36,Tryz.ntmps36;go_upto_region 1 with(fail);rw[<- HA.out,show(w.alloc (.cells #[.slice yb ps.length yc,.int .i64 lim] 24)).alloc (.cells #[.int .i64 0,.int .i64 0] 26)=w1 from l8.out.symm];go_upto_region 2 with(first
  | (go_at_call 81;go_must (refine(x9 lo hi _ _ ps lim l _ h8.out k0.out (by omega) HY.out b8.out).mono ?_);rintro e w2 ⟨rfl,g8⟩;have b9:=qgr g8;clear g8))
 have l5:=b9.out.size;obtain⟨Y,c3⟩:∃Y,Y=w2.heap.size:=⟨_,rfl⟩;obtain⟨w3,b6⟩:∃w3,w3=w2.alloc (.cells #[.slice yb ps.length yc,.int .i64 lim] 91):=⟨_,rfl⟩;have b7:w2.grownBy w3 none:=by rw[b6];exact qgs _ _ none
 have g9:w3.heap[Y]?=some (.cells #[.slice yb ps.length yc,.int .i64 lim] 91 (0,0)):=by rw[b6,c3];exact qgC _ _
 have l4:w3.heap.size=Y+1:=by rw[b6,qgF,c3]
 rw[<- c3,<- b6];clear q0 q1;have d5:=qgr g9;have k7:=qgr ((m7.out.trans b9.out).trans b7);have a6:=qgr (blk b7 (by simp) (blk b9.out (by simp) m4.out));have m6:=qgr ((k0.out.kept b9.out (by simp)).kept b7 (by simp));have m5:=qgr ((h8.out.kept b9.out (by simp)).kept b7 (by simp));have n3:A+1<Y:=by omega
 have a7:hi<=w3.heap.size:=by omega
 clear b7 g9 b6 c3 l6 l5 l4;have s0:=q9 d5.out (o:=0) rfl;have s1:=q9 d5.out (o:=1) rfl;have s2:=q9 a6.out (o:=0) rfl;have s3:=q9 a6.out (o:=1) rfl;have z0:=qq (o:=0) a6.out;have z1:=qq (o:=1) a6.out;go_upto_region 4 with(fail);have HT:=qgr (qh6 w3 none);have e6:∀W,w3.grownBy W none->jo lo hi W (.agg #[.slice yb ps.length yc,.int .i64 lim]) ps lim:=λW h=>⟨_,rfl,m5.out.kept h (by simp)⟩;have e8:∀W,w3.grownBy W none->qe lo hi W (.slice base l.length cap) l:=λW h=>m6.out.kept h (by simp);have e7:∀W,w3.grownBy W none->W.cell? ⟨Y,0,none⟩=some (.slice yb ps.length yc)/\W.cell? ⟨Y,1,none⟩=some (.int .i64 lim)/\W.cell? ⟨A+1,0,none⟩=some (.int .i64 0)/\W.cell? ⟨A+1,1,none⟩=some (.int .i64 0)/\W.frozen? ⟨A+1,0,none⟩=false/\W.frozen? ⟨A+1,1,none⟩=false:=λW h=>
  ⟨q9 (blk h (by simp) d5.out) rfl,q9 (blk h (by simp) d5.out) rfl,q9 (blk h (by simp) a6.out) rfl,q9 (blk h (by simp) a6.out) rfl,qq (blk h (by simp) a6.out),qq (blk h (by simp) a6.out)⟩
 have c9:=qgr e6;have h9:=qgr e8;have b0:=qgr e7;clear e6 e8 e7;have SC:=qgr (b0.out w3 (qh6 w3 none));obtain⟨gm,d9⟩:∃gm,gm=pre Par.mn ps ps.length:=⟨_,rfl⟩;obtain⟨gx,d8⟩:∃gx,gx=pre Par.mx ps ps.length:=⟨_,rfl⟩;have g5:∀i,0<=gm i/\gm i<=1000:=by rw[d9];exact HY.out.mn
 have e9:∀i,0<=gx i/\gx i<=1000:=by rw[d8];exact HY.out.mx
 have k6:=qgr d9;have k5:=qgr d8;have k9:=qgr g5;have k8:=qgr e9;clear d9 d8 g5 e9;go_region_held3 (λw'=>w'.cell? ⟨Y,0,none⟩=some (.slice yb ps.length yc)/\w'.cell? ⟨Y,1,none⟩=some (.int .i64 lim)/\w'.cell? ⟨A+1,0,none⟩=some (.int .i64 0)/\w'.cell? ⟨A+1,1,none⟩=some (.int .i64 0)/\w'.frozen? ⟨A+1,0,none⟩=false/\w'.frozen? ⟨A+1,1,none⟩=false)
  (first | exact SC.out)
  (first
   | (go_at_call 93;refine(Qu lo hi _ ps lim _ (c9.out _ (by first | exact HT.out | exact HT.out.trans (qg _ _))) (qgE a7 (by first | exact HT.out.size | exact(HT.out.trans (qg _ none)).size)) HY.out.len).mono ?_;rintro e w5 ⟨rfl,hg⟩;rw[<- k6.out];replace HT:=qgr (show w3.grownBy w5 none by first | exact HT.out.trans hg | exact(HT.out.trans (qg _ _)).trans hg);replace SC:=qgr (b0.out w5 HT.out);clear hg)
   | (go_at_call 94;refine(q0a lo hi _ _ ps lim l _ _ (c9.out _ (by first | exact HT.out | exact HT.out.trans (qg _ _))) (h9.out _ (by first | exact HT.out | exact HT.out.trans (qg _ _))) (qgE a7 (by first | exact HT.out.size | exact(HT.out.trans (qg _ none)).size)) HY.out.len b8.out.ok (by have:=b8.out.len;omega) (by first | exact k9.out | exact k8.out) HY.out.be).mono ?_;rintro e w5 ⟨rfl,hg⟩;replace HT:=qgr (show w3.grownBy w5 none by first | exact HT.out.trans hg | exact(HT.out.trans (qg _ _)).trans hg);replace SC:=qgr (b0.out w5 HT.out);clear hg))
 have m3:=qgr (show w5.cell? ⟨Y,0,none⟩=some (.slice yb ps.length yc)/\w5.cell? ⟨Y,1,none⟩=some (.int .i64 lim)/\w5.cell? ⟨A+1,0,none⟩=some (.int .i64 0)/\w5.cell? ⟨A+1,1,none⟩=some (.int .i64 0)/\w5.frozen? ⟨A+1,0,none⟩=false/\w5.frozen? ⟨A+1,1,none⟩=false from SC.out);have HV:=qgr (show QZ ps l=if zU ps gm l l.length<0\/l.length=0 then .tuple #[.agg #[.int .i64 0,.int .i64 0],.int .i64 11] else .tuple #[.agg #[.int .i64 (max (-1) (zU ps gx l l.length)),.int .i64 (zU ps gm l l.length)],.int .i64 0] by rw[k6.out,k5.out];rfl);obtain⟨a,ha⟩:∃a,a=zU ps gm l l.length:=⟨_,rfl⟩;rw[<- ha] at HV ⊢;have n4:=qgr ha;clear ha
 rename_i e4
 clear e4;clear s0 s1 s2 s3 z0 z1;obtain⟨s0,s1,s2,s3,z0,z1⟩:=m3.out;have d6:∀(w':qgt),w5.grownBy w' (some (A+1))->w.grownBy w' none:=λw' h=>(k7.out.trans HT.out).andThen h (λj e=>by cases e;left;rw[<- HA.out];omega);have d7:=qgr d6;clear d6;by_cases h1:a<0
 ·have hv:QZ ps l=.tuple #[.agg #[.int .i64 0,.int .i64 0],.int .i64 11]:=by rw[HV.out,if_pos (.inl h1)]
  have a9:=qgr hv;clear hv HV;go_wp2;refine qjD (v:=.tuple #[.agg #[.int .i64 0,.int .i64 0],.int .i64 11]) ?_ rfl ⟨by rw[a9.out],d7.out _ ((qh _ _ _ _).trans (qh _ _ _ _))⟩;rw[qos rfl];go_simp
 ·by_cases h2:l.length=0
  ·have hv:QZ ps l=.tuple #[.agg #[.int .i64 0,.int .i64 0],.int .i64 11]:=by rw[HV.out,if_pos (.inr h2)]
   have a9:=qgr hv;have l7:((l.length:Int) == 0)=true:=by simp[h2]
   clear hv HV h2;go_wp2;refine qjD (v:=.tuple #[.agg #[.int .i64 0,.int .i64 0],.int .i64 11]) ?_ rfl ⟨by rw[a9.out],d7.out _ ((qh _ _ _ _).trans (qh _ _ _ _))⟩;rw[qos rfl];go_simp
  ·have hv:QZ ps l=.tuple #[.agg #[.int .i64 (max (-1) (zU ps gx l l.length)),.int .i64 a],.int .i64 0]:=by rw[HV.out,if_neg (by rintro(h | h);exact h1 h;exact h2 h)]
   have a9:=qgr hv;have l7:((l.length:Int) == 0)=false:=by rw[beq_eq_false_iff_ne];omega
   have g6:Y≠A+1:=by omega
   clear hv HV h2;go_upto_region 7 with(fail);have SC:=qgr (b0.out w5 HT.out);clear s2 s3 z0 z1;go_region_held3 (λw'=>w'.cell? ⟨Y,0,none⟩=some (.slice yb ps.length yc)/\w'.cell? ⟨Y,1,none⟩=some (.int .i64 lim))
    (first | exact⟨SC.out.1,SC.out.2.1⟩ | exact⟨q0w g6 SC.out.1,q0w g6 SC.out.2.1⟩)
    (first
     | (go_at_call 92;refine(xZ lo hi _ ps lim _ (c9.out _ (by first | exact HT.out | exact HT.out.trans (qg _ _))) (qgE a7 (by first | exact HT.out.size | exact(HT.out.trans (qg _ none)).size)) HY.out.len).mono ?_;rintro e w6 ⟨rfl,hg⟩;rw[<- k5.out];replace HT:=qgr (show w3.grownBy w6 none by first | exact HT.out.trans hg | exact(HT.out.trans (qg _ _)).trans hg);replace SC:=qgr (b0.out w6 HT.out);clear hg)
     | (go_at_call 94;refine(q0a lo hi _ _ ps lim l _ _ (c9.out _ (by first | exact HT.out | exact HT.out.trans (qg _ _))) (h9.out _ (by first | exact HT.out | exact HT.out.trans (qg _ _))) (qgE a7 (by first | exact HT.out.size | exact(HT.out.trans (qg _ none)).size)) HY.out.len b8.out.ok (by have:=b8.out.len;omega) (by first | exact k9.out | exact k8.out) HY.out.be).mono ?_;rintro e w6 ⟨rfl,hg⟩;replace HT:=qgr (show w3.grownBy w6 none by first | exact HT.out.trans hg | exact(HT.out.trans (qg _ _)).trans hg);replace SC:=qgr (b0.out w6 HT.out);clear hg;have r0:=SC.out.2.2.1;have r1:=SC.out.2.2.2.1;have r2:=SC.out.2.2.2.2.1;have r3:=SC.out.2.2.2.2.2))
   generalize hm:(if -1<zU ps gx l l.length then zU ps gx l l.length else -1)=m;have hv:QZ ps l=.tuple #[.agg #[.int .i64 m,.int .i64 a],.int .i64 0]:=by
    rw[a9.out,show max (-1) (zU ps gx l l.length)=m by rw[<- hm];omega]
   have l9:=qgr hv;clear hv hm a9;go_wp2;refine qjD (v:=.tuple #[.agg #[.int .i64 m,.int .i64 a],.int .i64 0]) ?_ rfl ⟨by rw[l9.out],(k7.out.trans HT.out).andThen ((qh _ _ _ _).trans (qh _ _ _ _)) (λj e=>by cases e;left;rw[<- HA.out];omega)⟩;rw[qos rfl];go_simp
theorem Tp.info26p:(Ya.info? 26).map (λi=>(i.zero,i.size,i.bytes))=some (some (.agg #[.int .i64 0,.int .i64 0]),2,16):=by kernel_rfl
theorem Tp.und48:Ya.underlying 48=some (.slice 26):=by rw[Tp.und];exact Tryz.underlying48
def qP(lo hi:Nat)(w:qgt)(v:qgx)(l:List (Int × Int)):Prop :=
 ∃base cap,v=.slice base l.length cap/\(l.length:Int)<=1000000 /\
  (l≠[]->∃B o cs fr,base=some ⟨B,o,none⟩/\lo<=B/\B<hi/\w.heap[B]?=some (.cells cs 26 fr) /\
   ∀i,i<l.length->∃p,l[i]?=some p/\cs[o+i*2]?=some (.int .i64 p.1)/\cs[o+(i*2+1)]?=some (.int .i64 p.2))
theorem qP.kept{lo hi:Nat}{w w':qgt}{v:qgx}{ps:List (Int × Int)}{row:Option Nat}(h:qP lo hi w v ps)(hg:w.grownBy w' row)(hr:∀R,row=some R->R<lo\/hi<=R):qP lo hi w' v ps:=by
 obtain⟨base,cap,rfl,hl,hr'⟩:=h;refine⟨base,cap,rfl,hl,λhne=>?_⟩;obtain⟨B,o,cs,fr,e1,e2,e3,e4,e5⟩:=hr' hne;exact⟨B,o,cs,fr,e1,e2,e3,blk hg (λe=>by have:=hr B e.symm;omega) e4,e5⟩
theorem qP.mono{lo hi lo' a6:Nat}{w:qgt}{v:qgx}{ps:List (Int × Int)}(h:qP lo hi w v ps)(h1:lo'<=lo)(h2:hi<=a6):qP lo' a6 w v ps:=by
 obtain⟨base,cap,rfl,hl,hr⟩:=h;refine⟨base,cap,rfl,hl,λhne=>?_⟩;obtain⟨B,o,cs,fr,e1,e2,e3,e4,e5⟩:=hr hne;exact⟨B,o,cs,fr,e1,by omega,by omega,e4,e5⟩
theorem qP.cell{lo hi:Nat}{w:qgt}{v:qgx}{ps:List (Int × Int)}(h:qP lo hi w v ps):∃base cap,v=.slice base ps.length cap/\(ps.length:Int)<=1000000 /\(ps≠[]->∃B o,base=some ⟨B,o,none⟩/\lo<=B/\B<hi/\B<w.heap.size/\∀i,i<ps.length->∃p,ps[i]?=some p/\w.cell? ⟨B,o+i*2,none⟩=some (.int .i64 p.1)/\w.cell? ⟨B,o+i*2+1,none⟩=some (.int .i64 p.2)):=by
 obtain⟨base,cap,rfl,hl,hr'⟩:=h;refine⟨base,cap,rfl,hl,λhne=>?_⟩;obtain⟨B,o,cs,fr,e1,e2,e3,e4,e5⟩:=hr' hne;refine⟨B,o,e1,e2,e3,(qgu.1 e4).1,λi hi=>?_⟩;obtain⟨p,h0,h1,h2⟩:=e5 i hi;exact⟨p,h0,by simp[qhu,e4,h1],by simp[qhu,e4,qmv,h2]⟩
def kG(l:List (Int × Int)):List qgx:=l.flatMap λp=>[.int .i64 p.1,.int .i64 p.2]
theorem q8B(l:List (Int × Int)):(kG l).length=l.length*2:=by
 unfold kG;induction l with
 | nil=>rfl
 | cons p l ih=>simp only[qjA,qih,ih,qh1,qh7];omega
theorem q6b(l:List (Int × Int))(p:Int × Int):kG (l++[p])=kG l++[.int .i64 p.1,.int .i64 p.2]:=by simp[kG]
theorem q12:∀(l:List (Int × Int)) (i:Nat),i<l.length->∃p,l[i]?=some p/\(kG l)[i*2]?=some (.int .i64 p.1)/\(kG l)[i*2+1]?=some (.int .i64 p.2)
 | p::l,0,_=>⟨p,rfl,rfl,rfl⟩
 | p::l,i+1,h=>by
  obtain⟨q,h1,h2,h3⟩:=q12 l i (by simpa using h);refine⟨q,by simpa using h1,?_,?_⟩
  ·show([qhe .i64 p.1,.int .i64 p.2]++kG l)[(i+1)*2]?=_;rw[qid (by simp;omega)];rw[<- h2];congr 1;simp;omega
  ·show([qhe .i64 p.1,.int .i64 p.2]++kG l)[(i+1)*2+1]?=_;rw[qid (by simp;omega)];rw[<- h3];congr 1;simp;omega
theorem qP.own{lo n:Nat}{w:qgt}{v:qgx}{l:List (Int × Int)}(h:w.ownsRow lo 26 2 v n (kG l))(hl:(l.length:Int)<=1000000):qP lo w.heap.size w v l:=by
 obtain⟨h1,h2⟩:=h;have hn:l.length=n:=by rw[q8B] at h1;omega
 subst hn;rcases h2 with⟨rfl,h0⟩ | ⟨g,cap,cur,rfl,hb,hg,hc,hm,hs,ht⟩
 ·exact⟨none,0,by rw[h0],hl,λhne=>absurd (qhv h0) hne⟩
 ·refine⟨_,cap,rfl,hl,λ_=>⟨g,0,cur,(0,0),rfl,hb,(qgu.1 hg).1,hg,λi hi=>?_⟩⟩;obtain⟨p,h1,h2,h3⟩:=q12 l i hi;have key:∀j,j<l.length*2->cur[j]?=(kG l)[j]?:=λj hj=>by
   rw[<- ht,qlF,if_pos hj];simp
  exact⟨p,h1,by rw[qhd,key _ (by omega),h2],by rw[qhd,key _ (by omega),h3]⟩
theorem q7e(a b c d:Int)(w:qgt):(Op.equalIn 10000 26 (.agg #[.int .i64 a,.int .i64 b]) (.agg #[.int .i64 c,.int .i64 d])).run Ya w=.ok (decide ((a,b)=(c,d))) w:=by
 have a6:Ya.underlying 26=Tryz.prog.underlying 26:=Tp.und 26;have u3:Ya.underlying 3=some (.int .i64):=by rw[Tp.und];exact Tryz.underlying3
 have hS:Ya.underlying 26=some (.struct (Ya.fieldsOf 26)):=by kernel_rfl
 have hp:Ya.stoodInHeld 26=false:=by kernel_rfl
 rw[show(10000:Nat)=9999+1 from rfl,run_equalIn_agg w 9999 26 _ _ hS hp];simp only[Program.fieldsOf,a6,Tryz.underlying26];go_simp;by_cases h1:a=c<;>by_cases h2:b=d<;>simp[h1,h2]
theorem qbE(a b c d:Int)(w:qgt):(binOp .neq 26 (.agg #[.int .i64 a,.int .i64 b]) (.agg #[.int .i64 c,.int .i64 d])).run Ya w=.ok (.bool (!decide ((a,b)=(c,d)))) w:=by
 rw[run_neq_struct,q7e];rfl
theorem qbF(a b c d:Int)(w:qgt):(binOp .eql 26 (.agg #[.int .i64 a,.int .i64 b]) (.agg #[.int .i64 c,.int .i64 d])).run Ya w=.ok (.bool (decide ((a,b)=(c,d)))) w:=by
 rw[run_eql_struct,q7e];rfl
theorem Kj(op:BinOp)(x y:qhF)(a b:Array qgx)(w:qgt):(eqGuard op 26 x y (.agg a) (.agg b)).run Ya w=.ok () w:=run_eqGuard_agg w op 26 x y a b (by kernel_rfl)
def yz(ps:List Par)(l:List Int):List (Int × Int):=(qhl l.length).map λi=>(loadAt (pre Par.mn ps ps.length) l i,loadAt (pre Par.mx ps ps.length) l i)
theorem KC(la ha lb hb:Nat)(va vb:qgx)(a b:List (Int × Int))(w:qgt)(hA:qP la ha w va a)(hB:qP lb hb w vb b) :qhx Ya 51 #[va,vb] w λe w'=>e=.returned (.bool (decide (a=b)))/\w.grownBy w' none:=by
 obtain⟨ba,ca,rfl,d6,h1⟩:=hA.cell;obtain⟨bb,cb,rfl,hl2,h2⟩:=hB.cell;have H1:=qgr h1;have H2:=qgr h2;clear h1 h2 hA hB;by_cases a6:a.length=b.length
 ·have HL:=qgr a6;have a9:((a.length:Int) != (b.length:Int))=false:=by rw[a6];simp
  clear a6;go_enter Tp.x51,Tryz.ntmps51;go_wp2;go_loopw [5] (λiv wr=>∃k:Nat,iv=.int .i64 k/\k<=a.length/\(∀i,i<k->a[i]?=b[i]?)/\w.grownBy wr none) (λiv _=>(a.length - qia iv).toNat)
  case atStart=>exact⟨0,rfl,by omega,λi hi=>absurd hi (by omega),qh6 _ _⟩
  case round=>
   obtain⟨k,rfl,hk,hok,hG⟩:=hrel;have c9:=qgr hok;have HG:=qgr hG;clear hok;by_cases hlt:k<a.length
   ·have a8:k<b.length:=by have:=HL.out;omega
    obtain⟨A1,o1,rfl,e8,e7,e6,c8⟩:=H1.out (by intro e;rw[e] at hlt;simp at hlt);obtain⟨B1,o2,rfl,e5,e4,d9,c3⟩:=H2.out (by intro e;rw[e] at a8;simp at a8);obtain⟨p,e1,b8,b7⟩:=c8 k hlt;obtain⟨q,e2,b6,b0⟩:=c3 k a8;have x1:=hG.cell b8 (by simp);have x2:=hG.cell b7 (by simp);have y1:=hG.cell b6 (by simp);have y2:=hG.cell b0 (by simp);obtain⟨p1,p2⟩:=p;obtain⟨q1,q2⟩:=q;have d7:(k:Int)<(b.length:Int):=by omega
    have d8:(k:Int)<(a.length:Int):=by omega
    have E1:=qgr e1;have E2:=qgr e2;clear c8 c3 hG e1 e2 b8 b7 b6 b0;have b9:=qbE p1 p2 q1 q2;have hbg:=Kj .neq (.tmp 20) (.tmp 24) #[.int .i64 p1,.int .i64 p2] #[.int .i64 q1,.int .i64 q2];by_cases a7:(p1,p2)=(q1,q2)
    ·have hd:decide ((p1,p2)=(q1,q2))=true:=by simpa using a7
     rw[hd] at b9;have d5:=qgr a7;clear hd a7;go_upto_region 6 with(fail);go_quiet (fail);go_wp2;go_roundw
     case rel=>
      refine⟨k+1,by simp,by omega,λi hi=>?_,HG.out.trans (qk _ _ _)⟩;by_cases e:i=k
      ·rw[e,E1.out,E2.out,d5.out]
      ·exact c9.out i (by omega)
     case measure=>simp[qia];omega
    ·have hd:decide ((p1,p2)=(q1,q2))=false:=by simpa using a7
     rw[hd] at b9;have HR:=qgr (show decide (a=b)=false by
      rw[decide_eq_false_iff_not];intro e;have h1:=E1.out;rw[e,E2.out] at h1;exact a7 (by cases h1;rfl))
     clear hd a7;go_upto_region 6 with(fail);go_quiet (fail);go_wp2;go_ret;exact⟨by rw[HR.out];rfl,HG.out.trans (qk _ _ _)⟩
   ·obtain rfl:k=a.length:=by omega
    have HR:=qgr (show decide (a=b)=true by
     rw[decide_eq_true_eq];refine qlm λi=>?_;by_cases hi:i<a.length
     ·exact c9.out i hi
     ·rw[qi5 (by omega),qi5 (by have:=HL.out;omega)])
    clear hG;go_wp2;go_ret;exact⟨by rw[HR.out];rfl,HG.out⟩
 ·have HR:=qgr (show decide (a=b)=false by
   rw[decide_eq_false_iff_not];intro e;exact a6 (by rw[e]))
  have a9:((a.length:Int) != (b.length:Int))=true:=by simp;omega
  clear a6;go_enter Tp.x51,Tryz.ntmps51;go_wp2;go_ret;exact⟨by rw[HR.out];rfl,qh6 _ _⟩
theorem q5r(ps:List Par)(l:List Int):(yz ps l).length=l.length:=by simp[yz]
theorem q3q(ps:List Par)(l:List Int)(k:Nat)(h:k<l.length):(yz ps l).take (k+1)=(yz ps l).take k++[(loadAt (pre Par.mn ps ps.length) l k,loadAt (pre Par.mx ps ps.length) l k)]:=by
 rw[qi7];simp[yz,h]
theorem q87(lo hi:Nat)(pv qv:qgx)(ps:List Par)(lim:Int)(l:List Int)(w:qgt)(hP:qw lo hi w pv ps)(hI:qe lo hi w qv l)(hhi:hi<=w.heap.size)(hok:YOk ps lim)(hp:POk ps lim l) :qhx Ya 35 #[.agg #[pv,.int .i64 lim],qv] w λe w'=>∃v,e=.returned (.tuple #[v,.int .i64 0])/\w.grownBy w' none/\qP w.heap.size w'.heap.size w' v (yz ps l):=by
 obtain⟨i0,m5,l7,l6,l5⟩:=qjy Tp.info26p;obtain⟨yb,yc,rfl,p4,-⟩:=hP.cell;obtain⟨base,cap,rfl,p7,-⟩:=hI.cell;obtain⟨A,hA⟩:∃A,A=w.heap.size:=⟨_,rfl⟩;obtain⟨w1,b0⟩:∃w1,w1=w.alloc (.cells #[.slice yb ps.length yc,.int .i64 lim] 24):=⟨_,rfl⟩;have c3:w.grownBy w1 none:=by rw[b0];exact qgs _ _ none
 have d9:w1.heap[A]?=some (.cells #[.slice yb ps.length yc,.int .i64 lim] 24 (0,0)):=by rw[b0,hA];exact qgC w _
 have m3:w1.heap.size=A+1:=by rw[b0,qgF,hA]
 have k0:=qgr (hI.kept c3 (by simp));have h8:=qgr (hP.kept c3 (by simp));have m7:=qgr b0;have HA:=qgr hA;have n6:=qgr c3;have q0:=q9 d9 (o:=0) rfl;have q1:=q9 d9 (o:=1) rfl;have p8:hi<=A:=by omega
 have HY:=qgr hok;have m8:=qgr hp;have m4:l.length<=100:=hp.len;have e5:∀x∈l,0<=x/\x<5:=λx hx=>by have h1:=hp.ok x hx;have h2:=hok.len;omega
 have g9:=qgr e5;clear hP hI hok hp b0 hA c3 d9 e5;go_enter Tp.x35,Tryz.ntmps35;go_upto_region 1 with(fail);rw[<- HA.out,show w.alloc (.cells #[.slice yb ps.length yc,.int .i64 lim] 24)=w1 from m7.out.symm];go_upto_region 2 with(first
  | (go_at_call 81;go_must (refine(x9 lo hi _ _ ps lim l _ h8.out k0.out (by omega) HY.out m8.out).mono ?_);rintro e w2 ⟨rfl,g6⟩;have c8:=qgr g6;clear g6))
 have l9:=c8.out.size;obtain⟨Y,b8⟩:∃Y,Y=w2.heap.size:=⟨_,rfl⟩;obtain⟨w3,a9⟩:∃w3,w3=w2.alloc (.cells #[.slice yb ps.length yc,.int .i64 lim] 91):=⟨_,rfl⟩;have b9:w2.grownBy w3 none:=by rw[a9];exact qgs _ _ none
 have g7:w3.heap[Y]?=some (.cells #[.slice yb ps.length yc,.int .i64 lim] 91 (0,0)):=by rw[a9,b8];exact qgC _ _
 have l8:w3.heap.size=Y+1:=by rw[a9,qgF,b8]
 rw[<- b8,<- a9];clear q0 q1;have c9:=qgr g7;have k8:=qgr ((n6.out.trans c8.out).trans b9);have n3:=qgr ((k0.out.kept c8.out (by simp)).kept b9 (by simp));have m9:=qgr ((h8.out.kept c8.out (by simp)).kept b9 (by simp));have p9:A<Y:=by omega
 have a8:hi<=w3.heap.size:=by omega
 have p5:w.heap.size<=w3.heap.size:=k8.out.size;clear b9 g7 a9 b8 m3 l9 l8;have s0:=q9 c9.out (o:=0) rfl;have s1:=q9 c9.out (o:=1) rfl;go_upto_region 5 with(fail);have HT:=qgr (qh6 w3 none);have e4:∀W,w3.grownBy W none->jo lo hi W (.agg #[.slice yb ps.length yc,.int .i64 lim]) ps lim:=λW h=>⟨_,rfl,m9.out.kept h (by simp)⟩;have e7:∀W,w3.grownBy W none->qe lo hi W (.slice base l.length cap) l:=λW h=>n3.out.kept h (by simp);have e6:∀W,w3.grownBy W none->W.cell? ⟨Y,0,none⟩=some (.slice yb ps.length yc)/\W.cell? ⟨Y,1,none⟩=some (.int .i64 lim):=λW h=>
  ⟨q9 (blk h (by simp) c9.out) rfl,q9 (blk h (by simp) c9.out) rfl⟩
 have g8:=qgr e4;have h9:=qgr e7;have b7:=qgr e6;clear e4 e7 e6;have SC:=qgr (b7.out w3 (qh6 w3 none));obtain⟨gm,d8⟩:∃gm,gm=pre Par.mn ps ps.length:=⟨_,rfl⟩;obtain⟨gx,d7⟩:∃gx,gx=pre Par.mx ps ps.length:=⟨_,rfl⟩;have e9:∀i,0<=gm i/\gm i<=1000:=by rw[d8];exact HY.out.mn
 have e8:∀i,0<=gx i/\gx i<=1000:=by rw[d7];exact HY.out.mx
 have k6:=qgr d8;have k5:=qgr d7;have l4:=qgr e9;have k9:=qgr e8;clear d8 d7 e9 e8;go_region_held3 (λw'=>w'.cell? ⟨Y,0,none⟩=some (.slice yb ps.length yc)/\w'.cell? ⟨Y,1,none⟩=some (.int .i64 lim))
  (first | exact SC.out)
  (first
   | (go_at_call 92;refine(xZ lo hi _ ps lim _ (g8.out _ (by first | exact HT.out | exact HT.out.trans (qg _ _))) (qgE a8 (by first | exact HT.out.size | exact(HT.out.trans (qg _ none)).size)) HY.out.len).mono ?_;rintro e w5 ⟨rfl,hg⟩;rw[<- k5.out];replace HT:=qgr (show w3.grownBy w5 none by first | exact HT.out.trans hg | exact(HT.out.trans (qg _ _)).trans hg);replace SC:=qgr (b7.out w5 HT.out);clear hg)
   | (go_at_call 91;refine(Qt lo hi _ _ l _ _ (h9.out _ (by first | exact HT.out | exact HT.out.trans (qg _ _))) (qgE a8 (by first | exact HT.out.size | exact(HT.out.trans (qg _ none)).size)) g9.out (by omega) (by first | exact l4.out | exact k9.out) ⟨_,_,rfl⟩).mono ?_;rintro e w5 ⟨lv,rfl,hg,hL⟩;have hc:=hL.cell;rw[yZ] at hc;obtain⟨mb,mc,rfl,-,-⟩:=hc;have HM:=qgr hL;replace HT:=qgr (show w3.grownBy w5 none by first | exact HT.out.trans hg | exact(HT.out.trans (qg _ _)).trans hg);replace SC:=qgr (b7.out w5 HT.out);clear hg hL))
 rename_i wa wm a7
 clear a7 s0 s1;have q2:=qgr HT.out;have s0:=SC.out.1;have s1:=SC.out.2;go_upto_region 6 with(fail);go_region_held3 (λw'=>w'.cell? ⟨Y,0,none⟩=some (.slice yb ps.length yc)/\w'.cell? ⟨Y,1,none⟩=some (.int .i64 lim))
  (first | exact SC.out)
  (first
   | (go_at_call 93;refine(Qu lo hi _ ps lim _ (g8.out _ (by first | exact HT.out | exact HT.out.trans (qg _ _))) (qgE a8 (by first | exact HT.out.size | exact(HT.out.trans (qg _ none)).size)) HY.out.len).mono ?_;rintro e w6 ⟨rfl,hg⟩;rw[<- k6.out];replace HM:=qgr (HM.out.kept (row:=none) (show World.grownBy _ w6 none by first | exact hg | exact(qg _ _).trans hg) (by simp));replace HT:=qgr (show w3.grownBy w6 none by first | exact HT.out.trans hg | exact(HT.out.trans (qg _ _)).trans hg);replace SC:=qgr (b7.out w6 HT.out);clear hg)
   | (go_at_call 91;refine(Qt lo hi _ _ l _ _ (h9.out _ (by first | exact HT.out | exact HT.out.trans (qg _ _))) (qgE a8 (by first | exact HT.out.size | exact(HT.out.trans (qg _ none)).size)) g9.out (by omega) (by first | exact l4.out | exact k9.out) ⟨_,_,rfl⟩).mono ?_;rintro e w6 ⟨lv,rfl,hg,hL⟩;have hc:=hL.cell;rw[yZ] at hc;obtain⟨lb,lc,rfl,-,-⟩:=hc;have HL:=qgr hL;replace HM:=qgr (HM.out.kept (row:=none) (show World.grownBy _ w6 none by first | exact hg | exact(qg _ _).trans hg) (by simp));replace HT:=qgr (show w3.grownBy w6 none by first | exact HT.out.trans hg | exact(HT.out.trans (qg _ _)).trans hg);replace SC:=qgr (b7.out w6 HT.out);clear hg hL))
 rename_i a7
 clear a7 s0 s1;have hcl:=HL.out.cell;have hcm:=HM.out.cell;rw[yZ] at hcl hcm;obtain⟨_,_,he,-,hcl⟩:=hcl;cases he;obtain⟨_,_,he,-,hcm⟩:=hcm;cases he;have n8:=qgr hcl;have n7:=qgr hcm;have k7:=qgr (k8.out.trans HT.out);clear hcl hcm;have m6:Hid (∀k,k<l.length->(kG ((yz ps l).take (k+1)))=kG ((yz ps l).take k)++[.int .i64 (loadAt gm l k),.int .i64 (loadAt gx l k)]):=qgr λk hk=>by
  rw[q3q ps l k hk,q6b,k6.out,k5.out]
 go_wp2;go_loopw [8,32] (λov iv wr=>∃k:Nat,iv=.int .i64 k/\k<=l.length/\w6.grownBy wr none/\wr.ownsRow w6.heap.size 26 2 ov k (kG ((yz ps l).take k))) (λ_ iv _=>(l.length - qia iv).toNat)
 case atStart=>exact⟨0,rfl,by omega,qh6 _ _,by simpa[kG] using qjg _ _ _ _⟩
 case round=>
  obtain⟨k,rfl,hk,hG,hO⟩:=hrel;obtain⟨oa,om,oc,rfl⟩:=zK hO;have HG:=qgr hG;have HO:=qgr hO;have p6:=hG.size;by_cases hlt:k<l.length
  ·have d6:ldL gm l≠[]:=by intro e;have:=yZ gm l;rw[e] at this;simp at this;omega
   have d5:ldL gx l≠[]:=by intro e;have:=yZ gx l;rw[e] at this;simp at this;omega
   obtain⟨LB,lo',rfl,-,-,-,hL4⟩:=n8.out d6;obtain⟨MB,p3,rfl,-,-,-,g5⟩:=n7.out d5;have x1:=hG.cell (hL4 k hlt) (by simp);have x2:=hG.cell (g5 k hlt) (by simp);rw[JT gm l k hlt] at x1;rw[JT gx l k hlt] at x2;have HS:=qgr (m6.out k hlt);generalize loadAt gm l k=p1 at x1 HS;generalize loadAt gx l k=p2 at x2 HS;have n9:(k:Int)<(l.length:Int):=by omega
   clear hL4 g5 d6 d5 hG hO;go_wp2_with (first
    | (at_builtin;go_must (refine wpList_append_own _ rfl _ _ 48 rfl w6.heap.size 26 i0 _ 2 16 Tp.und48 m5 l7 l6 l5 rfl (by decide) (.slice oa om oc) k _ rfl (HO.out.alloc _) ⟨wr.heap.size,0,none⟩ 1 1 [.int .i64 p1,.int .i64 p2] rfl rfl (qit (cs:=#[.int .i64 p1,.int .i64 p2]) (t:=26) (fr:=(0,0)) (qgC wr _)) (by simp[qjh]) (by unfold qky;omega) (by omega) (by simp;omega) ?_);intro v' w7 a6 b6 _;obtain⟨g',cap',rfl⟩:=ownsRow_succ a6;have n2:=qgr a6;have n4:=qgr b6;clear a6 b6))
   go_roundw
   case rel=>
    refine⟨k+1,by simp,by omega,(HG.out.trans (qgs _ _ none)).andThen n4.out (λj e=>.inl (HO.out.lt j e).1),?_⟩;rw[HS.out];exact n2.out
   case measure=>simp[qia];omega
  ·obtain rfl:k=l.length:=by omega
   clear hG hO;go_wp2;go_ret2;have h0:=HO.out;rw[show(yz ps l).take l.length=yz ps l from qoC (by simp[yz])] at h0;exact⟨_,rfl,k7.out.trans HG.out,(qP.own h0 (by rw[q5r];omega)).mono k7.out.size (qgw _)⟩
end
end Go.Proofs.YtidgnkmjgioapaaGreat
