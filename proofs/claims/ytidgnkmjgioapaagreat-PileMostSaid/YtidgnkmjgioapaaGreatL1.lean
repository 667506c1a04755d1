/-
  Part 3 of the proof. gladstonelaw04.PileMost answers true for every list of numbers, and leaves its argument as it was. No conditions.
-/
import Derived.Test.YtidgnkmjgioapaaGreatChecked
import Derived.KernelRfl
import Derived.WalkKit
import Derived.WalkSpells
import Derived.WalkLawsBesides
import Derived.RegionTactic
import Derived.ChangeAlike
import Derived.Deep.QuietTactic
import Derived.BigQuiet
import Derived.OneCell
import Derived.Maps.AppendAt
import Derived.Lib.Hide
import Derived.Maps.Range
import Derived.Deep.AppendLies
import Derived.Deep.RegionHeld3
import Derived.Deep.RegionLawGrows
import Derived.LoopTactic
import Derived.Deep.DeepCutAuto
import Derived.LoopIn
import Derived.LoopNIn
import Derived.BigRegion
import Derived.Deep.RegionLaw
import Derived.Recover
import Derived.Defers
import Derived.Deep.OwnRows
import Derived.StillTail
import Derived.Maps.RangeWalk
import Derived.OrdersHeld
import Derived.RangeFuncNested
import Derived.RangeFuncBound
import Derived.RangeFuncCalls
import Derived.RangeFuncLeaves
import Derived.RangeFuncFrom
import Derived.OrdersIn
import Derived.TacticsIn
import Derived.Conc.WgGenN3
import Derived.Laws.StructEq
import Derived.RangeFuncBox
set_option maxRecDepth 100000
set_option maxHeartbeats 8000000
set_option linter.all false
open And renaming intro → q8D
open Array renaming all_eq_true_iff_forall_mem → qbu,getElem?_eq_some_iff → q45,getElem?_setIfInBounds → qav,getElem?_setIfInBounds_ne → qbj,getElem?_setIfInBounds_self_of_lt → qd8,mem_of_getElem? → qby,mem_toList_iff → qcs,replicate → qb4,replicate_succ → qao,replicate_zero → qat
open Bool renaming and_eq_true → q9b,false_eq_true → qa5,not_eq_true' → qcE,or_eq_true → qcy
open Go renaming Addr → qb9,Calls → qaD,Code → qcm,Oper → qbz,Operand → qaH,Program → q8b,TypeId → q8u,Value → q58,World → q3g,bodyPost_ret → qcG,callsIn_wide → qcx,heap_alloc_new → q7j,info_parts → qch,typeInfo → qdD,undef → q5s,underlying → qdg
open Go.Builtin renaming zeroCells → qck
open Go.Calls renaming quiet_of_same → qc4
open Go.Instr renaming endRound → qcH,typeAssert → qdw
open Go.IntWalk renaming i64_in → qa7
open Go.Lib renaming hid → q1D
open Go.Proofs.Tryz renaming f85 → qdv,prog → q8v
open Go.Region renaming Mode → qdr,binds → qb8,ready → q91,seqB → qeo,wanted → qb0
open Go.Result renaming andThen_ok → qbC
open Go.RowKit renaming intOf → qb2
open Go.RowKit.Below renaming heap_setCell → qbi
open Go.Sem renaming run_bind → qbB
open Go.Value renaming int → q9q,oneCell' → qbD,ownBlock → qak,slice → qbp
open Go.World renaming cell? → qal,cell?_setCell_other → qbG,cell?_setCell_same → qe7,grownBy_alloc → q34,news_of_block → qbg,ownsRow_nil → qcb,putObj_heap_other → qe9,setCell → qci,size_alloc → q8f
open Go.World.grownBy renaming refl → q8j
open List renaming all_eq_true → qau,append_toArray → qdi,cons_append → q9y,drop_eq_getElem_cons → qcq,drop_eq_nil_of_le → qdf,drop_succ_cons → qbh,drop_zero → qbH,eq_nil_of_length_eq_zero → qbo,flatMap_cons → qcv,getElem?_append_left → qaj,getElem?_append_right → qco,getElem?_eq_getElem → q7C,getElem?_eq_none → qd5,getElem?_eq_some_iff → q8w,getElem?_set_ne → qds,length_append → qb3,length_cons → q8l,length_drop → qer,length_map → qcl,length_nil → q9k,mem_append → qcz,mem_cons → qbx,mem_of_getElem? → q8z,mem_range → qcn,nil_append → qae,not_mem_nil → qc2,push_toArray → qbd,range → qa4,size_toArray → qa0,take_add_one → qbc,take_length → qcc
open Nat renaming le_refl → q5m,le_trans → q87,lt_of_lt_of_le → q8m,lt_or_ge → qbF,reduceAdd → q9F,reduceSub → qbA,zero_add → q9m
open Option renaming getD_some → q88,map_some → qbt
open Option.some renaming injEq → qaz
section
namespace Go.Proofs
open Go Go.RowKit
theorem al_uns{α:Type}(p q:q8b)(w:q3g)(r:Unsupported):(unsupported r:Sem α).run p w=(unsupported r:Sem α).run q w:=by unfold unsupported;rfl
section
variable(p q:q8b)(h:p.toTables=q.toTables)(w:q3g)(t:q8u)
include h
theorem q1z:p.info? t=q.info? t:=congrArg (λT=>Tables.info? T t) h
theorem al_und:p.underlying t=q.underlying t:=by
 unfold Program.underlying;simp only[q1z p q h]
theorem al_ti:(qdD t).run p w=(qdD t).run q w:=by
 unfold qdD;show(match p.info? t with | some i=>(pure i:Sem TypeInfo) | none=>stuck "no such type").run p w=(match q.info? t with | some i=>(pure i:Sem TypeInfo) | none=>stuck "no such type").run q w;rw[q1z p q h];cases q.info? t<;>rfl
theorem al_un:(qdg t).run p w=(qdg t).run q w:=by
 unfold qdg;show(match p.underlying t with | some i=>(pure i:Sem TypeDesc) | none=>stuck "no such type").run p w=(match q.underlying t with | some i=>(pure i:Sem TypeDesc) | none=>stuck "no such type").run q w;rw[al_und p q h];cases q.underlying t<;>rfl
theorem al_size:(sizeOf t).run p w=(sizeOf t).run q w:=by
 unfold sizeOf;simp only[qbB,al_ti p q h];cases(qdD t).run q w<;>rfl
theorem al_zero:(zeroValue t).run p w=(zeroValue t).run q w:=by
 unfold zeroValue;simp only[qbB,al_ti p q h];cases hh:(qdD t).run q w with
 | ok i w' =>
  simp only[qbC];split
  ·rfl
  ·exact al_uns p q w' _
 | _=>simp only[Result.andThen]
theorem al_agg:(isAgg t).run p w=(isAgg t).run q w:=by
 unfold isAgg;simp only[qbB,al_un p q h];cases hh:(qdg t).run q w with
 | ok i w' =>
  simp only[qbC];split<;>simp only[Sem.run_pure]
 | _=>simp only[Result.andThen]
end
noncomputable def Tryp.prog:q8b:={ q8v with funcs:=Tryz.prog.funcs.setIfInBounds 85 { qdv with body:=some (.exit 0) } }
section
variable(w:q3g)(t:q8u)
@[simp] theorem Tryp.tables:Tryp.prog.toTables=Tryz.prog.toTables:=rfl
@[simp] theorem Tryp.und:Tryp.prog.underlying t=Tryz.prog.underlying t:=al_und _ _ Tryp.tables t
@[simp] theorem Tryp.rTypeInfo:(qdD t).run Tryp.prog w=(qdD t).run q8v w:=al_ti _ _ Tryp.tables w t
@[simp] theorem Tryp.rUnder:(qdg t).run Tryp.prog w=(qdg t).run q8v w:=al_un _ _ Tryp.tables w t
@[simp] theorem Tryp.rSizeOf:(sizeOf t).run Tryp.prog w=(sizeOf t).run q8v w:=al_size _ _ Tryp.tables w t
@[simp] theorem Tryp.rIsAgg:(isAgg t).run Tryp.prog w=(isAgg t).run q8v w:=al_agg _ _ Tryp.tables w t
@[simp] theorem Tryp.rZero:(zeroValue t).run Tryp.prog w=(zeroValue t).run q8v w:=al_zero _ _ Tryp.tables w t
end
end Go.Proofs
end
section
namespace Go.Proofs
open Go Go.RowKit
abbrev Tryp.F (f:Nat) (g:Func):Prop:=Tryp.prog.funcs[f]?=some g
abbrev Tryp.C (f:Nat):Prop:=∀(a:Array q58) (w:q3g),(callFunc f a).run Tryp.prog w=.ok (.enter f a) w
theorem Tryp.cl(f:Nat)(h:(match Tryp.prog.funcs[f]? with | some g=>!(g.name == "runtime.NumGoroutine") && g.body.isSome | none=>false)=true:=by kernel_rfl):Tryp.C f:=by
 intro a w;cases e:Tryp.prog.funcs[f]? with
 | none=>rw[e] at h;cases h
 | some g =>
  rw[e] at h;simp only[q9b,qcE] at h;have h1:g.name ≠ "runtime.NumGoroutine" := λhe=>by rw[he] at h;exact absurd h.1 (by decide)
  have h2:g.body≠none:=λhe=>by rw[he] at h;cases h.2
  simp[callFunc,go_sem,e,h1,h2]
theorem Tryp.fn{f:Nat}{g:Func}(h:Tryp.prog.funcs[f]?=some g:=by kernel_rfl):Tryp.F f g:=h
theorem Tryp.func7:Tryp.F 7 Tryz.f7:=Tryp.fn
theorem Tryp.func23:Tryp.F 23 Tryz.f23:=Tryp.fn
theorem Tryp.func24:Tryp.F 24 Tryz.f24:=Tryp.fn
@[simp] theorem Tryp.call24:Tryp.C 24:=Tryp.cl 24
theorem Tryp.func29:Tryp.F 29 Tryz.f29:=Tryp.fn
theorem Tryp.func31:Tryp.F 31 Tryz.f31:=Tryp.fn
@[simp] theorem Tryp.call31:Tryp.C 31:=Tryp.cl 31
theorem Tryp.func33:Tryp.F 33 Tryz.f33:=Tryp.fn
@[simp] theorem Tryp.call33:Tryp.C 33:=Tryp.cl 33
theorem Tryp.func35:Tryp.F 35 Tryz.f35:=Tryp.fn
@[simp] theorem Tryp.call35:Tryp.C 35:=Tryp.cl 35
theorem Tryp.func36:Tryp.F 36 Tryz.f36:=Tryp.fn
@[simp] theorem Tryp.call36:Tryp.C 36:=Tryp.cl 36
theorem Tryp.func37:Tryp.F 37 Tryz.f37:=Tryp.fn
@[simp] theorem Tryp.call37:Tryp.C 37:=Tryp.cl 37
theorem Tryp.func39:Tryp.F 39 Tryz.f39:=Tryp.fn
@[simp] theorem Tryp.call39:Tryp.C 39:=Tryp.cl 39
theorem Tryp.func40:Tryp.F 40 Tryz.f40:=Tryp.fn
@[simp] theorem Tryp.call40:Tryp.C 40:=Tryp.cl 40
theorem Tryp.func42:Tryp.F 42 Tryz.f42:=Tryp.fn
@[simp] theorem Tryp.call42:Tryp.C 42:=Tryp.cl 42
theorem Tryp.func44:Tryp.F 44 Tryz.f44:=Tryp.fn
@[simp] theorem Tryp.call44:Tryp.C 44:=Tryp.cl 44
theorem Tryp.func45:Tryp.F 45 Tryz.f45:=Tryp.fn
@[simp] theorem Tryp.call45:Tryp.C 45:=Tryp.cl 45
theorem Tryp.func46:Tryp.F 46 Tryz.f46:=Tryp.fn
@[simp] theorem Tryp.call46:Tryp.C 46:=Tryp.cl 46
theorem Tryp.func47:Tryp.F 47 Tryz.f47:=Tryp.fn
@[simp] theorem Tryp.call47:Tryp.C 47:=Tryp.cl 47
theorem Tryp.func51:Tryp.F 51 Tryz.f51:=Tryp.fn
@[simp] theorem Tryp.call51:Tryp.C 51:=Tryp.cl 51
theorem Tryp.func52:Tryp.F 52 Tryz.f52:=Tryp.fn
@[simp] theorem Tryp.call52:Tryp.C 52:=Tryp.cl 52
theorem Tryp.func54:Tryp.F 54 Tryz.f54:=Tryp.fn
@[simp] theorem Tryp.call54:Tryp.C 54:=Tryp.cl 54
theorem Tryp.func62:Tryp.F 62 Tryz.f62:=Tryp.fn
@[simp] theorem Tryp.call62:Tryp.C 62:=Tryp.cl 62
theorem Tryp.func63:Tryp.F 63 Tryz.f63:=Tryp.fn
@[simp] theorem Tryp.call63:Tryp.C 63:=Tryp.cl 63
theorem Tryp.func65:Tryp.F 65 Tryz.f65:=Tryp.fn
@[simp] theorem Tryp.call65:Tryp.C 65:=Tryp.cl 65
theorem Tryp.func68:Tryp.F 68 Tryz.f68:=Tryp.fn
@[simp] theorem Tryp.call68:Tryp.C 68:=Tryp.cl 68
theorem Tryp.func70:Tryp.F 70 Tryz.f70:=Tryp.fn
@[simp] theorem Tryp.call70:Tryp.C 70:=Tryp.cl 70
theorem Tryp.func80:Tryp.F 80 Tryz.f80:=Tryp.fn
@[simp] theorem Tryp.call80:Tryp.C 80:=Tryp.cl 80
theorem Tryp.func81:Tryp.F 81 Tryz.f81:=Tryp.fn
@[simp] theorem Tryp.call81:Tryp.C 81:=Tryp.cl 81
theorem Tryp.func82:Tryp.F 82 Tryz.f82:=Tryp.fn
@[simp] theorem Tryp.call82:Tryp.C 82:=Tryp.cl 82
theorem Tryp.func83:Tryp.F 83 Tryz.f83:=Tryp.fn
theorem Tryp.func84:Tryp.F 84 Tryz.f84:=Tryp.fn
@[simp] theorem Tryp.call84:Tryp.C 84:=Tryp.cl 84
theorem Tryp.func90:Tryp.F 90 Tryz.f90:=Tryp.fn
@[simp] theorem Tryp.call90:Tryp.C 90:=Tryp.cl 90
theorem Tryp.func91:Tryp.F 91 Tryz.f91:=Tryp.fn
@[simp] theorem Tryp.call91:Tryp.C 91:=Tryp.cl 91
theorem Tryp.func92:Tryp.F 92 Tryz.f92:=Tryp.fn
@[simp] theorem Tryp.call92:Tryp.C 92:=Tryp.cl 92
theorem Tryp.func93:Tryp.F 93 Tryz.f93:=Tryp.fn
@[simp] theorem Tryp.call93:Tryp.C 93:=Tryp.cl 93
theorem Tryp.func94:Tryp.F 94 Tryz.f94:=Tryp.fn
@[simp] theorem Tryp.call94:Tryp.C 94:=Tryp.cl 94
theorem Tryp.func95:Tryp.F 95 Tryz.f95:=Tryp.fn
@[simp] theorem Tryp.call95:Tryp.C 95:=Tryp.cl 95
theorem Tryp.func96:Tryp.F 96 Tryz.f96:=Tryp.fn
@[simp] theorem Tryp.call96:Tryp.C 96:=Tryp.cl 96
theorem Tryp.func97:Tryp.F 97 Tryz.f97:=Tryp.fn
@[simp] theorem Tryp.call97:Tryp.C 97:=Tryp.cl 97
theorem Tryp.func98:Tryp.F 98 Tryz.f98:=Tryp.fn
@[simp] theorem Tryp.call98:Tryp.C 98:=Tryp.cl 98
theorem Tryp.func99:Tryp.F 99 Tryz.f99:=Tryp.fn
@[simp] theorem Tryp.call99:Tryp.C 99:=Tryp.cl 99
theorem Tryp.func100:Tryp.F 100 Tryz.f100:=Tryp.fn
@[simp] theorem Tryp.call100:Tryp.C 100:=Tryp.cl 100
theorem Tryp.func101:Tryp.F 101 Tryz.f101:=Tryp.fn
theorem Tryp.func102:Tryp.F 102 Tryz.f102:=Tryp.fn
@[simp] theorem Tryp.call102:Tryp.C 102:=Tryp.cl 102
theorem Tryp.func103:Tryp.F 103 Tryz.f103:=Tryp.fn
@[simp] theorem Tryp.call103:Tryp.C 103:=Tryp.cl 103
theorem Tryp.func104:Tryp.F 104 Tryz.f104:=Tryp.fn
@[simp] theorem Tryp.call104:Tryp.C 104:=Tryp.cl 104
theorem Tryp.func109:Tryp.F 109 Tryz.f109:=Tryp.fn
@[simp] theorem Tryp.call109:Tryp.C 109:=Tryp.cl 109
theorem Tryp.func110:Tryp.F 110 Tryz.f110:=Tryp.fn
@[simp] theorem Tryp.call110:Tryp.C 110:=Tryp.cl 110
theorem Tryp.func112:Tryp.F 112 Tryz.f112:=Tryp.fn
@[simp] theorem Tryp.call112:Tryp.C 112:=Tryp.cl 112
theorem Tryp.func113:Tryp.F 113 Tryz.f113:=Tryp.fn
@[simp] theorem Tryp.call113:Tryp.C 113:=Tryp.cl 113
theorem Tryp.func114:Tryp.F 114 Tryz.f114:=Tryp.fn
@[simp] theorem Tryp.call114:Tryp.C 114:=Tryp.cl 114
theorem Tryp.func117:Tryp.F 117 Tryz.f117:=Tryp.fn
@[simp] theorem Tryp.call117:Tryp.C 117:=Tryp.cl 117
theorem Tryp.func120:Tryp.F 120 Tryz.f120:=Tryp.fn
theorem Tryp.func121:Tryp.F 121 Tryz.f121:=Tryp.fn
@[simp] theorem Tryp.call121:Tryp.C 121:=Tryp.cl 121
theorem Tryp.func122:Tryp.F 122 Tryz.f122:=Tryp.fn
@[simp] theorem Tryp.call122:Tryp.C 122:=Tryp.cl 122
theorem Tryp.func123:Tryp.F 123 Tryz.f123:=Tryp.fn
@[simp] theorem Tryp.call123:Tryp.C 123:=Tryp.cl 123
theorem Tryp.func125:Tryp.F 125 Tryz.f125:=Tryp.fn
@[simp] theorem Tryp.call125:Tryp.C 125:=Tryp.cl 125
theorem Tryp.func126:Tryp.F 126 Tryz.f126:=Tryp.fn
@[simp] theorem Tryp.call126:Tryp.C 126:=Tryp.cl 126
theorem Tryp.func129:Tryp.F 129 Tryz.f129:=Tryp.fn
@[simp] theorem Tryp.call129:Tryp.C 129:=Tryp.cl 129
theorem Tryp.func133:Tryp.F 133 Tryz.f133:=Tryp.fn
@[simp] theorem Tryp.call133:Tryp.C 133:=Tryp.cl 133
theorem Tryp.func134:Tryp.F 134 Tryz.f134:=Tryp.fn
@[simp] theorem Tryp.call134:Tryp.C 134:=Tryp.cl 134
theorem Tryp.func135:Tryp.F 135 Tryz.f135:=Tryp.fn
@[simp] theorem Tryp.call135:Tryp.C 135:=Tryp.cl 135
theorem Tryp.func136:Tryp.F 136 Tryz.f136:=Tryp.fn
@[simp] theorem Tryp.call136:Tryp.C 136:=Tryp.cl 136
theorem Tryp.func137:Tryp.F 137 Tryz.f137:=Tryp.fn
theorem Tryp.func145:Tryp.F 145 Tryz.f145:=Tryp.fn
@[simp] theorem Tryp.call145:Tryp.C 145:=Tryp.cl 145
theorem Tryp.func146:Tryp.F 146 Tryz.f146:=Tryp.fn
@[simp] theorem Tryp.call146:Tryp.C 146:=Tryp.cl 146
theorem Tryp.func147:Tryp.F 147 Tryz.f147:=Tryp.fn
@[simp] theorem Tryp.call147:Tryp.C 147:=Tryp.cl 147
theorem Tryp.func149:Tryp.F 149 Tryz.f149:=Tryp.fn
theorem Tryp.func150:Tryp.F 150 Tryz.f150:=Tryp.fn
@[simp] theorem Tryp.call150:Tryp.C 150:=Tryp.cl 150
theorem Tryp.func151:Tryp.F 151 Tryz.f151:=Tryp.fn
@[simp] theorem Tryp.call151:Tryp.C 151:=Tryp.cl 151
theorem Tryp.func152:Tryp.F 152 Tryz.f152:=Tryp.fn
@[simp] theorem Tryp.call152:Tryp.C 152:=Tryp.cl 152
theorem Tryp.func153:Tryp.F 153 Tryz.f153:=Tryp.fn
@[simp] theorem Tryp.call153:Tryp.C 153:=Tryp.cl 153
theorem Tryp.func154:Tryp.F 154 Tryz.f154:=Tryp.fn
@[simp] theorem Tryp.call154:Tryp.C 154:=Tryp.cl 154
theorem Tryp.func155:Tryp.F 155 Tryz.f155:=Tryp.fn
@[simp] theorem Tryp.call155:Tryp.C 155:=Tryp.cl 155
theorem Tryp.func156:Tryp.F 156 Tryz.f156:=Tryp.fn
@[simp] theorem Tryp.call156:Tryp.C 156:=Tryp.cl 156
theorem Tryp.func157:Tryp.F 157 Tryz.f157:=Tryp.fn
@[simp] theorem Tryp.call157:Tryp.C 157:=Tryp.cl 157
theorem Tryp.func160:Tryp.F 160 Tryz.f160:=Tryp.fn
@[simp] theorem Tryp.call160:Tryp.C 160:=Tryp.cl 160
theorem Tryp.func161:Tryp.F 161 Tryz.f161:=Tryp.fn
@[simp] theorem Tryp.call161:Tryp.C 161:=Tryp.cl 161
theorem Tryp.func162:Tryp.F 162 Tryz.f162:=Tryp.fn
@[simp] theorem Tryp.call162:Tryp.C 162:=Tryp.cl 162
theorem Tryp.func163:Tryp.F 163 Tryz.f163:=Tryp.fn
@[simp] theorem Tryp.call163:Tryp.C 163:=Tryp.cl 163
theorem Tryp.func164:Tryp.F 164 Tryz.f164:=Tryp.fn
@[simp] theorem Tryp.call164:Tryp.C 164:=Tryp.cl 164
theorem Tryp.func165:Tryp.F 165 Tryz.f165:=Tryp.fn
theorem Tryp.func188:Tryp.F 188 Tryz.f188:=Tryp.fn
@[simp] theorem Tryp.call188:Tryp.C 188:=Tryp.cl 188
theorem Tryp.func197:Tryp.F 197 Tryz.f197:=Tryp.fn
@[simp] theorem Tryp.call197:Tryp.C 197:=Tryp.cl 197
theorem Tryp.func198:Tryp.F 198 Tryz.f198:=Tryp.fn
@[simp] theorem Tryp.call198:Tryp.C 198:=Tryp.cl 198
theorem Tryp.func199:Tryp.F 199 Tryz.f199:=Tryp.fn
@[simp] theorem Tryp.call199:Tryp.C 199:=Tryp.cl 199
end Go.Proofs
end
section
namespace Go.Proofs.YtidgnkmjgioapaaGreat
open Go.RowKit
theorem qh{w:q3g}{b:Nat}{cs:Array q58}{e:q8u}{o:Nat}{v:q58}(h:w.heap[b]?=some (.cells cs e (0,0))) :
  (w.setCell ⟨b,o,none⟩ v).heap[b]?=some (.cells (cs.setIfInBounds o v) e (0,0)):=by
 simp[qci,Array.getElem?_modify,h]
theorem qg(w:q3g)(b o:Nat)(v:q58):w.grownBy (w.setCell ⟨b,o,none⟩ v) (some b) :=
 ⟨rfl,rfl,rfl,by simp[qci],λk _ hk=>qbi _ _ _ _ (λe=>hk (by rw[e]))⟩
theorem qi(w:q3g)(n:Nat)(row:Option Nat):w.grownBy (w.drewN n) row:=⟨rfl,rfl,rfl,q5m _,λ_ _ _=>rfl⟩
theorem qc(w:q3g)(row:Option Nat):w.grownBy w.drew row:=⟨rfl,rfl,rfl,q5m _,λ_ _ _=>rfl⟩
theorem blk{w w':q3g}{row:Option Nat}{X:Nat}{o:Obj}(hg:w.grownBy w' row)(hne:some X≠row)(h:w.heap[X]?=some o):w'.heap[X]?=some o :=
 (hg.block X (q45.1 h).1 hne).trans h
theorem qp{w:q3g}{X:Nat}{o p:Obj}(h:w.heap[X]?=some o):(w.alloc p).heap[X]?=some o:=blk (q34 w p none) (by simp) h
theorem qa{w:q3g}{Q o ty:Nat}{cs:Array q58}{fr:Nat × Nat}{v:q58}(h:w.heap[Q]?=some (.cells cs ty fr))(hv:cs[o]?=some v):w.cell? ⟨Q,o,none⟩=some v:=by simp[qal,h,hv]
theorem qn{w:q3g}{Q o ty:Nat}{cs:Array q58}(h:w.heap[Q]?=some (.cells cs ty (0,0))):w.frozen? ⟨Q,o,none⟩=false:=by simp[World.frozen?,h]
theorem jf(w:q3g)(cs:Array q58)(ty:q8u)(k:Nat):(w.alloc (.cells cs ty)).cell? ⟨w.heap.size,k,none⟩=cs[k]?:=by
 unfold qal;rw[show(w.alloc (.cells cs ty)).heap[(⟨w.heap.size,k,none⟩:qb9).block]?=some (.cells cs ty) from q7j w _];simp
def qe(lo hi:Nat)(w:q3g)(v:q58)(l:List Int):Prop :=
 ∃base cap,v=.slice base l.length cap/\(l.length:Int)<=1000000 /\
  (l≠[]->∃B o cs fr,base=some ⟨B,o,none⟩/\lo<=B/\B<hi/\w.heap[B]?=some (.cells cs 3 fr)/\∀i,i<l.length->cs[o+i]?=some (.int .i64 (l[i]?.getD 0)))
theorem qe.nil(lo hi:Nat)(w:q3g):qe lo hi w (.slice none 0 0) []:=⟨none,0,rfl,by decide,λh=>absurd rfl h⟩
theorem qe.mono{lo hi lo' Z:Nat}{w:q3g}{v:q58}{l:List Int}(h:qe lo hi w v l)(h1:lo'<=lo)(h2:hi<=Z):qe lo' Z w v l:=by
 obtain⟨base,cap,rfl,hl,hr⟩:=h;refine⟨base,cap,rfl,hl,λhne=>?_⟩;obtain⟨B,o,cs,fr,e1,e2,e3,e4,e5⟩:=hr hne;exact⟨B,o,cs,fr,e1,by omega,by omega,e4,e5⟩
theorem qe.kept{lo hi:Nat}{w w':q3g}{v:q58}{l:List Int}{row:Option Nat}(h:qe lo hi w v l)(hg:w.grownBy w' row)(hr:∀R,row=some R->R<lo\/hi<=R):qe lo hi w' v l:=by
 obtain⟨base,cap,rfl,hl,hr'⟩:=h;refine⟨base,cap,rfl,hl,λhne=>?_⟩;obtain⟨B,o,cs,fr,e1,e2,e3,e4,e5⟩:=hr' hne;exact⟨B,o,cs,fr,e1,e2,e3,blk hg (λe=>by have:=hr B e.symm;omega) e4,e5⟩
theorem qe.alloc{lo hi:Nat}{w:q3g}{v:q58}{l:List Int}(h:qe lo hi w v l)(o:Obj):qe lo hi (w.alloc o) v l:=h.kept (q34 w o none) (by simp)
theorem qe.own{lo n:Nat}{w:q3g}{v:q58}{l:List Int}(h:w.ownsRow lo 3 1 v n (l.map (q9q .i64)))(hl:(l.length:Int)<=1000000):qe lo w.heap.size w v l:=by
 obtain⟨h1,h2⟩:=h;have hn:l.length=n:=by simpa using h1
 subst hn;rcases h2 with⟨rfl,h0⟩ | ⟨g,cap,cur,rfl,hb,hg,hc,hm,hs,ht⟩
 ·exact⟨none,0,by rw[h0],hl,λhne=>absurd (qbo h0) hne⟩
 ·refine⟨_,cap,rfl,hl,λ_=>⟨g,0,cur,(0,0),rfl,hb,(q45.1 hg).1,hg,λi hi=>?_⟩⟩
  have h3:(cur.toList.take (l.length*1))[i]?=some (.int .i64 (l[i]?.getD 0)):=by
   rw[ht];simp[q7C hi]
  rw[List.getElem?_take] at h3;simpa[hi] using h3
theorem qe.cell{lo hi:Nat}{w:q3g}{v:q58}{l:List Int}(h:qe lo hi w v l):∃base cap,v=.slice base l.length cap/\(l.length:Int)<=1000000 /\
  (l≠[]->∃B o,base=some ⟨B,o,none⟩/\lo<=B/\B<hi/\B<w.heap.size/\∀i,i<l.length->w.cell? ⟨B,o+i,none⟩=some (.int .i64 (l[i]?.getD 0))):=by
 obtain⟨base,cap,rfl,hl,hr'⟩:=h;refine⟨base,cap,rfl,hl,λhne=>?_⟩;obtain⟨B,o,cs,fr,e1,e2,e3,e4,e5⟩:=hr' hne;exact⟨B,o,e1,e2,e3,(q45.1 e4).1,λi hi=>by simp[qal,e4,e5 i hi]⟩
def qE(g:Nat->Int):Obj:=.cells #[.int .i64 (g 0),.int .i64 (g 1),.int .i64 (g 2),.int .i64 (g 3),.int .i64 (g 4)] 101 (0,0)
theorem xO{w:q3g}{A:Nat}{g:Nat->Int}{e:Nat}{v:Int}(h:w.heap[A]?=some (qE g))(he:e<5):(w.setCell ⟨A,e,none⟩ (.int .i64 v)).heap[A]?=some (qE λd=>if d=e then v else g d):=by
 unfold qE at h ⊢;rw[qh h];obtain rfl | rfl | rfl | rfl | rfl:e=0\/e=1\/e=2\/e=3\/e=4:=by omega
 all_goals simp
theorem ql{w:q3g}{A:Nat}{g:Nat->Int}{e:Nat}(h:w.heap[A]?=some (qE g))(he:e<5):w.cell? ⟨A,e,none⟩=some (.int .i64 (g e)):=by
 unfold qE at h;obtain rfl | rfl | rfl | rfl | rfl:e=0\/e=1\/e=2\/e=3\/e=4:=by omega
 all_goals simp[qal,h]
theorem jm{w:q3g}{A:Nat}{g:Nat->Int}(h:w.heap[A]?=some (qE g))(e:Nat):w.frozen? ⟨A,e,none⟩=false:=by
 unfold qE at h;simp[World.frozen?,h]
theorem yu{g g':Nat->Int}(h:∀d,d<5->g d=g' d):qE g=qE g':=by
 unfold qE;rw[h 0 (by omega),h 1 (by omega),h 2 (by omega),h 3 (by omega),h 4 (by omega)]
structure Par where
 mn:Int
 mx:Int
 bears:Int
 tall:Int
deriving DecidableEq
def qr(lo hi:Nat)(w:q3g)(v:q58)(ps:List Par):Prop :=
 ∃base cap,v=.slice base ps.length cap/\(ps.length:Int)<=1000000 /\
  (ps≠[]->∃B o cs fr,base=some ⟨B,o,none⟩/\lo<=B/\B<hi/\w.heap[B]?=some (.cells cs 28 fr) /\
   ∀i,i<ps.length->∃p,ps[i]?=some p/\cs[o+i*4]?=some (.int .i64 p.mn)/\cs[o+(i*4+1)]?=some (.int .i64 p.mx)/\cs[o+(i*4+2)]?=some (.int .i64 p.bears)/\cs[o+(i*4+3)]?=some (.int .i64 p.tall))
theorem qr.kept{lo hi:Nat}{w w':q3g}{v:q58}{ps:List Par}{row:Option Nat}(h:qr lo hi w v ps)(hg:w.grownBy w' row)(hr:∀R,row=some R->R<lo\/hi<=R):qr lo hi w' v ps:=by
 obtain⟨base,cap,rfl,hl,hr'⟩:=h;refine⟨base,cap,rfl,hl,λhne=>?_⟩;obtain⟨B,o,cs,fr,e1,e2,e3,e4,e5⟩:=hr' hne;exact⟨B,o,cs,fr,e1,e2,e3,blk hg (λe=>by have:=hr B e.symm;omega) e4,e5⟩
theorem qr.alloc{lo hi:Nat}{w:q3g}{v:q58}{ps:List Par}(h:qr lo hi w v ps)(o:Obj):qr lo hi (w.alloc o) v ps:=h.kept (q34 w o none) (by simp)
theorem qr.mono{lo hi lo' Z:Nat}{w:q3g}{v:q58}{ps:List Par}(h:qr lo hi w v ps)(h1:lo'<=lo)(h2:hi<=Z):qr lo' Z w v ps:=by
 obtain⟨base,cap,rfl,hl,hr⟩:=h;refine⟨base,cap,rfl,hl,λhne=>?_⟩;obtain⟨B,o,cs,fr,e1,e2,e3,e4,e5⟩:=hr hne;exact⟨B,o,cs,fr,e1,by omega,by omega,e4,e5⟩
theorem qr.cell{lo hi:Nat}{w:q3g}{v:q58}{ps:List Par}(h:qr lo hi w v ps):∃base cap,v=.slice base ps.length cap/\(ps.length:Int)<=1000000 /\
  (ps≠[]->∃B o,base=some ⟨B,o,none⟩/\lo<=B/\B<hi/\B<w.heap.size/\∀i,i<ps.length->∃p,ps[i]?=some p/\w.cell? ⟨B,o+i*4,none⟩=some (.int .i64 p.mn)/\w.cell? ⟨B,o+i*4+1,none⟩=some (.int .i64 p.mx)/\w.cell? ⟨B,o+i*4+2,none⟩=some (.int .i64 p.bears)/\w.cell? ⟨B,o+i*4+3,none⟩=some (.int .i64 p.tall)):=by
 obtain⟨base,cap,rfl,hl,hr'⟩:=h;refine⟨base,cap,rfl,hl,λhne=>?_⟩;obtain⟨B,o,cs,fr,e1,e2,e3,e4,e5⟩:=hr' hne;refine⟨B,o,e1,e2,e3,(q45.1 e4).1,λi hi=>?_⟩;obtain⟨p,h0,h1,h2,h3,h4⟩:=e5 i hi;exact⟨p,h0,by simp[qal,e4,h1],by simp[qal,e4,Nat.add_assoc,h2],by simp[qal,e4,Nat.add_assoc,h3],by simp[qal,e4,Nat.add_assoc,h4]⟩
def jg(lo hi:Nat)(w:q3g)(v:q58)(ps:List Par)(lim:Int):Prop:=∃pv,v=.agg #[pv,.int .i64 lim]/\qr lo hi w pv ps
def wts(g:Nat->Int):q58:=.agg #[.int .i64 (g 0),.int .i64 (g 1),.int .i64 (g 2),.int .i64 (g 3),.int .i64 (g 4)]
def ZE(l:List Int):Int:=l.foldl (·+·) 0
theorem KC(l:List Int)(k:Nat)(x:Int)(h:l[k]?=some x):ZE (l.take (k+1))=ZE (l.take k)+x:=by
 rw[qbc,h];simp[ZE]
theorem sum_any(lo hi:Nat)(v:q58)(l:List Int)(w:q3g)(hI:qe lo hi w v l)(hs:∀k,k<=l.length->-1000000000<=ZE (l.take k)/\ZE (l.take k)<=1000000000) :
  qaD Tryp.prog 145 #[v] w λe w'=>e=.returned (.int .i64 (ZE l))/\w=w':=by
 obtain⟨base,cap,rfl,hl,hc⟩:=hI.cell;have HC:=q1D hc;have HS:=q1D hs;clear hc hs hI;go_enter Tryp.func145,Tryz.ntmps145;go_wp2;go_loopw [3,8] (λa i wr=>∃k:Nat,i=.int .i64 k/\k<=l.length/\a=.int .i64 (ZE (l.take k))/\w=wr) (λ_ i _=>(l.length - qb2 i).toNat)
 case atStart=>exact⟨0,rfl,by omega,by simp[ZE],rfl⟩
 case round =>
  obtain⟨k,rfl,hk,rfl,rfl⟩:=hrel;by_cases hlt:k<l.length
  ·obtain⟨B,o,rfl,a9,a8,a7,Z⟩:=HC.out (by intro e;rw[e] at hlt;simp at hlt)
   have hk':=Z k hlt;have h1:=HS.out k (by omega);have h2:=HS.out (k+1) (by omega);have hx:l[k]?=some (l[k]?.getD 0):=by simp[q7C hlt]
   rw[KC l k _ hx] at h2;have hst:=KC l k _ hx;generalize l[k]?.getD 0=x at hk' h2 hst;generalize ZE (l.take k)=s at h1 h2 hst;have a6:=q1D hst;clear Z hx hst;go_wp2;go_roundw
   case rel=>exact⟨k+1,by simp,by omega,by rw[a6.out],by first | rfl | trivial⟩
   case measure=>simp[qb2];omega
  ·obtain rfl:k=l.length:=by omega
   go_wp2;go_ret;exact⟨by simp,rfl⟩
def pre(f:Par->Int)(ps:List Par)(k:Nat):Nat->Int:=λi=>if i<k then(match ps[i]? with | some p=>f p | none=>0) else 0
theorem q2t(f:Par->Int)(ps:List Par)(k:Nat)(p:Par)(h:ps[k]?=some p)(d:Nat):pre f ps (k+1) d=if d=k then f p else pre f ps k d:=by
 unfold pre;by_cases e:d=k
 ·subst e;simp[h]
 ·by_cases e2:d<k
  ·rw[if_pos (by omega),if_neg e,if_pos e2]
  ·rw[if_neg (by omega),if_neg e,if_neg e2]
theorem Qj(lo hi:Nat)(v:q58)(ps:List Par)(lim:Int)(w:q3g)(hY:jg lo hi w v ps lim)(hhi:hi<=w.heap.size)(h5:ps.length<=5) :
  qaD Tryp.prog 93 #[v] w λe w'=>e=.returned (wts (pre Par.mn ps ps.length))/\w.grownBy w' none:=by
 obtain⟨pv,rfl,hP⟩:=hY;obtain⟨base,cap,rfl,hl,-⟩:=hP.cell;obtain⟨A,hA⟩:∃A,A=w.heap.size:=⟨_,rfl⟩
 have HP:=q1D hP;clear hP;go_enter Tryp.func93,Tryz.ntmps93;go_upto_region 2 with(fail)
 have hG:w.grownBy (((w.alloc (.cells #[.slice base ps.length cap,.int .i64 lim] 91)).alloc (qE λ_=>0)).alloc (qE λ_=>0)) none:=((q34 _ _ none).trans (q34 _ _ none)).trans (q34 _ _ none);have hY:(((w.alloc (.cells #[.slice base ps.length cap,.int .i64 lim] 91)).alloc (qE λ_=>0)).alloc (qE λ_=>0)).cell? ⟨A,0,none⟩=some (.slice base ps.length cap):=qa (qp (qp (by rw[hA];exact q7j w _))) rfl;have hR:(((w.alloc (.cells #[.slice base ps.length cap,.int .i64 lim] 91)).alloc (qE λ_=>0)).alloc (qE λ_=>0)).heap[A+1]?=some (qE λ_=>0):=qp (by
  have:=q7j (w.alloc (.cells #[.slice base ps.length cap,.int .i64 lim] 91)) (qE λ_=>0);rw[q8f,<- hA] at this;exact this)
 have hW:(((w.alloc (.cells #[.slice base ps.length cap,.int .i64 lim] 91)).alloc (qE λ_=>0)).alloc (qE λ_=>0)).heap[A+2]?=some (qE λ_=>0):=by
  have:=q7j ((w.alloc (.cells #[.slice base ps.length cap,.int .i64 lim] 91)).alloc (qE λ_=>0)) (qE λ_=>0);rw[q8f,q8f,<- hA] at this;exact this
 rw[<- hA];show Code.wp _ _ _ _ (((w.alloc (.cells #[.slice base ps.length cap,.int .i64 lim] 91)).alloc (qE λ_=>0)).alloc (qE λ_=>0));have b9:A+2<(((w.alloc (.cells #[.slice base ps.length cap,.int .i64 lim] 91)).alloc (qE λ_=>0)).alloc (qE λ_=>0)).heap.size:=(q45.1 hW).1;generalize (((w.alloc (.cells #[.slice base ps.length cap,.int .i64 lim] 91)).alloc (qE λ_=>0)).alloc (qE λ_=>0))=w1 at hG hY hR hW b9 ⊢;have e6:hi<=A:=by omega
 obtain⟨D,hD⟩:∃D,D=A+2:=⟨_,rfl⟩
 obtain⟨R,a7⟩:∃R,R=A+1:=⟨_,rfl⟩
 rw[show A+1+1=A+2 from rfl,<- hD,<- a7];rw[<- hD] at hW b9;rw[<- a7] at hR;have e4:=q1D (HP.out.kept hG (by simp));have HG:=q1D hG;have HR:=q1D hR;have HW:=q1D hW;have hne:¬ R=D:=by omega
 have g8:¬ A=D:=by omega
 have g7:A<=R/\A<=D:=by omega
 have HA:=q1D hA;have b7:hi<=D:=by omega
 clear hG hR hW hA HP hD a7;go_wp2;go_loopw [10] (λi wr=>∃k:Nat,i=.int .i64 k/\k<=ps.length/\w1.grownBy wr (some D)/\wr.heap[D]?=some (qE (pre Par.mn ps k))) (λi _=>(ps.length - qb2 i).toNat)
 case atStart=>exact⟨0,rfl,by omega,q8j _ _,by rw[HW.out];congr 1⟩
 case round =>
  obtain⟨k,rfl,hk,hG,hB⟩:=hrel;have e8:D<wr.heap.size:=(q45.1 hB).1;have a8:=e4.out.kept hG (by rintro R e;cases e;exact .inr b7);have e7:=hG.cell hY (by simp;omega);have c3:=q1D hG;have HB:=q1D hB;by_cases hlt:k<ps.length
  ·obtain⟨d5,cap',he,-,hcell⟩:=a8.cell
   cases he;obtain⟨B,o,rfl,g6,g5,e9,b8⟩:=hcell (by intro e;rw[e] at hlt;simp at hlt);obtain⟨p,hp,q0,q1,q2,q3⟩:=b8 k hlt;have c9:=ql hB (show k<5 by omega);have g9:=jm hB k;have d9:=q1D hp;have c8:k<5:=by omega
   generalize pre Par.mn ps k k=y at c9;clear b8 hcell a8 hG hB hp;go_wp2;go_roundw
   case rel =>
    refine⟨k+1,by simp,by omega,(c3.out.trans (qg _ _ _ _)).trans (q34 _ _ _),?_⟩;rw[qp (xO HB.out c8)]
    congr 1
    exact yu λd _=>(q2t _ _ _ _ d9.out d).symm
   case measure=>simp[qb2];omega
  ·obtain rfl:k=ps.length:=by omega
   have Z:=blk hG (by simp;omega) HR.out;have a0:=ql hB (show 0<5 by omega);have a1:=ql hB (show 1<5 by omega);have a2:=ql hB (show 2<5 by omega);have a3:=ql hB (show 3<5 by omega);have a4:=ql hB (show 4<5 by omega);have b0:=ql Z (show 0<5 by omega);have b1:=ql Z (show 1<5 by omega);have b2:=ql Z (show 2<5 by omega);have b3:=ql Z (show 3<5 by omega);have b4:=ql Z (show 4<5 by omega);have fz:=jm Z;have h8:=q1D Z;have d7:=q1D (show wts (pre Par.mn ps ps.length)=.agg #[.int .i64 (pre Par.mn ps ps.length 0),.int .i64 (pre Par.mn ps ps.length 1),.int .i64 (pre Par.mn ps ps.length 2),.int .i64 (pre Par.mn ps ps.length 3),.int .i64 (pre Par.mn ps ps.length 4)] from rfl);generalize pre Par.mn ps ps.length 0=g0 at *
   generalize pre Par.mn ps ps.length 1=g1 at *
   generalize pre Par.mn ps ps.length 2=g2 at *
   generalize pre Par.mn ps ps.length 3=g3 at *
   generalize pre Par.mn ps ps.length 4=g4 at *
   obtain⟨W,a6⟩:∃W,W=((((wr.setCell ⟨R,0,none⟩ (.int .i64 g0)).setCell ⟨R,1,none⟩ (.int .i64 g1)).setCell ⟨R,2,none⟩ (.int .i64 g2)).setCell ⟨R,3,none⟩ (.int .i64 g3)).setCell ⟨R,4,none⟩ (.int .i64 g4):=⟨_,rfl⟩
   have a9:W.heap[R]?=some (.cells #[.int .i64 g0,.int .i64 g1,.int .i64 g2,.int .i64 g3,.int .i64 g4] 101 (0,0)):=by
    rw[a6,qh (qh (qh (qh (qh Z))))];rfl
   have b6:w.grownBy W none:=(HG.out.andThen c3.out (by rintro j e;cases e;exact .inl (by have:=HA.out;omega))).andThen (row':=some R)
    (by rw[a6];exact((((qg _ _ _ _).trans (qg _ _ _ _)).trans (qg _ _ _ _)).trans (qg _ _ _ _)).trans (qg _ _ _ _)) (by rintro j e;cases e;exact .inl (by have:=HA.out;omega))
   have d8:=q1D a9;have e5:=q1D b6;have d6:=q1D a6;clear Z hG hB a8 hlt a9 b6 a6;go_wp2;rw[<- d6.out,d7.out];exact qcG (v:=.agg #[.int .i64 g0,.int .i64 g1,.int .i64 g2,.int .i64 g3,.int .i64 g4]) (by simp[results,Tryz.results93,go_sem,qal,d8.out]) rfl ⟨rfl,e5.out⟩
theorem xT(lo hi:Nat)(v:q58)(ps:List Par)(lim:Int)(w:q3g)(hY:jg lo hi w v ps lim)(hhi:hi<=w.heap.size)(h5:ps.length<=5) :
  qaD Tryp.prog 92 #[v] w λe w'=>e=.returned (wts (pre Par.mx ps ps.length))/\w.grownBy w' none:=by
 obtain⟨pv,rfl,hP⟩:=hY;obtain⟨base,cap,rfl,hl,-⟩:=hP.cell;obtain⟨A,hA⟩:∃A,A=w.heap.size:=⟨_,rfl⟩
 have HP:=q1D hP;clear hP;go_enter Tryp.func92,Tryz.ntmps92;go_upto_region 2 with(fail)
 have hG:w.grownBy (((w.alloc (.cells #[.slice base ps.length cap,.int .i64 lim] 91)).alloc (qE λ_=>0)).alloc (qE λ_=>0)) none:=((q34 _ _ none).trans (q34 _ _ none)).trans (q34 _ _ none);have hY:(((w.alloc (.cells #[.slice base ps.length cap,.int .i64 lim] 91)).alloc (qE λ_=>0)).alloc (qE λ_=>0)).cell? ⟨A,0,none⟩=some (.slice base ps.length cap):=qa (qp (qp (by rw[hA];exact q7j w _))) rfl;have hR:(((w.alloc (.cells #[.slice base ps.length cap,.int .i64 lim] 91)).alloc (qE λ_=>0)).alloc (qE λ_=>0)).heap[A+1]?=some (qE λ_=>0):=qp (by
  have:=q7j (w.alloc (.cells #[.slice base ps.length cap,.int .i64 lim] 91)) (qE λ_=>0);rw[q8f,<- hA] at this;exact this)
 have hW:(((w.alloc (.cells #[.slice base ps.length cap,.int .i64 lim] 91)).alloc (qE λ_=>0)).alloc (qE λ_=>0)).heap[A+2]?=some (qE λ_=>0):=by
  have:=q7j ((w.alloc (.cells #[.slice base ps.length cap,.int .i64 lim] 91)).alloc (qE λ_=>0)) (qE λ_=>0);rw[q8f,q8f,<- hA] at this;exact this
 rw[<- hA];show Code.wp _ _ _ _ (((w.alloc (.cells #[.slice base ps.length cap,.int .i64 lim] 91)).alloc (qE λ_=>0)).alloc (qE λ_=>0));have b9:A+2<(((w.alloc (.cells #[.slice base ps.length cap,.int .i64 lim] 91)).alloc (qE λ_=>0)).alloc (qE λ_=>0)).heap.size:=(q45.1 hW).1;generalize (((w.alloc (.cells #[.slice base ps.length cap,.int .i64 lim] 91)).alloc (qE λ_=>0)).alloc (qE λ_=>0))=w1 at hG hY hR hW b9 ⊢;have e6:hi<=A:=by omega
 obtain⟨D,hD⟩:∃D,D=A+2:=⟨_,rfl⟩
 obtain⟨R,a7⟩:∃R,R=A+1:=⟨_,rfl⟩
 rw[show A+1+1=A+2 from rfl,<- hD,<- a7];rw[<- hD] at hW b9;rw[<- a7] at hR;have e4:=q1D (HP.out.kept hG (by simp));have HG:=q1D hG;have HR:=q1D hR;have HW:=q1D hW;have hne:¬ R=D:=by omega
 have g8:¬ A=D:=by omega
 have g7:A<=R/\A<=D:=by omega
 have HA:=q1D hA;have b7:hi<=D:=by omega
 clear hG hR hW hA HP hD a7;go_wp2;go_loopw [10] (λi wr=>∃k:Nat,i=.int .i64 k/\k<=ps.length/\w1.grownBy wr (some D)/\wr.heap[D]?=some (qE (pre Par.mx ps k))) (λi _=>(ps.length - qb2 i).toNat)
 case atStart=>exact⟨0,rfl,by omega,q8j _ _,by rw[HW.out];congr 1⟩
 case round =>
  obtain⟨k,rfl,hk,hG,hB⟩:=hrel;have e8:D<wr.heap.size:=(q45.1 hB).1;have a8:=e4.out.kept hG (by rintro R e;cases e;exact .inr b7);have e7:=hG.cell hY (by simp;omega);have c3:=q1D hG;have HB:=q1D hB;by_cases hlt:k<ps.length
  ·obtain⟨d5,cap',he,-,hcell⟩:=a8.cell
   cases he;obtain⟨B,o,rfl,g6,g5,e9,b8⟩:=hcell (by intro e;rw[e] at hlt;simp at hlt);obtain⟨p,hp,q0,q1,q2,q3⟩:=b8 k hlt;have c9:=ql hB (show k<5 by omega);have g9:=jm hB k;have d9:=q1D hp;have c8:k<5:=by omega
   generalize pre Par.mx ps k k=y at c9;clear b8 hcell a8 hG hB hp;go_wp2;go_roundw
   case rel =>
    refine⟨k+1,by simp,by omega,(c3.out.trans (qg _ _ _ _)).trans (q34 _ _ _),?_⟩;rw[qp (xO HB.out c8)]
    congr 1
    exact yu λd _=>(q2t _ _ _ _ d9.out d).symm
   case measure=>simp[qb2];omega
  ·obtain rfl:k=ps.length:=by omega
   have Z:=blk hG (by simp;omega) HR.out;have a0:=ql hB (show 0<5 by omega);have a1:=ql hB (show 1<5 by omega);have a2:=ql hB (show 2<5 by omega);have a3:=ql hB (show 3<5 by omega);have a4:=ql hB (show 4<5 by omega);have b0:=ql Z (show 0<5 by omega);have b1:=ql Z (show 1<5 by omega);have b2:=ql Z (show 2<5 by omega);have b3:=ql Z (show 3<5 by omega);have b4:=ql Z (show 4<5 by omega);have fz:=jm Z;have h8:=q1D Z;have d7:=q1D (show wts (pre Par.mx ps ps.length)=.agg #[.int .i64 (pre Par.mx ps ps.length 0),.int .i64 (pre Par.mx ps ps.length 1),.int .i64 (pre Par.mx ps ps.length 2),.int .i64 (pre Par.mx ps ps.length 3),.int .i64 (pre Par.mx ps ps.length 4)] from rfl);generalize pre Par.mx ps ps.length 0=g0 at *
   generalize pre Par.mx ps ps.length 1=g1 at *
   generalize pre Par.mx ps ps.length 2=g2 at *
   generalize pre Par.mx ps ps.length 3=g3 at *
   generalize pre Par.mx ps ps.length 4=g4 at *
   obtain⟨W,a6⟩:∃W,W=((((wr.setCell ⟨R,0,none⟩ (.int .i64 g0)).setCell ⟨R,1,none⟩ (.int .i64 g1)).setCell ⟨R,2,none⟩ (.int .i64 g2)).setCell ⟨R,3,none⟩ (.int .i64 g3)).setCell ⟨R,4,none⟩ (.int .i64 g4):=⟨_,rfl⟩
   have a9:W.heap[R]?=some (.cells #[.int .i64 g0,.int .i64 g1,.int .i64 g2,.int .i64 g3,.int .i64 g4] 101 (0,0)):=by
    rw[a6,qh (qh (qh (qh (qh Z))))];rfl
   have b6:w.grownBy W none:=(HG.out.andThen c3.out (by rintro j e;cases e;exact .inl (by have:=HA.out;omega))).andThen (row':=some R)
    (by rw[a6];exact((((qg _ _ _ _).trans (qg _ _ _ _)).trans (qg _ _ _ _)).trans (qg _ _ _ _)).trans (qg _ _ _ _)) (by rintro j e;cases e;exact .inl (by have:=HA.out;omega))
   have d8:=q1D a9;have e5:=q1D b6;have d6:=q1D a6;clear Z hG hB a8 hlt a9 b6 a6;go_wp2;rw[<- d6.out,d7.out];exact qcG (v:=.agg #[.int .i64 g0,.int .i64 g1,.int .i64 g2,.int .i64 g3,.int .i64 g4]) (by simp[results,Tryz.results92,go_sem,qal,d8.out]) rfl ⟨rfl,e5.out⟩
theorem q5b(p:Par)(load:Int)(w:q3g) :
  qaD Tryp.prog 160 #[.agg #[.int .i64 p.mn,.int .i64 p.mx,.int .i64 p.bears,.int .i64 p.tall],.int .i64 load] w λe w'=>e=.returned (if p.bears<load then .iface 170 (.agg #[]) else .iface 171 (.agg #[]))/\w.grownBy w' none:=by
 go_enter Tryp.func160,Tryz.ntmps160;by_cases h:p.bears<load
 ·go_wp2
  go_ret;exact⟨rfl,q34 _ _ _⟩
 ·go_wp2
  go_ret;exact⟨rfl,q34 _ _ _⟩
def tot:List Int->Int
 | []=>0
 | a::t=>tot t+a
def loadAt(g:Nat->Int)(l:List Int)(i:Nat):Int:=tot ((l.drop (i+1)).map λx=>g x.toNat)
theorem q38(g:Nat->Int)(l:List Int)(i:Nat)(h:l.length<=i+1):loadAt g l i=0:=by
 unfold loadAt;rw[qdf h];rfl
theorem q36(g:Nat->Int)(l:List Int)(i:Nat)(x:Int)(h:l[i+1]?=some x):loadAt g l i=loadAt g l (i+1)+g x.toNat:=by
 unfold loadAt;have hlt:=(q8w.1 h).1;rw[qcq hlt];have:l[i+1]=x:=(q8w.1 h).2;simp[tot,this]
theorem tot_le(l:List Int)(h:∀x∈l,0<=x/\x<=1000):0<=tot l/\tot l<=1000*l.length:=by
 induction l with
 | nil=>simp[tot]
 | cons a t ih =>
  have h1:=ih λx hx=>h x (by simp[hx]);have h2:=h a (by simp);simp only[tot,q8l];omega
theorem q08(g:Nat->Int)(l:List Int)(i:Nat)(hg:∀i,0<=g i/\g i<=1000)(hl:l.length<=1000):0<=loadAt g l i/\loadAt g l i<=1000000:=by
 have:=tot_le ((l.drop (i+1)).map λx=>g x.toNat) (by simp only[List.mem_map];rintro x ⟨y,-,rfl⟩;exact hg _);simp only[qcl,qer] at this;unfold loadAt;omega
def ldL(g:Nat->Int)(l:List Int):List Int:=(qa4 l.length).map (loadAt g l)
def kI(w:q3g)(O n:Nat)(f:Nat->Int):Prop:=∃cs,w.heap[O]?=some (.cells cs 3 (0,0))/\cs.size=n/\∀i,i<n->cs[i]?=some (.int .i64 (f i))
theorem kI.lt{w:q3g}{O n:Nat}{f:Nat->Int}(h:kI w O n f):O<w.heap.size:=by
 obtain⟨cs,h,-⟩:=h;exact(q45.1 h).1
theorem kI.cell{w:q3g}{O n i:Nat}{f:Nat->Int}(h:kI w O n f)(hi:i<n):w.cell? ⟨O,i,none⟩=some (.int .i64 (f i)):=by
 obtain⟨cs,h,-,hc⟩:=h;simp[qal,h,hc i hi]
theorem kI.thaw{w:q3g}{O n:Nat}{f:Nat->Int}(h:kI w O n f)(i:Nat):w.frozen? ⟨O,i,none⟩=false:=by
 obtain⟨cs,h,-⟩:=h;simp[World.frozen?,h]
theorem kI.congr{w:q3g}{O n:Nat}{f g:Nat->Int}(h:kI w O n f)(e:∀i,i<n->f i=g i):kI w O n g:=by
 obtain⟨cs,h,hs,hc⟩:=h;exact⟨cs,h,hs,λi hi=>by rw[hc i hi,e i hi]⟩
theorem kI.set{w:q3g}{O n i:Nat}{f:Nat->Int}{x:Int}(h:kI w O n f)(hi:i<n):kI (w.setCell ⟨O,i,none⟩ (.int .i64 x)) O n λj=>if j=i then x else f j:=by
 obtain⟨cs,h,hs,hc⟩:=h;refine⟨_,qh h,by simp[hs],λj hj=>?_⟩;by_cases e:j=i
 ·subst e
  simp[hs,hj]
 ·rw[qav,if_neg (by omega),hc j hj];show _=some (q9q .i64 (if j=i then x else f j));rw[if_neg e]
theorem kI.kept{w w':q3g}{O n:Nat}{f:Nat->Int}{row:Option Nat}(h:kI w O n f)(hg:w.grownBy w' row)(hne:some O≠row):kI w' O n f:=by
 obtain⟨cs,h,hs,hc⟩:=h;exact⟨cs,blk hg hne h,hs,hc⟩
theorem kI.made(w:q3g)(n:Nat):kI (w.alloc (.cells (madeCells #[.int .i64 0] n) 3)) w.heap.size n λ_=>0:=by
 refine⟨_,q7j w _,size_madeCells _ _,λi hi=>?_⟩;unfold madeCells;simp[hi,Nat.mod_one]
theorem kI.ints{w:q3g}{O n lo hi:Nat}{f:Nat->Int}{l:List Int}(h:kI w O n f)(h1:lo<=O)(h2:O<hi)(hl:l.length=n)(hn:n<=1000000)(hf:∀i,i<n->l[i]?=some (f i)):qe lo hi w (.slice (some ⟨O,0,none⟩) n n) l:=by
 obtain⟨cs,h,hs,hc⟩:=h;subst hl;exact⟨_,_,rfl,by omega,λ_=>⟨O,0,cs,_,rfl,h1,h2,h,λi hi=>by rw[q9m,hc i hi,hf i hi];rfl⟩⟩
theorem qe.laid(w:q3g)(l:List Int)(n:Nat)(hn:n=l.length)(hl:l.length<=1000)(fr:Nat × Nat:=(0,0))(hi:Nat:=w.heap.size+1)(hhi:w.heap.size<hi:=by omega) :
  qe w.heap.size hi (w.alloc (.cells (l.map (q9q .i64)).toArray 3 fr)) (.slice (some ⟨w.heap.size,0,none⟩) n n) l:=by
 subst hn;refine⟨_,_,rfl,by omega,λ_=>⟨w.heap.size,0,_,fr,rfl,q5m _,hhi,q7j w _,λi hi=>?_⟩⟩;simp[q7C hi]
theorem YA{w:q3g}{D n:Nat}{x v:q58}{o:Obj}{a:qb9}(h:w.cell? a=some v)(hne:a≠⟨D,n,none⟩):((w.setCell ⟨D,n,none⟩ x).alloc o).drew.cell? a=some v:=by
 have h1:(w.setCell ⟨D,n,none⟩ x).cell? a=some v:=by rw[qbG _ _ _ _ (Ne.symm hne)];exact h
 exact(qc _ none).cell ((q34 _ o none).cell h1 (by simp)) (by simp)
theorem sum2_bd{q r:Int}(h:0<=q/\q<=1000000)(h':0<=r/\r<=1000000):∀k,k<=[q,r].length->-1000000000<=ZE ([q,r].take k)/\ZE ([q,r].take k)<=1000000000:=by
 intro k hk;obtain rfl | rfl | rfl:k=0\/k=1\/k=2:=by simp at hk;omega
 all_goals simp[ZE]
 all_goals omega
theorem q2a(lo hi:Nat)(v:q58)(q r:Int)(w:q3g)(hI:qe lo hi w v [q,r])(h:0<=q/\q<=1000000)(h':0<=r/\r<=1000000) :
  qaD Tryp.prog 145 #[v] w λe w'=>e=.returned (.int .i64 (q+r))/\w=w':=by
 refine(sum_any lo hi v [q,r] w hI (sum2_bd h h')).mono ?_;rintro e w' ⟨rfl,rfl⟩;exact⟨by simp[ZE],rfl⟩
theorem Qi(lo hi:Nat)(yv pv:q58)(l:List Int)(g:Nat->Int)(w:q3g)(hI:qe lo hi w pv l)(hhi:hi<=w.heap.size)(hx:∀x∈l,0<=x/\x<5)(hl:l.length<=1000)(hg:∀i,0<=g i/\g i<=1000)
  (c3:∃a b,yv=.agg #[a,b]) :
  qaD Tryp.prog 91 #[yv,pv,wts g] w λe w'=>∃v',e=.returned v'/\w.grownBy w' none/\qe w.heap.size w'.heap.size w' v' (ldL g l):=by
 obtain⟨y1,y2,rfl⟩:=c3;obtain⟨base,cap,rfl,g5,hc⟩:=hI.cell;have a9:∀w,(Instr.makeSlice 29 (.int .i64 l.length) (.int .i64 l.length)).run Tryp.prog w=.ok (.slice (some ⟨w.heap.size,0,none⟩) l.length l.length) (w.alloc (.cells (madeCells #[.int .i64 0] l.length) 3)):=λw=>by
  have:=run_make (P:=Tryp.prog) w 29 3 Tryz.t3 (.int .i64 0) (by rw[Tryp.und];exact Tryz.underlying29) (by rw[q1z _ _ Tryp.tables];exact Tryz.type3) rfl .i64 .i64 l.length l.length (by omega) (by omega) (by simp[Tryz.t3];omega) (by omega);simpa[Value.cells,Tryz.t3] using this
 have b7:=q1D a9;unfold wts;go_enter Tryp.func91,Tryz.ntmps91;go_upto_region 3 with(first | rw[b7.out])
 obtain⟨A,hA⟩:∃A,A=w.heap.size:=⟨_,rfl⟩
 have hG:w.grownBy (((w.alloc (.cells #[y1,y2] 91)).alloc (qE g)).alloc (.cells (madeCells #[.int .i64 0] l.length) 3)) none:=((q34 _ _ none).trans (q34 _ _ none)).trans (q34 _ _ none);have hW:(((w.alloc (.cells #[y1,y2] 91)).alloc (qE g)).alloc (.cells (madeCells #[.int .i64 0] l.length) 3)).heap[A+1]?=some (qE g):=qp (by
  have:=q7j (w.alloc (.cells #[y1,y2] 91)) (qE g);rw[q8f,<- hA] at this;exact this)
 have hR:kI (((w.alloc (.cells #[y1,y2] 91)).alloc (qE g)).alloc (.cells (madeCells #[.int .i64 0] l.length) 3)) (A+2) l.length λ_=>0:=by
  have:=kI.made ((w.alloc (.cells #[y1,y2] 91)).alloc (qE g)) l.length;rw[q8f,q8f,<- hA] at this;exact this
 rw[<- hA];show Code.wp _ _ _ _ (((w.alloc (.cells #[y1,y2] 91)).alloc (qE g)).alloc (.cells (madeCells #[.int .i64 0] l.length) 3));generalize ((w.alloc (.cells #[y1,y2] 91)).alloc (qE g)).alloc (.cells (madeCells #[.int .i64 0] l.length) 3)=w1 at hG hW hR ⊢;obtain⟨D,hD⟩:∃D,D=A+2:=⟨_,rfl⟩
 obtain⟨V,hV⟩:∃V,V=A+1:=⟨_,rfl⟩
 rw[show A+1+1=A+2 from rfl,<- hD,<- hV];rw[<- hD] at hR;rw[<- hV] at hW;have e5:=q1D (hI.kept hG (by simp));have HG:=q1D hG;have HW:=q1D hW;have HR:=q1D hR;have HA:=q1D hA;have HX:=q1D hx;have b9:=q1D hg;have d7:¬ V=D:=by omega
 have c9:hi<=D/\A<=D:=by omega
 clear hG hW hR hA hD hV hc hI hx hg b7 a9;go_wp2;go_loopw [8] (λi wr=>∃k:Int,i=.int .i64 k/\-2<=k/\k<l.length/\(0<=k->k+1<l.length)/\w1.grownBy wr (some D)/\kI wr D l.length λj=>if k<(j:Int) then loadAt g l j else 0) (λi _=>(qb2 i+1).toNat)
 case atStart =>
  refine⟨(l.length:Int) - 2,rfl,by omega,by omega,by omega,q8j _ _,HR.out.congr λi hi=>?_⟩;by_cases e:(l.length:Int) - 2<i
  ·rw[if_pos e,q38 g l i (by omega)]
  ·rw[if_neg e]
 case round =>
  obtain⟨k,rfl,g8,g7,g6,hG,hB⟩:=hrel;by_cases hlt:0<=k
  ·obtain⟨n,rfl⟩:∃n:Nat,k=n:=⟨k.toNat,by omega⟩
   have hn:n+1<l.length:=by omega
   have b8:=e5.out.kept hG (by rintro R e;cases e;exact .inr c9.1);obtain⟨d9,cap',he,-,hcell⟩:=b8.cell;cases he;obtain⟨B,o,rfl,k5,k0,h9,b6⟩:=hcell (by intro e;rw[e] at hn;simp at hn);have hp:=b6 (n+1) hn;obtain⟨x,hx⟩:∃x,l[n+1]?=some x:=⟨_,q7C hn⟩
   obtain⟨e8,e7⟩:=HX.out x (q8z hx);rw[hx] at hp;simp only[q88] at hp;obtain⟨m,rfl⟩:∃m:Nat,x=m:=⟨x.toNat,by omega⟩
   have c8:m<5:=by omega
   have a7:=blk hG (by simp;omega) HW.out;have b0:=ql a7 c8;have a6:=hB.cell (i:=n+1) hn;have hst:=q36 g l n m hx;rw[if_pos (by omega)] at a6;have hb1:=q08 g l (n+1) b9.out hl;have d6:=b9.out m;simp only[Int.toNat_natCast] at hst;have d5:=hB.cell (i:=n) (by omega);have fz:=hB.thaw n;have h8:=hB.lt;have d8:¬ B=D:=by omega
   have g9:V<wr.heap.size:=(q45.1 a7).1;generalize loadAt g l (n+1)=q at a6 hst hb1;generalize g m=r at b0 hst d6;have e4:=q1D hst;have a8:=q1D hG;have HB:=q1D hB;generalize (if(n:Int)<(n:Int) then loadAt g l n else 0)=z at d5;clear hG hB a7 b6 hcell b8 hx hst;have hni:(n:Int)+1<(l.length:Int):=by omega
   have e6:0<=(n:Int)+1:=by omega
   have e9:IntKind.i64.wrap ((n:Int)+1)=(n:Int)+1:=qa7 _ (by omega);have hnt:((n:Int)+1).toNat=n+1:=by omega
   have Z:=q1D (q8D a6 (q8D hp b0));go_upto_region 5 with(fail)
   go_region_held3 (λw'=>w'.cell? ⟨D,n+1,none⟩=some (.int .i64 q)/\w'.cell? ⟨B,o+(n+1),none⟩=some (.int .i64 m)/\w'.cell? ⟨V,m,none⟩=some (.int .i64 r))
    (first | exact Z.out | exact⟨YA Z.out.1 (by simp),YA Z.out.2.1 (λe=>d8 (congrArg Addr.block e)),YA Z.out.2.2 (λe=>d7 (congrArg Addr.block e))⟩ | go_keep)
    (first
     | (go_at_call 145;refine(q2a _ _ _ q r _ (by exact qe.laid _ [q,r] 2 rfl (by simp)) (by omega) (by omega)).mono ?_;rintro e w2 ⟨rfl,rfl⟩))
   go_wp2;go_roundw
   case rel =>
    refine⟨(n:Int) - 1,rfl,by omega,by omega,by omega,((a8.out.trans (qg _ _ _ _)).trans (q34 _ _ _)).trans (qc _ _),?_⟩;refine((HB.out.set (i:=n) (x:=q+r) (by omega)).kept ((q34 _ _ none).trans (qc _ _)) (by simp)).congr λj hj=>?_;have hst:=e4.out;show(if j=n then q+r else if(n:Int)<(j:Int) then loadAt g l j else 0)=if(n:Int) - 1<(j:Int) then loadAt g l j else 0;by_cases e:j=n
    ·subst e
     rw[if_pos rfl,if_pos (by omega),hst]
    ·by_cases e2:(n:Int)<j
     ·rw[if_neg e,if_pos e2,if_pos (by omega)]
     ·rw[if_neg e,if_neg e2,if_neg (by omega)]
   case measure=>simp[qb2]
  ·have a8:=q1D hG
   have HB:=q1D hB;clear hG hB;go_wp2;go_ret;have hD:=HA.out;refine⟨_,rfl,HG.out.andThen a8.out (by rintro j e;cases e;exact .inl (by omega)),HB.out.ints (by omega) HB.out.lt (by simp[ldL]) (by omega) λi hi=>?_⟩;rw[if_pos (by omega)];simp[ldL,hi]
theorem zV{w:q3g}{base size n:Nat}{e:q8u}{v:q58}{xs:List q58}(h:w.ownsRow base e size v n xs):∃a m c,v=.slice a m c:=by
 rcases h.2 with⟨rfl,_⟩ | ⟨g,cap,cur,rfl,_⟩<;>exact⟨_,_,_,rfl⟩
theorem Tryp.info141p:(Tryp.prog.info? 141).map (λi=>(i.zero,i.size,i.bytes))=some (some .nilIface,1,16):=by kernel_rfl
theorem Tryp.und138:Tryp.prog.underlying 138=some (.slice 141):=by rw[Tryp.und];exact Tryz.underlying138
theorem yY(g:Nat->Int)(l:List Int):(ldL g l).length=l.length:=by simp[ldL]
theorem JE(g:Nat->Int)(l:List Int)(i:Nat)(h:i<l.length):(ldL g l)[i]?.getD 0=loadAt g l i:=by simp[ldL,h]
def YJ(p:Par)(load:Int):q8u:=if p.bears<load then 170 else 171
theorem qaa(p:Par)(load:Int):(if p.bears<load then Value.iface 170 (.agg #[]) else .iface 171 (.agg #[]))=.iface (YJ p load) (.agg #[]):=by unfold YJ;split<;>rfl
def YI(p:Par)(load:Int):q58:=.iface (YJ p load) (.agg #[])
theorem Yf{w:q3g}{b b' size n:Nat}{e:q8u}{v:q58}{xs:List q58}(h:w.ownsRow b e size v n xs)(hb:b'<=b):w.ownsRow b' e size v n xs:=by
 obtain⟨h1,h2⟩:=h;refine⟨h1,?_⟩;rcases h2 with h2 | ⟨g,cap,cur,e1,e2,e3⟩
 ·exact .inl h2
 ·exact .inr ⟨g,cap,cur,e1,q87 hb e2,e3⟩
def YK(ps:List Par)(g:Nat->Int)(l:List Int)(i:Nat):q58:=match ps[(l[i]?.getD 0).toNat]? with | some p=>YI p (loadAt g l i) | none=>.nilIface
def kB(ps:List Par)(g:Nat->Int)(l:List Int):List q58:=(qa4 l.length).map (YK ps g l)
theorem q3q(ps:List Par)(g:Nat->Int)(l:List Int)(k:Nat)(h:k<l.length):(kB ps g l).take (k+1)=(kB ps g l).take k++[YK ps g l k]:=by
 rw[qbc];simp[kB,h]
theorem q7w(lo hi:Nat)(yv pv:q58)(ps:List Par)(lim:Int)(l:List Int)(g:Nat->Int)(w:q3g)(hY:jg lo hi w yv ps lim)(hI:qe lo hi w pv l)(hhi:hi<=w.heap.size)(h5:ps.length<=5)(hx:∀x∈l,0<=x/\x<ps.length)(hl:l.length<=1000)(hg:∀i,0<=g i/\g i<=1000) :
  qaD Tryp.prog 126 #[yv,pv,wts g] w λe w'=>∃v',e=.returned v'/\w.grownBy w' none/\w'.ownsRow w.heap.size 141 1 v' l.length (kB ps g l):=by
 obtain⟨i0,g8,g7,g6,g5⟩:=qch Tryp.info141p;obtain⟨qv,rfl,hP⟩:=hY;obtain⟨yb,yc,rfl,k9,-⟩:=hP.cell;obtain⟨base,cap,rfl,l9,-⟩:=hI.cell;obtain⟨A,hA⟩:∃A,A=w.heap.size:=⟨_,rfl⟩
 obtain⟨w1,Z⟩:∃w1,w1=(w.alloc (.cells #[.slice yb ps.length yc,.int .i64 lim] 91)).alloc (qE g):=⟨_,rfl⟩
 have b8:w.grownBy w1 none:=by rw[Z];exact(q34 _ _ none).trans (q34 _ _ none)
 have b0:w1.heap[A]?=some (.cells #[.slice yb ps.length yc,.int .i64 lim] 91 (0,0)):=by rw[Z,hA];exact qp (q7j w _)
 have a6:w1.heap[A+1]?=some (qE g):=by
  rw[Z];have:=q7j (w.alloc (.cells #[.slice yb ps.length yc,.int .i64 lim] 91)) (qE g);rw[q8f,<- hA] at this;exact this
 have l7:w1.heap.size=A+2:=by rw[Z,q8f,q8f,hA]
 have e5:=q1D (hI.kept b8 (by simp));have h9:=q1D (hP.kept b8 (by simp));have HX:=q1D hx;have k5:=q1D hg;have h8:=q1D Z;have HA:=q1D hA;have e7:=q1D b8;have n2:=q1D b0;have q0:=qa b0 (o:=0) rfl;have q1:=qa b0 (o:=1) rfl;have r0:=ql a6 (show 0<5 by omega);have r1:=ql a6 (show 1<5 by omega);have r2:=ql a6 (show 2<5 by omega);have r3:=ql a6 (show 3<5 by omega);have r4:=ql a6 (show 4<5 by omega);have m3:hi<=A:=by omega
 clear hI hP hx hg Z hA b8 b0 a6;unfold wts;go_enter Tryp.func126,Tryz.ntmps126;go_upto_region 2 with(fail)
 rw[<- HA.out,show(w.alloc (.cells #[.slice yb ps.length yc,.int .i64 lim] 91)).alloc (.cells #[.int .i64 (g 0),.int .i64 (g 1),.int .i64 (g 2),.int .i64 (g 3),.int .i64 (g 4)] 101)=w1 from h8.out.symm];go_wp2_with (first | (go_at_call 91;go_must (refine(Qi lo hi _ _ l g _ e5.out (by omega) (by intro x hx;have:=HX.out x hx;omega) hl k5.out ⟨_,_,rfl⟩).mono ?_);rintro e w2 ⟨lv,rfl,d7,hL2⟩;have a9:=hL2.cell;rw[yY] at a9;obtain⟨lb,lc,rfl,-,a9⟩:=a9;have k7:=q1D a9;clear a9;have b6:=q1D d7;have m9:=q1D hL2;clear d7 hL2));have e8:=b6.out.cell q0 (by simp);have l6:=b6.out.size;clear r0 r1 r2 r3 r4 q0 q1;go_loopw [7,15] (λov iv wr=>∃k:Nat,iv=.int .i64 k/\k<=l.length/\w2.grownBy wr none/\wr.ownsRow w2.heap.size 141 1 ov k ((kB ps g l).take k)) (λ_ iv _=>(l.length - qb2 iv).toNat)
 case atStart=>exact⟨0,rfl,by omega,q8j _ _,qcb _ _ _ _⟩
 case round =>
  obtain⟨k,rfl,hk,hG,hO⟩:=hrel;obtain⟨oa,om,oc,rfl⟩:=zV hO;have HG:=q1D hG;have HO:=q1D hO;have k8:=hG.cell e8 (by simp);have l5:=hG.size;by_cases hlt:k<l.length
  ·have e4:=(e5.out.kept b6.out (by simp)).kept hG (by simp)
   have d9:=(h9.out.kept b6.out (by simp)).kept hG (by simp);obtain⟨b1,c1,he,-,hc⟩:=e4.cell;cases he;obtain⟨B,o,rfl,b0,m8,m7,d8⟩:=hc (by intro e;rw[e] at hlt;simp at hlt);have hx:=d8 k hlt;obtain⟨x,b7⟩:∃x,l[k]?=some x:=⟨_,q7C hlt⟩
   obtain⟨l4,c3⟩:=HX.out x (q8z b7);rw[b7] at hx;simp only[q88] at hx;obtain⟨m,rfl⟩:∃m:Nat,x=m:=⟨x.toNat,by omega⟩
   obtain⟨b2,c2,he,-,hc⟩:=d9.cell;cases he;obtain⟨YB,yo,rfl,m6,m5,m4,d6⟩:=hc (by intro e;rw[e] at c3;simp at c3;omega);obtain⟨p,hp,p0,p1,p2,p3⟩:=d6 m (by omega);obtain⟨LB,lo',rfl,hL1,hL2,hL3,hL4⟩:=k7.out (by intro e;have:=yY g l;rw[e] at this;simp at this;omega);have c9:=HG.out.cell (hL4 k hlt) (by simp);rw[JE g l k hlt] at c9;have d5:Hid (YK ps g l k=YI p (loadAt g l k)):=q1D (by unfold YK;rw[b7];simp[hp]);have l8:(m:Int)<(ps.length:Int):=c3;generalize loadAt g l k=ld at c9 d5;clear hG hO e4 d9 hc d8 d6 hL4 b7 hp;go_wp2;go_region_law
    (first
     | (go_simp;go_at_call 160;refine(q5b p ld _).mono ?_;rintro e w3 ⟨rfl,c8⟩;rw[qaa];have e9:=c8.size;have e6:=q1D ((qc wr none).trans c8);clear c8)
     | (refine step_append_lies _ (by rfl) _ _ _ (by rfl) w2.heap.size 141 i0 _ 1 16 Tryp.und138 g8 g7 g6 g5 rfl (by omega) (.slice oa om oc) k ((kB ps g l).take k) (by rfl) (by exact(HO.out.kept e6.out (by cases(qbp oa om oc).ownBlock<;>simp)).alloc _) ⟨w3.heap.size,0,none⟩ 1 1 [.iface (YJ p ld) (.agg #[])] (by rfl) (by rfl) (qbg (cs:=#[.iface (YJ p ld) (.agg #[])]) (t:=141) (fr:=(0,0)) (q7j w3 _)) (by simp[qbD]) (by omega) (by unfold maxLen;omega) (by omega) (by simp at e9 ⊢;omega) (w3.heap.size+1) (by simp) ?_;intro gg cap w5 a7 a8 g9 hgl;have k0:=q1D a7;have k6:=q1D a8;clear a7 a8 g9 hgl))
   all_goals
    have b9:w2.grownBy w5 none:=((HG.out.trans e6.out).trans (q34 _ _ none)).andThen k6.out (λj e=>.inl (HO.out.lt j e).1);have HF:=q1D b9;clear b9;go_wp2;go_roundw
    case rel =>
     refine⟨k+1,by simp,by omega,HF.out,?_⟩;rw[q3q ps g l k hlt,d5.out];exact k0.out
    case measure=>simp[qb2];omega
  ·obtain rfl:k=l.length:=by omega
   clear hG hO;go_wp2;go_ret;have h0:=HO.out;rw[show(kB ps g l).take l.length=kB ps g l from List.take_of_length_le (by simp[kB])] at h0;refine⟨_,rfl,(e7.out.trans b6.out).trans HG.out,?_⟩;exact Yf h0 (by have:=e7.out.size;omega)
theorem jo{w:q3g}{base n:Nat}{e:q8u}{v:q58}{xs:List q58}(h:w.ownsRow base e 1 v n xs) :
  ∃a c,v=.slice a n c/\(0<n->∃g,a=some ⟨g,0,none⟩/\base<=g/\g<w.heap.size/\∀i,i<n->w.cell? ⟨g,i,none⟩=xs[i]?):=by
 rcases h.2 with⟨rfl,h0⟩ | ⟨g,cap,cur,rfl,hb,hg,hr⟩
 ·exact⟨_,_,by rw[h0],λhn=>by omega⟩
 ·exact⟨_,_,rfl,λ_=>⟨g,rfl,hb,(q45.1 hg).1,λi hi=>h.cellAt i (by omega)⟩⟩
@[simp] theorem ta170(w:q3g):(qdw (.iface 170 (.agg #[])) 141 170 true).run Tryp.prog w=.ok (.tuple #[.agg #[],.bool true]) w:=by kernel_rfl
@[simp] theorem ta171n(w:q3g):(qdw (.iface 171 (.agg #[])) 141 170 true).run Tryp.prog w=.ok (.tuple #[.agg #[],.bool false]) w:=by kernel_rfl
@[simp] theorem ta171(w:q3g):(qdw (.iface 171 (.agg #[])) 141 171 true).run Tryp.prog w=.ok (.tuple #[.agg #[],.bool true]) w:=by kernel_rfl
def Kg(ps:List Par)(g:Nat->Int)(l:List Int)(i:Nat):Bool:=match ps[(l[i]?.getD 0).toNat]? with | some p=>decide (loadAt g l i<=p.bears) | none=>false
def qw(ps:List Par)(g:Nat->Int)(l:List Int):Bool:=(qa4 l.length).all (Kg ps g l)
theorem kl(lo hi:Nat)(yv pv:q58)(ps:List Par)(lim:Int)(l:List Int)(g:Nat->Int)(w:q3g)(hY:jg lo hi w yv ps lim)(hI:qe lo hi w pv l)(hhi:hi<=w.heap.size)(h5:ps.length<=5)(hx:∀x∈l,0<=x/\x<ps.length)(hl:l.length<=1000)(hg:∀i,0<=g i/\g i<=1000) :
  qaD Tryp.prog 96 #[yv,pv,wts g] w λe w'=>e=.returned (.bool (qw ps g l))/\w.grownBy w' none:=by
 obtain⟨qv,rfl,hP⟩:=hY;obtain⟨yb,yc,rfl,d8,-⟩:=hP.cell;obtain⟨base,cap,rfl,e6,-⟩:=hI.cell;obtain⟨A,hA⟩:∃A,A=w.heap.size:=⟨_,rfl⟩
 obtain⟨w1,Z⟩:∃w1,w1=(w.alloc (.cells #[.slice yb ps.length yc,.int .i64 lim] 91)).alloc (qE g):=⟨_,rfl⟩
 have a8:w.grownBy w1 none:=by rw[Z];exact(q34 _ _ none).trans (q34 _ _ none)
 have b0:w1.heap[A]?=some (.cells #[.slice yb ps.length yc,.int .i64 lim] 91 (0,0)):=by rw[Z,hA];exact qp (q7j w _)
 have a6:w1.heap[A+1]?=some (qE g):=by
  rw[Z];have:=q7j (w.alloc (.cells #[.slice yb ps.length yc,.int .i64 lim] 91)) (qE g);rw[q8f,<- hA] at this;exact this
 have e5:w1.heap.size=A+2:=by rw[Z,q8f,q8f,hA]
 have d5:=q1D (hI.kept a8 (by simp));have c8:=q1D (show jg lo hi w1 (.agg #[.slice yb ps.length yc,.int .i64 lim]) ps lim from⟨_,rfl,hP.kept a8 (by simp)⟩);have HX:=q1D hx;have d6:=q1D hg;have c9:=q1D Z;have HA:=q1D hA;have c3:=q1D a8;have q0:=qa b0 (o:=0) rfl;have q1:=qa b0 (o:=1) rfl;have r0:=ql a6 (show 0<5 by omega);have r1:=ql a6 (show 1<5 by omega);have r2:=ql a6 (show 2<5 by omega);have r3:=ql a6 (show 3<5 by omega);have r4:=ql a6 (show 4<5 by omega);have e7:hi<=A:=by omega
 clear hI hP hx hg Z hA a8 b0 a6;unfold wts;go_enter Tryp.func96,Tryz.ntmps96;go_upto_region 1 with(fail)
 rw[<- HA.out,show(w.alloc (.cells #[.slice yb ps.length yc,.int .i64 lim] 91)).alloc (.cells #[.int .i64 (g 0),.int .i64 (g 1),.int .i64 (g 2),.int .i64 (g 3),.int .i64 (g 4)] 101)=w1 from c9.out.symm];go_wp2_with (first | (go_at_call 126;go_must (refine(q7w lo hi _ _ ps lim l g _ c8.out d5.out (by omega) h5 HX.out hl d6.out).mono ?_);rintro e w2 ⟨lv,rfl,b7,hL2⟩;obtain⟨lb,lc,rfl,b6⟩:=jo hL2;have b9:=q1D b7;have d7:=q1D b6;clear b7 hL2 b6));clear r0 r1 r2 r3 r4 q0 q1;go_loopw [14] (λiv wr=>∃k:Nat,iv=.int .i64 k/\k<=l.length/\(∀i,i<k->Kg ps g l i=true)/\w2=wr) (λiv _=>(l.length - qb2 iv).toNat)
 case atStart=>exact⟨0,rfl,by omega,λi hi=>absurd hi (by omega),rfl⟩
 case round =>
  obtain⟨k,rfl,hk,hok,rfl⟩:=hrel;have b8:=q1D hok;clear hok;by_cases hlt:k<l.length
  ·obtain⟨LB,rfl,hL1,hL2,hL3⟩:=d7.out (by omega)
   have a9:=hL3 k hlt;obtain⟨x,a7⟩:∃x,l[k]?=some x:=⟨_,q7C hlt⟩
   obtain⟨e4,d9⟩:=HX.out x (q8z a7);obtain⟨p,hp⟩:∃p,ps[x.toNat]?=some p:=⟨_,q7C (by omega)⟩
   have hok:Kg ps g l k=decide (loadAt g l k<=p.bears):=by unfold Kg;rw[a7];simp[hp]
   rw[show(kB ps g l)[k]?=some (YI p (loadAt g l k)) by simp only[kB,List.getElem?_map,List.getElem?_range hlt,qbt,YK,a7,q88,hp]] at a9;by_cases hb:p.bears<loadAt g l k
   ·rw[show YI p (loadAt g l k)=.iface 170 (.agg #[]) by simp[YI,YJ,hb]] at a9
    have hf:Hid (qw ps g l=false):=q1D (by
     have:Kg ps g l k=false:=by rw[hok];simp;omega
     unfold qw;rw[Bool.eq_false_iff];intro h;rw[qau] at h;have:=h k (by simp[hlt])
     simp_all)
    clear hL3 hok hp a7 hb;go_wp2;go_ret;exact⟨by rw[hf.out];rfl,c3.out.trans b9.out⟩
   ·rw[show YI p (loadAt g l k)=.iface 171 (.agg #[]) by simp[YI,YJ,hb]] at a9
    have hf:Hid (Kg ps g l k=true):=q1D (by rw[hok];simp;omega);clear hL3 hok hp a7 hb;go_wp2;go_roundw
    case rel =>
     refine⟨k+1,by simp,by omega,λi hi=>?_,by first | rfl | trivial⟩;by_cases e:i=k
     ·rw[e];exact hf.out
     ·exact b8.out i (by omega)
    case measure=>simp[qb2];omega
  ·obtain rfl:k=l.length:=by omega
   have hf:Hid (qw ps g l=true):=q1D (by
    unfold qw;rw[qau];intro i hi;exact b8.out i (by simpa using hi))
   go_wp2;go_ret;exact⟨by rw[hf.out];rfl,c3.out.trans b9.out⟩
theorem yH(x lo hi:Int)(w:q3g)(h1:lo<=x)(h2:x<=hi) :
  qaD Tryp.prog 110 #[.int .i64 x,.int .i64 lo,.int .i64 hi] w λe w'=>e=.returned (.bool true)/\w=w':=by
 go_enter Tryp.func110,Tryz.ntmps110;go_wp2;go_ret;exact⟨rfl,rfl⟩
theorem kf(x lo hi:Int)(w:q3g)(h1:¬ (lo<=x/\x<=hi)) :
  qaD Tryp.prog 110 #[.int .i64 x,.int .i64 lo,.int .i64 hi] w λe w'=>e=.returned (.bool false)/\w=w':=by
 by_cases h2:lo<=x
 ·have h3:¬ x<=hi:=λh=>h1 ⟨h2,h⟩
  clear h1;go_enter Tryp.func110,Tryz.ntmps110;go_wp2;go_ret;exact⟨rfl,rfl⟩
 ·clear h1
  go_enter Tryp.func110,Tryz.ntmps110;go_wp2;go_ret;exact⟨rfl,rfl⟩
def Ko(p:Par):Int:=if 1<=p.mn/\p.mn<=12 then if 1<=p.mx/\p.mx<=12 then if p.mx<p.mn then 5 else if 0<=p.bears/\p.bears<=30 then if 1<=p.tall/\p.tall<=3 then 0 else 1 else 1 else 1 else 1
theorem q1u(a b c d:Int)(w:q3g)(h1:¬ (1<=a/\a<=12)) :
  qaD Tryp.prog 109 #[.agg #[.int .i64 a,.int .i64 b,.int .i64 c,.int .i64 d]] w λe w'=>e=.returned (.int .i64 1)/\w.grownBy w' none:=by
 have HH:=q1D h1;clear h1;go_enter Tryp.func109,Tryz.ntmps109;go_wp2_with (first
  | (go_at_call 110;refine(yH _ _ _ _ (by have:=HH.out;omega) (by have:=HH.out;omega)).mono ?_;rintro e w' ⟨rfl,rfl⟩)
  | (go_at_call 110;go_must (refine(kf _ _ _ _ (by have:=HH.out;omega)).mono ?_);rintro e w' ⟨rfl,rfl⟩))
 go_ret;exact⟨rfl,q34 _ _ _⟩
theorem q1t(a b c d:Int)(w:q3g)(h1:1<=a/\a<=12)(h2:¬ (1<=b/\b<=12)) :
  qaD Tryp.prog 109 #[.agg #[.int .i64 a,.int .i64 b,.int .i64 c,.int .i64 d]] w λe w'=>e=.returned (.int .i64 1)/\w.grownBy w' none:=by
 have HH:=q1D (q8D h1 h2);clear h1 h2;go_enter Tryp.func109,Tryz.ntmps109;go_wp2_with (first
  | (go_at_call 110;refine(yH _ _ _ _ (by have:=HH.out;omega) (by have:=HH.out;omega)).mono ?_;rintro e w' ⟨rfl,rfl⟩)
  | (go_at_call 110;go_must (refine(kf _ _ _ _ (by have:=HH.out;omega)).mono ?_);rintro e w' ⟨rfl,rfl⟩))
 go_ret;exact⟨rfl,q34 _ _ _⟩
theorem q1s(a b c d:Int)(w:q3g)(h1:1<=a/\a<=12)(h2:1<=b/\b<=12)(h3:b<a) :
  qaD Tryp.prog 109 #[.agg #[.int .i64 a,.int .i64 b,.int .i64 c,.int .i64 d]] w λe w'=>e=.returned (.int .i64 5)/\w.grownBy w' none:=by
 have HH:=q1D (q8D h1 (q8D h2 h3));clear h1 h2;go_enter Tryp.func109,Tryz.ntmps109;go_wp2_with (first
  | (go_at_call 110;refine(yH _ _ _ _ (by have:=HH.out;omega) (by have:=HH.out;omega)).mono ?_;rintro e w' ⟨rfl,rfl⟩)
  | (go_at_call 110;go_must (refine(kf _ _ _ _ (by have:=HH.out;omega)).mono ?_);rintro e w' ⟨rfl,rfl⟩))
 go_ret;exact⟨rfl,q34 _ _ _⟩
theorem q1r(a b c d:Int)(w:q3g)(h1:1<=a/\a<=12)(h2:1<=b/\b<=12)(h3:¬ b<a)(h4:¬ (0<=c/\c<=30)) :
  qaD Tryp.prog 109 #[.agg #[.int .i64 a,.int .i64 b,.int .i64 c,.int .i64 d]] w λe w'=>e=.returned (.int .i64 1)/\w.grownBy w' none:=by
 have HH:=q1D (q8D h1 (q8D h2 (q8D h3 h4)));clear h1 h2 h4;go_enter Tryp.func109,Tryz.ntmps109;go_wp2_with (first
  | (go_at_call 110;refine(yH _ _ _ _ (by have:=HH.out;omega) (by have:=HH.out;omega)).mono ?_;rintro e w' ⟨rfl,rfl⟩)
  | (go_at_call 110;go_must (refine(kf _ _ _ _ (by have:=HH.out;omega)).mono ?_);rintro e w' ⟨rfl,rfl⟩))
 go_ret;exact⟨rfl,q34 _ _ _⟩
theorem q1q(a b c d:Int)(w:q3g)(h1:1<=a/\a<=12)(h2:1<=b/\b<=12)(h3:¬ b<a)(h4:0<=c/\c<=30)(h5:¬ (1<=d/\d<=3)) :
  qaD Tryp.prog 109 #[.agg #[.int .i64 a,.int .i64 b,.int .i64 c,.int .i64 d]] w λe w'=>e=.returned (.int .i64 1)/\w.grownBy w' none:=by
 have HH:=q1D (q8D h1 (q8D h2 (q8D h3 (q8D h4 h5))));clear h1 h2 h4 h5;go_enter Tryp.func109,Tryz.ntmps109;go_wp2_with (first
  | (go_at_call 110;refine(yH _ _ _ _ (by have:=HH.out;omega) (by have:=HH.out;omega)).mono ?_;rintro e w' ⟨rfl,rfl⟩)
  | (go_at_call 110;go_must (refine(kf _ _ _ _ (by have:=HH.out;omega)).mono ?_);rintro e w' ⟨rfl,rfl⟩))
 go_ret;exact⟨rfl,q34 _ _ _⟩
theorem q1p(a b c d:Int)(w:q3g)(h1:1<=a/\a<=12)(h2:1<=b/\b<=12)(h3:¬ b<a)(h4:0<=c/\c<=30)(h5:1<=d/\d<=3) :
  qaD Tryp.prog 109 #[.agg #[.int .i64 a,.int .i64 b,.int .i64 c,.int .i64 d]] w λe w'=>e=.returned (.int .i64 0)/\w.grownBy w' none:=by
 have HH:=q1D (q8D h1 (q8D h2 (q8D h3 (q8D h4 h5))));clear h1 h2 h4 h5;go_enter Tryp.func109,Tryz.ntmps109;go_wp2_with (first
  | (go_at_call 110;refine(yH _ _ _ _ (by have:=HH.out;omega) (by have:=HH.out;omega)).mono ?_;rintro e w' ⟨rfl,rfl⟩)
  | (go_at_call 110;go_must (refine(kf _ _ _ _ (by have:=HH.out;omega)).mono ?_);rintro e w' ⟨rfl,rfl⟩))
 go_ret;exact⟨rfl,q34 _ _ _⟩
theorem xy(p:Par)(w:q3g):qaD Tryp.prog 109 #[.agg #[.int .i64 p.mn,.int .i64 p.mx,.int .i64 p.bears,.int .i64 p.tall]] w λe w'=>e=.returned (.int .i64 (Ko p))/\w.grownBy w' none:=by
 unfold Ko;by_cases h1:1<=p.mn/\p.mn<=12
 ·by_cases h2:1<=p.mx/\p.mx<=12
  ·by_cases h3:p.mx<p.mn
   ·rw[if_pos h1,if_pos h2,if_pos h3];exact q1s _ _ _ _ w h1 h2 h3
   ·by_cases h4:0<=p.bears/\p.bears<=30
    ·by_cases h5:1<=p.tall/\p.tall<=3
     ·rw[if_pos h1,if_pos h2,if_neg h3,if_pos h4,if_pos h5];exact q1p _ _ _ _ w h1 h2 h3 h4 h5
     ·rw[if_pos h1,if_pos h2,if_neg h3,if_pos h4,if_neg h5];exact q1q _ _ _ _ w h1 h2 h3 h4 h5
    ·rw[if_pos h1,if_pos h2,if_neg h3,if_neg h4];exact q1r _ _ _ _ w h1 h2 h3 h4
  ·rw[if_pos h1,if_neg h2];exact q1t _ _ _ _ w h1 h2
 ·rw[if_neg h1];exact q1u _ _ _ _ w h1
def YT(ps:List Par)(lim:Int):Int:=if 5<ps.length then 6 else match ps.find? (λp=>decide (Ko p≠0)) with
 | some p=>Ko p
 | none=>if 1<=lim/\lim<=12 then 0 else 1
theorem q6k{α:Type}(q:α->Bool)(l:List α)(k:Nat)(x:α)(h:l[k]?=some x)(hq:q x=true)(hb:∀(i:Nat) (y:α),i<k->l[i]?=some y->q y=false):l.find? q=some x:=by
 induction l generalizing k with
 | nil=>simp at h
 | cons a t ih =>
  cases k with
  | zero=>simp at h;subst h;simp[hq]
  | succ k =>
   rw[List.find?_cons_of_neg (by rw[hb 0 a (by omega) (by simp)];simp)];exact ih k (by simpa using h) (λi y hi hy=>hb (i+1) y (by omega) (by simpa using hy))
theorem q1f{α:Type}(q:α->Bool)(l:List α)(hb:∀(i:Nat) (y:α),l[i]?=some y->q y=false):l.find? q=none:=by
 rw[List.find?_eq_none];intro x hx;obtain⟨i,hi⟩:=List.getElem?_of_mem hx;rw[hb i x hi];simp
theorem q7G(lo hi:Nat)(yv:q58)(ps:List Par)(lim:Int)(w:q3g)(hY:jg lo hi w yv ps lim)(hhi:hi<=w.heap.size) :
  qaD Tryp.prog 52 #[yv] w λe w'=>e=.returned (.int .i64 (YT ps lim))/\w.grownBy w' none:=by
 obtain⟨qv,rfl,hP⟩:=hY;obtain⟨yb,yc,rfl,d8,-⟩:=hP.cell;by_cases h5:5<ps.length
 ·have HR:=q1D (show YT ps lim=6 by unfold YT;rw[if_pos h5])
  have c8:(5:Int)<ps.length:=by omega
  clear hP;go_enter Tryp.func52,Tryz.ntmps52;go_wp2;go_ret;exact⟨by rw[HR.out];rfl,q34 _ _ _⟩
 ·obtain⟨A,hA⟩:∃A,A=w.heap.size:=⟨_,rfl⟩
  obtain⟨w1,a6⟩:∃w1,w1=w.alloc (.cells #[.slice yb ps.length yc,.int .i64 lim] 24):=⟨_,rfl⟩
  have a9:w.grownBy w1 none:=by rw[a6];exact q34 _ _ none
  have b0:w1.heap[A]?=some (.cells #[.slice yb ps.length yc,.int .i64 lim] 24 (0,0)):=by rw[a6,hA];exact q7j w _
  have d5:=q1D (hP.kept a9 (by simp));have c9:=q1D a6;have HA:=q1D hA;have b7:=q1D a9;have q0:=qa b0 (o:=0) rfl;have q1:=qa b0 (o:=1) rfl;have c8:¬ (5:Int)<ps.length:=by omega
  clear hP a6 hA a9 b0;go_enter Tryp.func52,Tryz.ntmps52;go_upto_region 1 with(fail)
  rw[<- HA.out,show w.alloc (.cells #[.slice yb ps.length yc,.int .i64 lim] 24)=w1 from c9.out.symm];go_wp2;go_loopw [13] (λiv wr=>∃k:Nat,iv=.int .i64 k/\k<=ps.length/\(∀i p,i<k->ps[i]?=some p->Ko p=0)/\w1.grownBy wr none) (λiv _=>(ps.length - qb2 iv).toNat)
  case atStart=>exact⟨0,rfl,by omega,λi p hi=>absurd hi (by omega),q8j _ _⟩
  case round =>
   obtain⟨k,rfl,hk,hok,hG⟩:=hrel;have a7:=q1D hok;have HG:=q1D hG;have b9:=d5.out.kept hG (by simp);have d7:=hG.cell q0 (by simp);have d6:=hG.cell q1 (by simp);clear hok hG;by_cases hlt:k<ps.length
   ·obtain⟨b2,c2,he,-,hc⟩:=b9.cell
    cases he;obtain⟨YB,yo,rfl,e5,e4,d9,b8⟩:=hc (by intro e;rw[e] at hlt;simp at hlt);obtain⟨p,hp,p0,p1,p2,p3⟩:=b8 k (by omega);have c3:=q1D hp;clear hc b8 hp b9;by_cases hz:Ko p=0
    ·go_wp2_with (first | (go_at_call 109;go_must (refine(xy p _).mono ?_);rintro e w3 ⟨rfl,Z⟩;rw[hz];have b6:=q1D Z;clear Z))
     go_roundw
     case rel =>
      refine⟨k+1,by simp,by omega,λi q hi hq=>?_,(HG.out.trans (q34 _ _ _)).trans b6.out⟩;by_cases e:i=k
      ·subst e
       rw[c3.out] at hq;cases hq;exact hz
      ·exact a7.out i q (by omega) hq
     case measure=>simp[qb2];omega
    ·have HR:=q1D (show YT ps lim=Ko p by
      unfold YT;rw[if_neg h5,q6k _ ps k p c3.out (by simp[hz]) (λi y hi hy=>by simp[a7.out i y hi hy])])
     obtain⟨z,a8⟩:∃z,Ko p=z:=⟨_,rfl⟩
     rw[a8] at hz HR;have HZ:=q1D a8;clear a8;go_wp2_with (first | (go_at_call 109;go_must (refine(xy p _).mono ?_);rintro e w3 ⟨rfl,Z⟩;rw[HZ.out];have b6:=q1D Z;clear Z));go_ret;exact⟨by rw[HR.out];rfl,((b7.out.trans HG.out).trans (q34 _ _ _)).trans b6.out⟩
   ·obtain rfl:k=ps.length:=by omega
    by_cases hl:1<=lim/\lim<=12
    ·have HR:=q1D (show YT ps lim=0 by
      unfold YT;rw[if_neg h5,q1f _ ps (λi y hy=>by simp[a7.out i y (q8w.1 hy).1 hy])];exact if_pos hl)
     go_wp2_with (first | (go_at_call 110;go_must (refine(yH _ _ _ _ hl.1 hl.2).mono ?_);rintro e w' ⟨rfl,rfl⟩));go_ret;exact⟨by rw[HR.out];rfl,b7.out.trans HG.out⟩
    ·have HR:=q1D (show YT ps lim=1 by
      unfold YT;rw[if_neg h5,q1f _ ps (λi y hy=>by simp[a7.out i y (q8w.1 hy).1 hy])];exact if_neg hl)
     have HL:=q1D hl;clear hl;go_wp2_with (first | (go_at_call 110;go_must (refine(kf _ _ _ _ HL.out).mono ?_);rintro e w' ⟨rfl,rfl⟩));go_ret;exact⟨by rw[HR.out];rfl,b7.out.trans HG.out⟩
theorem qay:∀m:Fin 32,∀n:Fin 5,(bits .and .u8 (m.1:Int) ((2 ^ n.1:Nat):Int) != 0)=m.1.testBit n.1:=by decide
theorem bits_or:∀m:Fin 32,∀n:Fin 5,bits .or .u8 (m.1:Int) ((2 ^ n.1:Nat):Int)=((m.1 ||| 2 ^ n.1:Nat):Int):=by decide
@[simp] theorem ix205_0(w:q3g):(Instr.index 205 (.agg #[.int .u8 1,.int .u8 2,.int .u8 4,.int .u8 8,.int .u8 16]) (.int .i64 0)).run Tryp.prog w=.ok (.int .u8 1) w:=by kernel_rfl
@[simp] theorem ix205_1(w:q3g):(Instr.index 205 (.agg #[.int .u8 1,.int .u8 2,.int .u8 4,.int .u8 8,.int .u8 16]) (.int .i64 1)).run Tryp.prog w=.ok (.int .u8 2) w:=by kernel_rfl
@[simp] theorem ix205_2(w:q3g):(Instr.index 205 (.agg #[.int .u8 1,.int .u8 2,.int .u8 4,.int .u8 8,.int .u8 16]) (.int .i64 2)).run Tryp.prog w=.ok (.int .u8 4) w:=by kernel_rfl
@[simp] theorem ix205_3(w:q3g):(Instr.index 205 (.agg #[.int .u8 1,.int .u8 2,.int .u8 4,.int .u8 8,.int .u8 16]) (.int .i64 3)).run Tryp.prog w=.ok (.int .u8 8) w:=by kernel_rfl
@[simp] theorem ix205_4(w:q3g):(Instr.index 205 (.agg #[.int .u8 1,.int .u8 2,.int .u8 4,.int .u8 8,.int .u8 16]) (.int .i64 4)).run Tryp.prog w=.ok (.int .u8 16) w:=by kernel_rfl
theorem xm(n:Nat)(w:q3g)(h:n<5):qaD Tryp.prog 153 #[.int .i64 n] w λe w'=>e=.returned (.int .u8 ((2 ^ n:Nat):Int))/\w=w':=by
 obtain rfl | rfl | rfl | rfl | rfl:n=0\/n=1\/n=2\/n=3\/n=4:=by omega
 all_goals
  go_enter Tryp.func153,Tryz.ntmps153;go_wp2;go_ret;exact⟨rfl,rfl⟩
theorem q6g(m n:Nat)(w:q3g)(hm:m<32)(h:n<5):qaD Tryp.prog 129 #[.int .u8 m,.int .i64 n] w λe w'=>e=.returned (.bool (m.testBit n))/\w=w':=by
 have hb:=qay ⟨m,hm⟩ ⟨n,h⟩;simp only at hb;have HB:=q1D hb;clear hb;obtain⟨z,hz⟩:∃z:Int,((2 ^ n:Nat):Int)=z:=⟨_,rfl⟩
 have HZ:=q1D hz;clear hz;go_enter Tryp.func129,Tryz.ntmps129;go_wp2_with (first | (go_at_call 153;go_must (refine(xm n _ h).mono ?_);rintro e w' ⟨rfl,rfl⟩;rw[HZ.out]));go_ret;exact⟨by rw[<- HB.out,HZ.out];rfl,rfl⟩
theorem JK(m n:Nat)(w:q3g)(hm:m<32)(h:n<5):qaD Tryp.prog 151 #[.int .u8 m,.int .i64 n] w λe w'=>e=.returned (.int .u8 ((m ||| 2 ^ n:Nat):Int))/\w=w':=by
 have hb:=bits_or ⟨m,hm⟩ ⟨n,h⟩;simp only at hb;have HB:=q1D hb;clear hb;obtain⟨z,hz⟩:∃z:Int,((2 ^ n:Nat):Int)=z:=⟨_,rfl⟩
 have HZ:=q1D hz;clear hz;go_enter Tryp.func151,Tryz.ntmps151;go_wp2_with (first | (go_at_call 153;go_must (refine(xm n _ h).mono ?_);rintro e w' ⟨rfl,rfl⟩;rw[HZ.out]));go_ret;exact⟨by rw[<- HB.out,HZ.out];rfl,rfl⟩
theorem must_t(k:Int)(w:q3g):qaD Tryp.prog 162 #[.bool true,.int .i64 k] w λe w'=>e=.returned (.tuple #[])/\w=w':=by
 go_enter Tryp.func162,Tryz.ntmps162;go_wp2;go_end0;exact⟨rfl,rfl⟩
theorem q5l(p:qb9)(w:q3g) :
  CallsD Tryp.prog 161 #[.pointer (some p)] .returning w λe u' w'=>e=.returned (.tuple #[])/\u'=.returning/\w'=w.alloc (.cells #[.int .i64 0] 181):=by
 have Z:∀w,(qdw .nilIface 20 181 true).run Tryp.prog w=.ok (.tuple #[.agg #[.int .i64 0],.bool false]) w:=λw=>by kernel_rfl
 refine callsD_of_wpS Tryp.func161 rfl λc₀ cs hu=>?_;apply wpS_seq;apply wpS_region;simp[wpOpsS,go_sem,recoverD,hu,Tryz.ntmps161,Exit.thenS,Z];apply wpS_seq;apply wpS_region;simp[wpOpsS,go_sem,recoverD,hu,Tryz.ntmps161,Exit.thenS];refine wpS_cond (t:=false) (by simp[Act.eval,qb4]) ?_;simp only[qa5,if_false];refine wpS_of_wp (wp_skip ?_);cases c₀
 simp_all [bodyPostS,results,Tryz.results161]
theorem q7H(B:Nat)(x k:Int)(Z:List PanicEntry)(w:q3g)(hB:w.heap[B]?=some (.cells #[.int .i64 x] 40 (0,0))) :
  CallsD Tryp.prog 161 #[.pointer (some ⟨B,0,none⟩)] (.panicking ({ v:=.iface 181 (.agg #[.int .i64 k]),recovered:=false }::Z)) w λe u' w' =>
   e=.returned (.tuple #[])/\u'=.panicking ({ v:=.iface 181 (.agg #[.int .i64 k]),recovered:=true }::Z)/\w'=(w.alloc (.cells #[.int .i64 k] 181)).setCell ⟨B,0,none⟩ (.int .i64 k):=by
 have a6:∀w,(qdw (.iface 181 (.agg #[.int .i64 k])) 20 181 true).run Tryp.prog w=.ok (.tuple #[.agg #[.int .i64 k],.bool true]) w:=λw=>by kernel_rfl
 have hc:=qa (qp (p:=.cells #[.int .i64 k] 181) hB) (o:=0) rfl;have hz:=qn (qp (p:=.cells #[.int .i64 k] 181) hB) (o:=0);refine callsD_of_wpS Tryp.func161 rfl λc₀ cs hu=>?_;apply wpS_seq;apply wpS_region;simp[wpOpsS,go_sem,recoverD,hu,Tryz.ntmps161,Exit.thenS,a6];apply wpS_seq;apply wpS_region;simp[wpOpsS,go_sem,recoverD,hu,Tryz.ntmps161,Exit.thenS];refine wpS_cond (t:=true) (by simp[Act.eval,qb4]) ?_;simp only[if_true];apply wpS_region;simp[wpOpsS,go_sem,hc,hz,bodyPostS,results,Tryz.results161]
theorem must_f(k:Int)(w:q3g):qaD Tryp.prog 162 #[.bool false,.int .i64 k] w λe w'=>e=.panicked [{ v:=.iface 181 (.agg #[.int .i64 k]),recovered:=false }]/\w=w':=by
 have Z:∀(x:Bool) (w:q3g),(Op.unary .not (.bool x)).run Tryp.prog w=.ok (.bool (!x)) w:=λ_ _=>rfl;go_enter Tryp.func162,Tryz.ntmps162;go_wp2;exact⟨rfl,rfl,rfl⟩
def zq(l:List Int):Nat:=l.foldl (λm x=>m ||| 2 ^ x.toNat) 0
theorem q01(l:List Int)(k:Nat)(x:Int)(h:l[k]?=some x):zq (l.take (k+1))=zq (l.take k) ||| 2 ^ x.toNat:=by
 rw[qbc,h];simp[zq]
theorem Qh(l:List Int)(n:Nat)(h:∀x∈l,x.toNat<n):zq l<2 ^ n:=by
 unfold zq;have key:∀(l:List Int) (m:Nat),m<2 ^ n->(∀x∈l,x.toNat<n)->l.foldl (λm x=>m ||| 2 ^ x.toNat) m<2 ^ n:=by
  intro l;induction l with
  | nil=>exact λm hm _=>hm
  | cons a t ih=>exact λm hm hx=>ih _ (Nat.or_lt_two_pow hm (Nat.pow_lt_pow_right (by omega) (hx a (by simp)))) λx hx'=>hx x (by simp[hx'])
 exact key l 0 (Nat.two_pow_pos n) h
theorem Yp(l:List Int)(b:Nat):(zq l).testBit b=true↔∃x∈l,x.toNat=b:=by
 unfold zq;have key:∀(l:List Int) (m:Nat),(l.foldl (λm x=>m ||| 2 ^ x.toNat) m).testBit b=true↔m.testBit b=true\/∃x∈l,x.toNat=b:=by
  intro l;induction l with
  | nil=>simp
  | cons a t ih =>
   intro m;simp only[List.foldl_cons,ih,Nat.testBit_or,qcy,Nat.testBit_two_pow,decide_eq_true_eq,qbx,exists_eq_or_imp];constructor
   ·rintro((h | h) | h)
    ·exact .inl h
    ·exact .inr (.inl h)
    ·exact .inr (.inr h)
   ·rintro(h | h | h)
    ·exact .inl (.inl h)
    ·exact .inl (.inr h)
    ·exact .inr h
 rw[key l 0];simp
def ZC(ps:List Par)(x:Int):Int:=match ps[x.toNat]? with | some p=>p.tall | none=>0
def zj(ps:List Par)(l:List Int):Int:=(l.map (ZC ps)).foldl (·+·) 0
theorem q4e(ps:List Par)(l:List Int)(k:Nat)(x:Int)(h:l[k]?=some x):zj ps (l.take (k+1))=zj ps (l.take k)+ZC ps x:=by
 rw[qbc,h];simp[zj]
def q1o(ps:List Par)(lim:Int)(l:List Int):Int:=if zj ps l<=lim then 0 else 10
theorem kV(lo hi:Nat)(yv pv:q58)(ps:List Par)(lim:Int)(l:List Int)(w:q3g)(hY:jg lo hi w yv ps lim)(hI:qe lo hi w pv l)(hhi:hi<=w.heap.size)(h5:ps.length<=5)(hx:∀x∈l,0<=x/\x<ps.length)
  (c3:l.Nodup) (ht:∀p∈ps,0<=p.tall/\p.tall<=1000) (k5:l.length<=100) :
  qaD Tryp.prog 133 #[yv,pv] w λe w'=>e=.returned (.int .i64 (q1o ps lim l))/\w.grownBy w' none:=by
 have m3:∀(fn:Fn) (first cap:Array q58) (w:q3g),(Instr.makeFunc fn first cap).run Tryp.prog w=.ok (.func fn first cap) w:=λ_ _ _ _=>rfl;have k0:∀(x:Bool) (w:q3g),(Op.unary .not (.bool x)).run Tryp.prog w=.ok (.bool (!x)) w:=λ_ _=>rfl;obtain⟨qv,rfl,hP⟩:=hY;obtain⟨yb,yc,rfl,k9,-⟩:=hP.cell;obtain⟨base,cap,rfl,m4,-⟩:=hI.cell;obtain⟨A,hA⟩:∃A,A=w.heap.size:=⟨_,rfl⟩
 obtain⟨w1,a7⟩:∃w1,w1=(w.alloc (.cells #[.slice yb ps.length yc,.int .i64 lim] 91)).alloc (.cells #[.int .i64 0] 40):=⟨_,rfl⟩
 have b6:w.grownBy w1 none:=by rw[a7];exact(q34 _ _ none).trans (q34 _ _ none)
 have b7:w1.heap[A]?=some (.cells #[.slice yb ps.length yc,.int .i64 lim] 91 (0,0)):=by rw[a7,hA];exact qp (q7j w _)
 have d9:w1.heap[A+1]?=some (.cells #[.int .i64 0] 40 (0,0)):=by
  rw[a7];have:=q7j (w.alloc (.cells #[.slice yb ps.length yc,.int .i64 lim] 91)) (.cells #[.int .i64 0] 40);rw[q8f,<- hA] at this;exact this
 have h9:=q1D (hI.kept b6 (by simp));have g8:=q1D (hP.kept b6 (by simp));have HX:=q1D hx;have g9:=q1D c3;have HT:=q1D ht;have g6:=q1D a7;have HA:=q1D hA;have e7:=q1D b6;have g7:=q1D d9;have q0:=qa b7 (o:=0) rfl;have q1:=qa b7 (o:=1) rfl;have g5:w1.heap.size=A+2:=by rw[a7,q8f,q8f,hA]
 clear hI hP hx c3 ht a7 hA b6 b7 d9;go_enter_defers Tryp.func133,Tryz.ntmps133;go_upto_region 4 with(fail)
 rw[<- HA.out,show(w.alloc (.cells #[.slice yb ps.length yc,.int .i64 lim] 91)).alloc (.cells #[.int .i64 0] 40)=w1 from g6.out.symm];go_wp2;go_loopw [5,6,12] (λmv tv iv wr=>∃k:Nat,iv=.int .i64 k/\k<=l.length/\mv=.int .u8 (zq (l.take k))/\tv=.int .i64 (zj ps (l.take k))/\0<=zj ps (l.take k)/\zj ps (l.take k)<=1000*k/\w1.grownBy wr none) (λ_ _ iv _=>(l.length - qb2 iv).toNat)
 case atStart=>exact⟨0,rfl,by omega,by simp[zq],by simp[zj],by simp[zj],by simp[zj],q8j _ _⟩
 case round =>
  obtain⟨k,rfl,hk,rfl,rfl,ht0,ht1,hG⟩:=hrel;have HG:=q1D hG;have k7:=hG.cell q0 (by simp);have k6:=hG.cell q1 (by simp);have l6:=hG.size;clear hG;by_cases hlt:k<l.length
  ·have e6:=h9.out.kept HG.out (by simp)
   have e5:=g8.out.kept HG.out (by simp);obtain⟨b1,c1,he,-,hc⟩:=e6.cell;cases he;obtain⟨B,o,rfl,b7,n3,n2,e4⟩:=hc (by intro e;rw[e] at hlt;simp at hlt);have hx:=e4 k hlt;obtain⟨x,Z⟩:∃x,l[k]?=some x:=⟨_,q7C hlt⟩
   obtain⟨l5,b9⟩:=HX.out x (q8z Z);rw[Z] at hx;simp only[q88] at hx;have a6:(zq (l.take k)).testBit x.toNat=false:=by
    rw[Bool.eq_false_iff];intro h;obtain⟨y,hy,k8⟩:=(Yp _ _).1 h;obtain⟨j,hj⟩:=List.getElem?_of_mem hy;have d7:j<k:=by have:=(q8w.1 hj).1;simp at this;omega
    rw[List.getElem?_take_of_lt d7] at hj;have l4:=HX.out y (q8z hj);obtain rfl:y=x:=by omega
    obtain⟨h1,h2⟩:=q8w.1 hj;obtain⟨h3,h4⟩:=q8w.1 Z;exact List.pairwise_iff_getElem.1 g9.out j k h1 h3 d7 (h2.trans h4.symm)
   have hM:zq (l.take k)<32:=Qh _ 5 λy hy=>by have:=HX.out y (List.mem_of_mem_take hy);omega
   have b0:=q01 l k x Z;have a8:=q4e ps l k x Z;obtain⟨m,rfl⟩:∃m:Nat,x=m:=⟨x.toNat,by omega⟩
   obtain⟨b2,c2,he,-,hc⟩:=e5.cell;cases he;obtain⟨YB,yo,rfl,m7,m6,m5,d8⟩:=hc (by intro e;rw[e] at b9;simp at b9;omega);obtain⟨p,hp,p0,p1,p2,p3⟩:=d8 m (by omega);have l8:=HT.out p (q8z hp);rw[show ZC ps m=p.tall by unfold ZC;simp[hp]] at a8;simp only[Int.toNat_natCast] at a6 b0;have l9:(m:Int)<(ps.length:Int):=b9;have d6:m<5:=by omega
   generalize zq (l.take k)=M at a6 hM b0;generalize zj ps (l.take k)=T at ht0 ht1 a8;have e8:=q1D a6;have h8:=q1D b0;have c9:=q1D a8;have n4:=q1D Z;clear e6 e5 hc e4 d8 hp a6 b0 a8 Z;go_wp2_with (first
    | (go_at_call 110;go_must (refine(yH _ _ _ _ (by omega) (by omega)).mono ?_);rintro e w' ⟨rfl,rfl⟩)
    | (go_at_call 162;go_must (refine(must_t _ _).mono ?_);rintro e w' ⟨rfl,rfl⟩)
    | (go_at_call 129;go_must (refine(q6g M m _ hM d6).mono ?_);rintro e w' ⟨rfl,rfl⟩;rw[e8.out])
    | (go_at_call 151;go_must (refine(JK M m _ hM d6).mono ?_);rintro e w' ⟨rfl,rfl⟩)
    | (go_at_call 145;go_must (refine(q2a _ _ _ T p.tall _ (by exact qe.laid _ [T,p.tall] 2 rfl (by simp)) (by omega) (by omega)).mono ?_);rintro e w' ⟨rfl,rfl⟩))
   go_roundw
   case rel =>
    refine⟨k+1,by simp,by omega,by rw[h8.out],by rw[c9.out],by rw[c9.out];omega,by rw[c9.out];omega,HG.out.trans (q34 _ _ _)⟩
   case measure=>simp[qb2];omega
  ·obtain rfl:k=l.length:=by omega
   rw[qcc] at ht0 ht1;rw[qcc];have HZ:=q1D (show q1o ps lim l=if zj ps l<=lim then 0 else 10 from rfl);generalize zj ps l=T at ht0 ht1 HZ;generalize zq l=M;have a9:=blk HG.out (by simp) g7.out;have m9:=qa (o:=0) a9 rfl;have m8:=qn (o:=0) a9;have d5:=q1D a9;have l7:=g5;clear a9;by_cases b8:T<=lim
   ·have HC:=q1D (HZ.out.trans (if_pos b8))
    go_wp2_with (first
     | (go_at_call 162;go_must (refine(must_t _ _).mono ?_);rintro e w' ⟨rfl,rfl⟩))
    refine leaves_cons (f:=161) (args:=#[.pointer (some ⟨A+1,0,none⟩)]) (by simp) (by simp[go_sem]) ?_;refine(q5l ⟨A+1,0,none⟩ _).mono ?_;rintro e u' e9 ⟨rfl,rfl,rfl⟩;have c8:(((wr.setCell ⟨A+1,0,none⟩ (.int .i64 0)).alloc (.cells #[.int .i64 0] 181)).heap[A+1]?=some (.cells #[.int .i64 0] 40 (0,0))):=qp (by rw[qh d5.out];rfl);refine⟨.int .i64 0,?_,by rw[HC.out],?_⟩
    ·simp[results,Tryz.results133,go_sem,qal,c8]
    ·have hh:=e7.out.trans HG.out
     exact(hh.andThen (qg _ _ _ _) (by rintro j e;cases e;exact .inl (by have:=HA.out;omega))).trans (q34 _ _ _)
   ·have HC:=q1D (HZ.out.trans (if_neg b8))
    have c3:decide (T<=lim)=false:=by simp;omega
    go_wp2_with (first
     | (go_at_call 162;go_must (refine(must_f _ _).mono ?_);rintro e w' ⟨rfl,rfl⟩))
    refine leaves_cons (f:=161) (args:=#[.pointer (some ⟨A+1,0,none⟩)]) (by simp) (by simp[go_sem]) ?_;refine(q7H (A+1) 0 10 [] _ d5.out).mono ?_;rintro e u' e9 ⟨rfl,rfl,rfl⟩;have hh:=e7.out.trans HG.out;have c8:=qh (o:=0) (v:=.int .i64 10) (qp (p:=.cells #[.int .i64 10] 181) d5.out);simp[Leaves,settle,results,Tryz.results133,go_sem,qal,c8,HC.out];exact(hh.trans (q34 _ _ none)).andThen (qg _ _ _ _) (by rintro j e;cases e;exact .inl (by have:=HA.out;omega))
structure YOk(ps:List Par)(lim:Int):Prop where
 len:ps.length<=5
 each:∀p∈ps,1<=p.mn/\p.mn<=p.mx/\p.mx<=12/\0<=p.bears/\p.bears<=30/\1<=p.tall/\p.tall<=3
 l1:1<=lim
 l2:lim<=12
theorem YOk.chk{ps:List Par}{lim:Int}(h:YOk ps lim):YT ps lim=0:=by
 have h1:=h.len;unfold YT;rw[if_neg (by omega),q1f _ ps (λi y hy=>by
  have:=h.each y (q8z hy);have hz:Ko y=0:=by unfold Ko;rw[if_pos (by omega),if_pos (by omega),if_neg (by omega),if_pos (by omega),if_pos (by omega)]
  simp[hz])]
 exact if_pos ⟨h.l1,h.l2⟩
structure POk(ps:List Par)(lim:Int)(l:List Int):Prop where
 ok:∀x∈l,0<=x/\x<ps.length
 nd:l.Nodup
 tall:zj ps l<=lim
 len:l.length<=100
structure PIn(ps:List Par)(l:List Int):Prop where
 ok:∀x∈l,0<=x/\x<ps.length
 nd:l.Nodup
 len:l.length<=100
theorem POk.pin{ps:List Par}{lim:Int}{l:List Int}(h:POk ps lim l):PIn ps l:=⟨h.ok,h.nd,h.len⟩
theorem POk.chk{ps:List Par}{lim:Int}{l:List Int}(h:POk ps lim l):q1o ps lim l=0:=if_pos h.tall
theorem q2C(lo hi:Nat)(pv qv:q58)(ps:List Par)(lim:Int)(l:List Int)(w:q3g)(hP:qr lo hi w pv ps)(hI:qe lo hi w qv l)(hhi:hi<=w.heap.size)(hok:YOk ps lim)(hp:PIn ps l) :
  qaD Tryp.prog 81 #[.agg #[pv,.int .i64 lim],qv] w λe w'=>e=.returned (.tuple #[.agg #[pv,.int .i64 lim],.int .i64 (q1o ps lim l)])/\w.grownBy w' none:=by
 obtain⟨yb,yc,rfl,h9,-⟩:=hP.cell;obtain⟨base,cap,rfl,k7,-⟩:=hI.cell;obtain⟨A,hA⟩:∃A,A=w.heap.size:=⟨_,rfl⟩
 obtain⟨w1,a7⟩:∃w1,w1=(w.alloc (.cells #[.slice yb ps.length yc,.int .i64 lim] 24)).alloc (.cells #[.slice none 0 0,.int .i64 0] 91):=⟨_,rfl⟩
 have b8:w.grownBy w1 none:=by rw[a7];exact(q34 _ _ none).trans (q34 _ _ none)
 have c3:w1.heap[A]?=some (.cells #[.slice yb ps.length yc,.int .i64 lim] 24 (0,0)):=by rw[a7,hA];exact qp (q7j w _)
 have d6:w1.heap[A+1]?=some (.cells #[.slice none 0 0,.int .i64 0] 91 (0,0)):=by
  rw[a7];have:=q7j (w.alloc (.cells #[.slice yb ps.length yc,.int .i64 lim] 24)) (.cells #[.slice none 0 0,.int .i64 0] 91);rw[q8f,<- hA] at this;exact this
 have k6:w1.heap.size=A+2:=by rw[a7,q8f,q8f,hA]
 have g7:=q1D (hI.kept b8 (by simp));have e4:=q1D (hP.kept b8 (by simp));have e7:=q1D a7;have HA:=q1D hA;have h8:=q1D b8;have e9:=q1D d6;have l4:=q1D c3;have q0:=qa c3 (o:=0) rfl;have q1:=qa c3 (o:=1) rfl;have k8:hi<=A:=by omega
 have HY:=q1D hok;have c8:=q1D hp;clear hP hI hok hp a7 hA b8 d6 c3;go_enter Tryp.func81,Tryz.ntmps81;go_upto_region 1 with(fail)
 rw[<- HA.out,show(w.alloc (.cells #[.slice yb ps.length yc,.int .i64 lim] 24)).alloc (.cells #[.slice none 0 0,.int .i64 0] 91)=w1 from e7.out.symm];go_upto_region 4 with(first
  | (go_at_call 52;go_must (refine(q7G lo hi _ ps lim _ ⟨_,rfl,e4.out⟩ (by omega)).mono ?_);rintro e w2 ⟨rfl,d9⟩;rw[HY.out.chk];have a6:=q1D d9;clear d9))
 have p0:=a6.out.cell q0 (by simp);have p1:=a6.out.cell q1 (by simp);have k5:=a6.out.size;clear q0 q1;go_upto_region 5 with(fail)
 obtain⟨Y,b6⟩:∃Y,Y=w2.heap.size:=⟨_,rfl⟩
 obtain⟨w3,a8⟩:∃w3,w3=w2.alloc (.cells #[.slice yb ps.length yc,.int .i64 lim] 91):=⟨_,rfl⟩
 have a9:w2.grownBy w3 none:=by rw[a8];exact q34 _ _ none
 have b9:w3.heap[Y]?=some (.cells #[.slice yb ps.length yc,.int .i64 lim] 91 (0,0)):=by rw[a8,b6];exact q7j _ _
 have k0:w3.heap.size=Y+1:=by rw[a8,q8f,b6]
 rw[<- b6,<- a8];have q0:=qa b9 (o:=0) rfl;have q1:=qa b9 (o:=1) rfl;have b0:=q1D (blk a9 (by simp) (blk a6.out (by simp) e9.out));have e5:=q1D b9;have g9:=q1D ((h8.out.trans a6.out).trans a9);have g6:=q1D ((g7.out.kept a6.out (by simp)).kept a9 (by simp));have g5:=q1D ((e4.out.kept a6.out (by simp)).kept a9 (by simp));have k9:A+1<Y:=by omega
 clear a9 b9 a8 b6 p0 p1;go_region_law
  (first
   | (go_simp;go_at_call 133;refine(kV lo hi _ _ ps lim l _ ⟨_,rfl,g5.out.kept (qc _ none) (by simp)⟩ (g6.out.kept (qc _ none) (by simp)) (by simp;omega) HY.out.len c8.out.ok c8.out.nd (λp hp=>by have:=HY.out.each p hp;omega) c8.out.len).mono ?_;rintro e w4 ⟨rfl,d8⟩;have Z:=q1D ((qc w3 none).trans d8);have r0:=qa (o:=0) (blk Z.out (by simp) e5.out) rfl;have r1:=qa (o:=1) (blk Z.out (by simp) e5.out) rfl;have s0:=qa (o:=0) (blk Z.out (by simp) b0.out) rfl;have s1:=qa (o:=1) (blk Z.out (by simp) b0.out) rfl;have f0:=qn (o:=0) (blk Z.out (by simp) b0.out);have f1:=qn (o:=1) (blk Z.out (by simp) b0.out);clear d8))
 all_goals
  have c9:=blk Z.out (by simp) b0.out;obtain⟨W,b7⟩:∃W,W=(w4.setCell ⟨A+1,0,none⟩ (.slice yb ps.length yc)).setCell ⟨A+1,1,none⟩ (.int .i64 lim):=⟨_,rfl⟩
  have d5:W.heap[A+1]?=some (.cells #[.slice yb ps.length yc,.int .i64 lim] 91 (0,0)):=by rw[b7,qh (qh c9)];rfl
  have d7:w.grownBy W none:=(g9.out.trans Z.out).andThen (row':=some (A+1)) (by rw[b7];exact(qg _ _ _ _).trans (qg _ _ _ _)) (by rintro j e;cases e;exact .inl (by have:=HA.out;omega));have e8:=q1D d5;have g8:=q1D d7;have e6:=q1D b7;clear c9 d5 d7 b7;go_wp2;rw[<- e6.out];exact qcG (v:=.tuple #[.agg #[.slice yb ps.length yc,.int .i64 lim],.int .i64 (q1o ps lim l)]) (by simp[results,Tryz.results81,go_sem,qal,e8.out]) rfl ⟨rfl,g8.out⟩
theorem vT(lo hi:Nat)(pv qv:q58)(ps:List Par)(lim:Int)(l:List Int)(w:q3g)(hP:qr lo hi w pv ps)(hI:qe lo hi w qv l)(hhi:hi<=w.heap.size)(hok:YOk ps lim)(hp:POk ps lim l) :
  qaD Tryp.prog 81 #[.agg #[pv,.int .i64 lim],qv] w λe w'=>e=.returned (.tuple #[.agg #[pv,.int .i64 lim],.int .i64 0])/\w.grownBy w' none:=by
 have h:=q2C lo hi pv qv ps lim l w hP hI hhi hok hp.pin
 rwa [hp.chk] at h
def verd(a b:Bool):Int:=if a != b then 3 else if a then 1 else 2
theorem q1E(a b:Bool)(w:q3g):qaD Tryp.prog 95 #[.bool a,.bool b] w λe w'=>e=.returned (.int .i64 (verd a b))/\w=w':=by
 cases a<;>cases b;all_goals
  go_enter Tryp.func95,Tryz.ntmps95;go_wp2;go_ret;exact⟨rfl,rfl⟩
theorem q4F(a b c d:Int)(w:q3g):qaD Tryp.prog 39 #[.int .i64 a,.int .i64 b,.int .i64 c,.int .i64 d] w λe w'=>e=.returned (.agg #[.int .i64 a,.int .i64 b,.int .i64 c,.int .i64 d])/\w.grownBy w' none:=by
 obtain⟨A,hA⟩:∃A,A=w.heap.size:=⟨_,rfl⟩
 obtain⟨w1,Z⟩:∃w1,w1=w.alloc (.cells #[.int .i64 0,.int .i64 0,.int .i64 0,.int .i64 0] 28):=⟨_,rfl⟩
 have hR:w1.heap[A]?=some (.cells #[.int .i64 0,.int .i64 0,.int .i64 0,.int .i64 0] 28 (0,0)):=by rw[Z,hA];exact q7j w _
 have hG:w.grownBy w1 none:=by rw[Z];exact q34 _ _ none
 have HA:=q1D hA;have b0:=q1D Z;have HR:=q1D hR;have HG:=q1D hG;have r0:=qa (o:=0) hR rfl;have r1:=qa (o:=1) hR rfl;have r2:=qa (o:=2) hR rfl;have r3:=qa (o:=3) hR rfl;have fz:∀o,w1.frozen? ⟨A,o,none⟩=false:=λo=>qn hR;clear hA Z hR hG;go_enter Tryp.func39,Tryz.ntmps39;go_upto_region 1 with(fail)
 rw[<- HA.out,show w.alloc (.cells #[.int .i64 0,.int .i64 0,.int .i64 0,.int .i64 0] 28)=w1 from b0.out.symm];obtain⟨W,a6⟩:∃W,W=(((w1.setCell ⟨A,0,none⟩ (.int .i64 a)).setCell ⟨A,1,none⟩ (.int .i64 b)).setCell ⟨A,2,none⟩ (.int .i64 c)).setCell ⟨A,3,none⟩ (.int .i64 d):=⟨_,rfl⟩
 have a7:W.heap[A]?=some (.cells #[.int .i64 a,.int .i64 b,.int .i64 c,.int .i64 d] 28 (0,0)):=by rw[a6,qh (qh (qh (qh HR.out)))];rfl
 have a8:w.grownBy W none:=HG.out.andThen (row':=some A) (by rw[a6];exact(((qg _ _ _ _).trans (qg _ _ _ _)).trans (qg _ _ _ _)).trans (qg _ _ _ _)) (by rintro j e;cases e;exact .inl (by have:=HA.out;omega));have b6:=q1D a7;have b7:=q1D a8;have a9:=q1D a6;clear a7 a8 a6;go_wp2;rw[<- a9.out];exact qcG (v:=.agg #[.int .i64 a,.int .i64 b,.int .i64 c,.int .i64 d]) (by simp[results,Tryz.results39,go_sem,qal,b6.out]) rfl ⟨rfl,b7.out⟩
def z8(n:Int):List Par:=[⟨8,10,n,2⟩,⟨4,6,6,2⟩,⟨2,3,3,1⟩,⟨5,5,0,1⟩]
theorem YOk.mn{ps:List Par}{lim:Int}(h:YOk ps lim)(i:Nat):0<=pre Par.mn ps ps.length i/\pre Par.mn ps ps.length i<=1000:=by
 unfold pre;split
 ·rename_i hi
  rw[q7C hi];have:=h.each _ (List.getElem_mem hi);simp only;omega
 ·omega
theorem YOk.mx{ps:List Par}{lim:Int}(h:YOk ps lim)(i:Nat):0<=pre Par.mx ps ps.length i/\pre Par.mx ps ps.length i<=1000:=by
 unfold pre;split
 ·rename_i hi
  rw[q7C hi];have:=h.each _ (List.getElem_mem hi);simp only;omega
 ·omega
def Qa(ps:List Par)(l:List Int):Int:=verd (qw ps (pre Par.mn ps ps.length) l) (qw ps (pre Par.mx ps ps.length) l)
theorem KF(lo hi:Nat)(pv qv:q58)(ps:List Par)(lim:Int)(l:List Int)(w:q3g)(hP:qr lo hi w pv ps)(hI:qe lo hi w qv l)(hhi:hi<=w.heap.size)(hok:YOk ps lim)(hp:POk ps lim l) :
  qaD Tryp.prog 37 #[.agg #[pv,.int .i64 lim],qv] w λe w'=>e=.returned (.tuple #[.int .i64 (Qa ps l),.int .i64 0])/\w.grownBy w' none:=by
 obtain⟨yb,yc,rfl,k7,-⟩:=hP.cell;obtain⟨base,cap,rfl,k8,-⟩:=hI.cell;obtain⟨A,hA⟩:∃A,A=w.heap.size:=⟨_,rfl⟩
 obtain⟨w1,a7⟩:∃w1,w1=w.alloc (.cells #[.slice yb ps.length yc,.int .i64 lim] 24):=⟨_,rfl⟩
 have b6:w.grownBy w1 none:=by rw[a7];exact q34 _ _ none
 have c8:w1.heap[A]?=some (.cells #[.slice yb ps.length yc,.int .i64 lim] 24 (0,0)):=by rw[a7,hA];exact q7j w _
 have g6:w1.heap.size=A+1:=by rw[a7,q8f,hA]
 have e6:=q1D (hI.kept b6 (by simp));have e5:=q1D (hP.kept b6 (by simp));have g7:=q1D a7;have HA:=q1D hA;have k0:=q1D b6;have q0:=qa c8 (o:=0) rfl;have q1:=qa c8 (o:=1) rfl;have k9:hi<=A:=by omega
 have HY:=q1D hok;have d5:=q1D hp;clear hP hI hok hp a7 hA b6 c8;go_enter Tryp.func37,Tryz.ntmps37;go_upto_region 1 with(fail)
 rw[<- HA.out,show w.alloc (.cells #[.slice yb ps.length yc,.int .i64 lim] 24)=w1 from g7.out.symm];go_upto_region 2 with(first
  | (go_at_call 81;go_must (refine(vT lo hi _ _ ps lim l _ e5.out e6.out (by omega) HY.out d5.out).mono ?_);rintro e w2 ⟨rfl,e4⟩;have b8:=q1D e4;clear e4))
 have g5:=b8.out.size;obtain⟨Y,a9⟩:∃Y,Y=w2.heap.size:=⟨_,rfl⟩
 obtain⟨w3,a6⟩:∃w3,w3=w2.alloc (.cells #[.slice yb ps.length yc,.int .i64 lim] 91):=⟨_,rfl⟩
 have b0:w2.grownBy w3 none:=by rw[a6];exact q34 _ _ none
 have b7:w3.heap[Y]?=some (.cells #[.slice yb ps.length yc,.int .i64 lim] 91 (0,0)):=by rw[a6,a9];exact q7j _ _
 have e9:w3.heap.size=Y+1:=by rw[a6,q8f,a9]
 rw[<- a9,<- a6];clear q0 q1;have s0:=qa b7 (o:=0) rfl;have s1:=qa b7 (o:=1) rfl;have Z:=q1D b7;have h9:=q1D ((k0.out.trans b8.out).trans b0);have h8:=q1D ((e6.out.kept b8.out (by simp)).kept b0 (by simp));have g8:=q1D ((e5.out.kept b8.out (by simp)).kept b0 (by simp));have l4:A<Y:=by omega
 have a8:hi<=w3.heap.size:=by omega
 clear b0 b7 a6 a9 g6 g5 e9;go_upto_region 4 with(fail)
 have HT:=q1D (q8j w3 none);have d6:∀W,w3.grownBy W none->jg lo hi W (.agg #[.slice yb ps.length yc,.int .i64 lim]) ps lim:=λW h=>⟨_,rfl,g8.out.kept h (by simp)⟩
 have d7:∀W,w3.grownBy W none->qe lo hi W (.slice base l.length cap) l:=λW h=>h8.out.kept h (by simp);have c9:=q1D d6;have g9:=q1D d7;clear d6 d7;have SC:=q1D (q8D s0 s1);obtain⟨gm,c3⟩:∃gm,gm=pre Par.mn ps ps.length:=⟨_,rfl⟩
 obtain⟨gx,b9⟩:∃gx,gx=pre Par.mx ps ps.length:=⟨_,rfl⟩
 have d9:∀i,0<=gm i/\gm i<=1000:=by rw[c3];exact HY.out.mn
 have d8:∀i,0<=gx i/\gx i<=1000:=by rw[b9];exact HY.out.mx
 have e8:=q1D c3;have e7:=q1D b9;have k6:=q1D d9;have k5:=q1D d8;clear c3 b9 d9 d8;go_region_held3 (λw'=>w'.cell? ⟨Y,0,none⟩=some (.slice yb ps.length yc)/\w'.cell? ⟨Y,1,none⟩=some (.int .i64 lim))
  (first | exact SC.out)
  (first
   | (go_at_call 93;refine(Qj lo hi _ ps lim _ (c9.out _ (by first | exact HT.out | exact HT.out.trans (qc _ _))) (q87 a8 (by first | exact HT.out.size | exact(HT.out.trans (qc _ none)).size)) HY.out.len).mono ?_;rintro e w5 ⟨rfl,hg⟩;rw[<- e8.out];replace HT:=q1D (show w3.grownBy w5 none by first | exact HT.out.trans hg | exact(HT.out.trans (qc _ _)).trans hg);replace SC:=q1D (show w5.cell? ⟨Y,0,none⟩=some (.slice yb ps.length yc)/\w5.cell? ⟨Y,1,none⟩=some (.int .i64 lim) from⟨qa (blk HT.out (by simp) Z.out) rfl,qa (blk HT.out (by simp) Z.out) rfl⟩);clear hg)
   | (go_at_call 92;refine(xT lo hi _ ps lim _ (c9.out _ (by first | exact HT.out | exact HT.out.trans (qc _ _))) (q87 a8 (by first | exact HT.out.size | exact(HT.out.trans (qc _ none)).size)) HY.out.len).mono ?_;rintro e w5 ⟨rfl,hg⟩;rw[<- e7.out];replace HT:=q1D (show w3.grownBy w5 none by first | exact HT.out.trans hg | exact(HT.out.trans (qc _ _)).trans hg);replace SC:=q1D (show w5.cell? ⟨Y,0,none⟩=some (.slice yb ps.length yc)/\w5.cell? ⟨Y,1,none⟩=some (.int .i64 lim) from⟨qa (blk HT.out (by simp) Z.out) rfl,qa (blk HT.out (by simp) Z.out) rfl⟩);clear hg)
   | (go_at_call 96;refine(kl lo hi _ _ ps lim l _ _ (c9.out _ (by first | exact HT.out | exact HT.out.trans (qc _ _))) (g9.out _ (by first | exact HT.out | exact HT.out.trans (qc _ _))) (q87 a8 (by first | exact HT.out.size | exact(HT.out.trans (qc _ none)).size)) HY.out.len d5.out.ok (by have:=d5.out.len;omega) (by first | exact k6.out | exact k5.out)).mono ?_;rintro e w5 ⟨rfl,hg⟩;replace HT:=q1D (show w3.grownBy w5 none by first | exact HT.out.trans hg | exact(HT.out.trans (qc _ _)).trans hg);replace SC:=q1D (show w5.cell? ⟨Y,0,none⟩=some (.slice yb ps.length yc)/\w5.cell? ⟨Y,1,none⟩=some (.int .i64 lim) from⟨qa (blk HT.out (by simp) Z.out) rfl,qa (blk HT.out (by simp) Z.out) rfl⟩);clear hg)
   | (go_at_call 95;refine(q1E _ _ _).mono ?_;rintro e w5 ⟨rfl,rfl⟩))
 have HV:=q1D (show Qa ps l=verd (qw ps gm l) (qw ps gx l) by rw[e8.out,e7.out];rfl);generalize verd (qw ps gm l) (qw ps gx l)=z at HV ⊢;go_wp2;go_ret2;exact⟨by rw[HV.out];rfl,h9.out.trans HT.out⟩
theorem q2d(lo hi:Nat)(pv qv:q58)(ps:List Par)(lim:Int)(l:List Int)(w:q3g)(hP:qr lo hi w pv ps)(hI:qe lo hi w qv l)(hhi:hi<=w.heap.size)(hok:YOk ps lim)(hp:PIn ps l) :
  qaD Tryp.prog 37 #[.agg #[pv,.int .i64 lim],qv] w λe w'=>∃v,e=.returned (.tuple #[.int .i64 v,.int .i64 (q1o ps lim l)])/\(zj ps l<=lim->v=Qa ps l)/\w.grownBy w' none:=by
 by_cases ht:zj ps l<=lim
 ·refine(KF lo hi pv qv ps lim l w hP hI hhi hok ⟨hp.ok,hp.nd,ht,hp.len⟩).mono ?_
  rintro e w' ⟨rfl,hg⟩;exact⟨_,by rw[show q1o ps lim l=0 from if_pos ht],λ_=>rfl,hg⟩
 ·have hc:q1o ps lim l=10:=if_neg ht
  obtain⟨yb,yc,rfl,a9,-⟩:=hP.cell;obtain⟨base,cap,rfl,b0,-⟩:=hI.cell;have HP:=q1D hP;have HI:=q1D hI;have HC:=q1D hc;have a7:=q1D hok;have a6:=q1D hp;clear hP hI hc hok hp;go_enter Tryp.func37,Tryz.ntmps37;go_wp2_with (first
   | (go_at_call 81;go_must (refine(q2C lo hi _ _ ps lim l _ (HP.out.kept (q34 _ _ none) (by simp)) (HI.out.kept (q34 _ _ none) (by simp)) (q87 hhi (q34 w _ none).size) a7.out a6.out).mono ?_);rintro e w2 ⟨rfl,Z⟩;rw[HC.out];have a8:=q1D ((q34 w (.cells #[.slice yb ps.length yc,.int .i64 lim] 24) none).trans Z);clear Z))
  go_ret2;exact⟨0,by rw[HC.out];rfl,λh=>by omega,a8.out.trans (q34 _ _ none)⟩
def zP(ps:List Par)(g:Nat->Int)(l:List Int):Nat->Int
 | 0=>30
 | k+1=>match ps[(l[k]?.getD 0).toNat]? with | some p=>min (zP ps g l k) (p.bears - loadAt g l k) | none=>zP ps g l k
theorem KN(lo hi:Nat)(yv pv:q58)(ps:List Par)(lim:Int)(l:List Int)(g:Nat->Int)(w:q3g)(hY:jg lo hi w yv ps lim)(hI:qe lo hi w pv l)(hhi:hi<=w.heap.size)(h5:ps.length<=5)(hx:∀x∈l,0<=x/\x<ps.length)(hl:l.length<=1000)(hg:∀i,0<=g i/\g i<=1000)(hb:∀p∈ps,0<=p.bears/\p.bears<=1000) :
  qaD Tryp.prog 94 #[yv,pv,wts g] w λe w'=>e=.returned (.int .i64 (zP ps g l l.length))/\w.grownBy w' none:=by
 obtain⟨qv,rfl,hP⟩:=hY;obtain⟨yb,yc,rfl,g5,-⟩:=hP.cell;obtain⟨base,cap,rfl,h9,-⟩:=hI.cell;obtain⟨A,hA⟩:∃A,A=w.heap.size:=⟨_,rfl⟩
 obtain⟨w1,Z⟩:∃w1,w1=(w.alloc (.cells #[.slice yb ps.length yc,.int .i64 lim] 91)).alloc (qE g):=⟨_,rfl⟩
 have b6:w.grownBy w1 none:=by rw[Z];exact(q34 _ _ none).trans (q34 _ _ none)
 have a8:w1.heap[A]?=some (.cells #[.slice yb ps.length yc,.int .i64 lim] 91 (0,0)):=by rw[Z,hA];exact qp (q7j w _)
 have a6:w1.heap[A+1]?=some (qE g):=by
  rw[Z];have:=q7j (w.alloc (.cells #[.slice yb ps.length yc,.int .i64 lim] 91)) (qE g);rw[q8f,<- hA] at this;exact this
 have g9:w1.heap.size=A+2:=by rw[Z,q8f,q8f,hA]
 have d6:=q1D (hI.kept b6 (by simp));have e5:=q1D (hP.kept b6 (by simp));have HX:=q1D hx;have d7:=q1D hg;have e4:=q1D Z;have HA:=q1D hA;have e6:=q1D b6;have l6:=q1D a8;have q0:=qa a8 (o:=0) rfl;have q1:=qa a8 (o:=1) rfl;have r0:=ql a6 (show 0<5 by omega);have r1:=ql a6 (show 1<5 by omega);have r2:=ql a6 (show 2<5 by omega);have r3:=ql a6 (show 3<5 by omega);have r4:=ql a6 (show 4<5 by omega);have k0:hi<=A:=by omega
 clear hI hP hx hg Z hA b6 a8 a6;unfold wts;go_enter Tryp.func94,Tryz.ntmps94;go_upto_region 2 with(fail)
 rw[<- HA.out,show(w.alloc (.cells #[.slice yb ps.length yc,.int .i64 lim] 91)).alloc (.cells #[.int .i64 (g 0),.int .i64 (g 1),.int .i64 (g 2),.int .i64 (g 3),.int .i64 (g 4)] 101)=w1 from e4.out.symm];go_wp2_with (first | (go_at_call 91;go_must (refine(Qi lo hi _ _ l g _ d6.out (by omega) (by intro x hx;have:=HX.out x hx;omega) hl d7.out ⟨_,_,rfl⟩).mono ?_);rintro e w2 ⟨lv,rfl,c3,hL2⟩;have a7:=hL2.cell;rw[yY] at a7;obtain⟨lb,lc,rfl,-,a7⟩:=a7;have e7:=q1D a7;clear a7;have a9:=q1D c3;have l5:=q1D hL2;clear c3 hL2));have d8:=a9.out.cell q0 (by simp);have g8:=a9.out.size;clear r0 r1 r2 r3 r4 q0 q1;have e8:=q1D hb;clear hb;go_loopw [7,15] (λnv iv wr=>∃k:Nat,iv=.int .i64 k/\k<=l.length/\nv=.int .i64 (zP ps g l k)/\w2.grownBy wr none) (λ_ iv _=>(l.length - qb2 iv).toNat)
 case atStart=>exact⟨0,rfl,by omega,rfl,q8j _ _⟩
 case round =>
  obtain⟨k,rfl,hk,rfl,hG⟩:=hrel;have HG:=q1D hG;have e9:=hG.cell d8 (by simp);have g7:=hG.size;by_cases hlt:k<l.length
  ·have d5:=(d6.out.kept a9.out (by simp)).kept hG (by simp)
   have c9:=(e5.out.kept a9.out (by simp)).kept hG (by simp);obtain⟨b1,c1,he,-,hc⟩:=d5.cell;cases he;obtain⟨B,o,rfl,a8,l4,k9,c8⟩:=hc (by intro e;rw[e] at hlt;simp at hlt);have hx:=c8 k hlt;obtain⟨x,b0⟩:∃x,l[k]?=some x:=⟨_,q7C hlt⟩
   obtain⟨g6,b7⟩:=HX.out x (q8z b0);rw[b0] at hx;simp only[q88] at hx;obtain⟨m,rfl⟩:∃m:Nat,x=m:=⟨x.toNat,by omega⟩
   obtain⟨b2,c2,he,-,hc⟩:=c9.cell;cases he;obtain⟨YB,yo,rfl,k8,k7,k6,b9⟩:=hc (by intro e;rw[e] at b7;simp at b7;omega);obtain⟨p,hp,p0,p1,p2,p3⟩:=b9 m (by omega);obtain⟨LB,lo',rfl,hL1,hL2,hL3,hL4⟩:=e7.out (by intro e;have:=yY g l;rw[e] at this;simp at this;omega);have b8:=HG.out.cell (hL4 k hlt) (by simp);rw[JE g l k hlt] at b8;have hs:zP ps g l (k+1)=min (zP ps g l k) (p.bears - loadAt g l k):=by simp[zP,b0,hp]
   have k5:=e8.out p (q8z hp);have d9:=q08 g l k d7.out hl;have h8:(m:Int)<(ps.length:Int):=b7;generalize loadAt g l k=ld at b8 hs d9;generalize zP ps g l k=S0 at hs;obtain⟨M,hM⟩:∃M,min S0 (p.bears - ld)=M:=⟨_,rfl⟩
   have hmm:(if p.bears - ld<S0 then p.bears - ld else S0)=M:=by rw[<- hM];omega
   have HS:=q1D (hs.trans hM);clear hG d5 c9 hc c8 b9 hL4 b0 hp hs;go_upto_region 5 with(fail)
   go_quiet (fail);go_wp2;go_roundw
   case rel=>exact⟨k+1,by simp,by omega,by rw[HS.out],HG.out.trans (qi _ _ _)⟩
   case measure=>simp[qb2];omega
  ·obtain rfl:k=l.length:=by omega
   clear hG;go_wp2;go_ret;exact⟨rfl,(e6.out.trans a9.out).trans HG.out⟩
theorem jX(la ha lb hb:Nat)(va vb:q58)(a b:List Int)(w:q3g)(hA:qe la ha w va a)(hB:qe lb hb w vb b) :
  qaD Tryp.prog 31 #[va,vb] w λe w'=>e=.returned (.bool (decide (a=b)))/\w.grownBy w' none:=by
 obtain⟨ba,ca,rfl,b6,h1⟩:=hA.cell;obtain⟨bb,cb,rfl,hl2,h2⟩:=hB.cell;have H1:=q1D h1;have H2:=q1D h2;clear h1 h2 hA hB;by_cases Z:a.length=b.length
 ·have HL:=q1D Z
  have a7:((a.length:Int) != (b.length:Int))=false:=by rw[Z];simp
  clear Z;go_enter Tryp.func31,Tryz.ntmps31;go_wp2;go_loopw [5] (λiv wr=>∃k:Nat,iv=.int .i64 k/\k<=a.length/\(∀i,i<k->a[i]?=b[i]?)/\w.grownBy wr none) (λiv _=>(a.length - qb2 iv).toNat)
  case atStart=>exact⟨0,rfl,by omega,λi hi=>absurd hi (by omega),q8j _ _⟩
  case round =>
   obtain⟨k,rfl,hk,hok,hG⟩:=hrel;have b0:=q1D hok;have HG:=q1D hG;clear hok;by_cases hlt:k<a.length
   ·have a6:k<b.length:=by have:=HL.out;omega
    obtain⟨A1,o1,rfl,d6,d5,c9,a9⟩:=H1.out (by intro e;rw[e] at hlt;simp at hlt);obtain⟨B1,o2,rfl,c8,c3,b9,a8⟩:=H2.out (by intro e;rw[e] at a6;simp at a6);have x1:=hG.cell (a9 k hlt) (by simp);have x2:=hG.cell (a8 k a6) (by simp);have e1:a[k]?=some (a[k]?.getD 0):=by simp[q7C hlt]
    have e2:b[k]?=some (b[k]?.getD 0):=by simp[q7C a6]
    generalize a[k]?.getD 0=x at x1 e1;generalize b[k]?.getD 0=y at x2 e2;have b7:(k:Int)<(b.length:Int):=by omega
    have b8:(k:Int)<(a.length:Int):=by omega
    have E1:=q1D e1;have E2:=q1D e2;clear a9 a8 hG e1 e2;by_cases hxy:x=y
    ·subst hxy
     go_upto_region 6 with(fail)
     go_quiet (fail);go_wp2;go_roundw
     case rel =>
      refine⟨k+1,by simp,by omega,λi hi=>?_,HG.out.trans (qi _ _ _)⟩;by_cases e:i=k
      ·rw[e,E1.out,E2.out]
      ·exact b0.out i (by omega)
     case measure=>simp[qb2];omega
    ·have HR:=q1D (show decide (a=b)=false by
      rw[decide_eq_false_iff_not];intro e;have h1:=E1.out;rw[e,E2.out] at h1;exact hxy (by cases h1;rfl))
     have hne:(x != y)=true:=by simp[hxy]
     go_upto_region 6 with(fail)
     go_quiet (fail);go_wp2;go_ret;exact⟨by rw[HR.out];rfl,HG.out.trans (qi _ _ _)⟩
   ·obtain rfl:k=a.length:=by omega
    have HR:=q1D (show decide (a=b)=true by
     rw[decide_eq_true_eq];refine List.ext_getElem? λi=>?_;by_cases hi:i<a.length
     ·exact b0.out i hi
     ·rw[qd5 (by omega),qd5 (by have:=HL.out;omega)])
    clear hG;go_wp2;go_ret;exact⟨by rw[HR.out];rfl,HG.out⟩
 ·have HR:=q1D (show decide (a=b)=false by
   rw[decide_eq_false_iff_not];intro e;exact Z (by rw[e]))
  have a7:((a.length:Int) != (b.length:Int))=true:=by simp;omega
  clear Z;go_enter Tryp.func31,Tryz.ntmps31;go_wp2;go_ret;exact⟨by rw[HR.out];rfl,q8j _ _⟩
def zp(w:q3g)(b g:Nat):Prop :=
 ∃(base:Option qb9) (len cap:Nat) (g':Nat) (s:Int),g'<=g/\w.heap[b]?=some (.cells #[.slice base len cap,.int .i64 g',.int .u64 s] 89 (0,0))/\(len:Int)<=9223372036854775807 /\
  (0<len->∃lb lo,base=some ⟨lb,lo,none⟩/\lb<b/\∀i,i<len->∃x,w.cell? ⟨lb,lo+i,none⟩=some (.int .i64 x))
theorem zp.mono{w:q3g}{b g g':Nat}(h:zp w b g)(hg:g<=g'):zp w b g':=by
 obtain⟨base,len,cap,k,s,hk,r⟩:=h;exact⟨base,len,cap,k,s,by omega,r⟩
theorem q25{w:q3g}{b g:Nat}{base:Option qb9}{len cap:Nat}{s s':Int}{z:q58}
  (hb:w.heap[b]?=some (.cells #[.slice base len cap,.int .i64 g,.int .u64 s] 89 (0,0))) (hl:(len:Int)<=9223372036854775807)
  (hr:0<len->∃lb lo,base=some ⟨lb,lo,none⟩/\lb<b/\∀i,i<len->∃x,w.cell? ⟨lb,lo+i,none⟩=some (.int .i64 x)) (nq:Nat) :
  w.grownBy ((((w.drewN nq).setCell ⟨b,1,none⟩ (.int .i64 (g+1))).setCell ⟨b,2,none⟩ z).setCell ⟨b,2,none⟩ (.int .u64 s')).drew (some b) /\
  zp ((((w.drewN nq).setCell ⟨b,1,none⟩ (.int .i64 (g+1))).setCell ⟨b,2,none⟩ z).setCell ⟨b,2,none⟩ (.int .u64 s')).drew b (g+1) /\
  ((((w.drewN nq).setCell ⟨b,1,none⟩ (.int .i64 (g+1))).setCell ⟨b,2,none⟩ z).setCell ⟨b,2,none⟩ (.int .u64 s')).drew.heap.size=w.heap.size:=by
 refine⟨((((qi w nq _).trans (qg _ b 1 _)).trans (qg _ b 2 _)).trans (qg _ b 2 _)).trans (qc _ _),?_,by simp[qci,World.drewN,World.drew]⟩;have h1:(w.drewN nq).heap[b]?=some (.cells #[.slice base len cap,.int .i64 g,.int .u64 s] 89 (0,0)):=hb;have h2:=qh (o:=2) (v:=.int .u64 s') (qh (o:=2) (v:=z) (qh (o:=1) (v:=.int .i64 (g+1)) h1));refine⟨base,len,cap,g+1,s',q5m _,by simpa[World.drew] using h2,hl,λhp=>?_⟩;obtain⟨lb,lo,e1,e2,e4⟩:=hr hp;refine⟨lb,lo,e1,e2,λi hi=>?_⟩;obtain⟨x,hx⟩:=e4 i hi;refine⟨x,?_⟩;have hne:∀o,(⟨b,o,none⟩:qb9)≠⟨lb,lo+i,none⟩:=λo e=>by cases e;omega
 show qal ((((w.drewN nq).setCell ⟨b,1,none⟩ (.int .i64 (g+1))).setCell ⟨b,2,none⟩ z).setCell ⟨b,2,none⟩ (.int .u64 s')) _=_;rw[qbG _ _ _ _ (hne _),qbG _ _ _ _ (hne _),qbG _ _ _ _ (hne _)];exact hx
theorem zp.lt{w:q3g}{b g:Nat}(h:zp w b g):b<w.heap.size:=by
 obtain⟨_,_,_,_,_,_,hb,_⟩:=h;exact(q45.1 hb).1
theorem zp.kept{w w':q3g}{b g:Nat}{row:Option Nat}(h:zp w b g)(hg:w.grownBy w' row)(hr:∀B,row=some B->b<B):zp w' b g:=by
 have hlt:=h.lt;have hne:some b≠row:=λe=>by have:=hr b e.symm;omega
 obtain⟨base,len,cap,g',s,hk,hb,hl,hr'⟩:=h;refine⟨base,len,cap,g',s,hk,(hg.block b hlt hne).trans hb,hl,λhp=>?_⟩;obtain⟨lb,lo,e1,e2,e4⟩:=hr' hp;exact⟨lb,lo,e1,e2,λi hi=>(e4 i hi).imp λx hx=>hg.cell hx (λe=>by have:=hr lb e.symm;omega)⟩
theorem zp.alloc{w:q3g}{b g:Nat}(h:zp w b g)(o:Obj):zp (w.alloc o) b g:=h.kept (q34 w o none) (by simp)
theorem zp.set{w:q3g}{b g X o:Nat}{v:q58}(h:zp w b g)(hX:b<X):zp (w.setCell ⟨X,o,none⟩ v) b g:=h.kept (qg w X o v) (by rintro B e;cases e;exact hX)
theorem tn_own{w w':q3g}{b B e size n:Nat}{v:q58}{xs:List q58}(hg:w.grownBy w' (some b))(h:w.ownsRow B e size v n xs)(hb:b<B):w'.ownsRow B e size v n xs :=
 h.kept hg (by
  by_cases e:v.ownBlock=some b
  ·have:=(h.lt b e).1;omega
  ·exact .inr e)
theorem gown{w w1 w2:q3g}{b:Nat}{row:Option Nat}(h:w.grownBy w1 (some b))(k:w1.grownBy w2 row)(hr:∀j,row=some j->w.heap.size<=j):w.grownBy w2 (some b) :=
 h.andThen k λj e=>.inl (hr j e)
def Tn(b g:Nat)(w w':q3g):Prop:=w.grownBy w' (some b)/\zp w' b g
def QA(k:IntKind)(b g:Nat)(w:q3g)(p:Int->Prop)(e:Ending)(w':q3g):Prop:=∃r,p r/\e=.returned (.int k r)/\Tn b g w w'/\w'.heap.size=w.heap.size
theorem wrap_lt(x:Int):0<=IntKind.u64.wrap x/\IntKind.u64.wrap x<18446744073709551616:=by
 have h:IntKind.u64.bits=64:=rfl;have hs:IntKind.u64.signed=false:=rfl;simp only[IntKind.wrap,h,hs];constructor
 ·simp;omega
 ·simp;omega
theorem bits_lt(op:BinOp)(x y:Int):0<=bits op .u64 x y/\bits op .u64 x y<18446744073709551616:=by
 unfold bits;exact wrap_lt _
theorem xdiv(x y:Int):0<=bits .xor .u64 x y / 512/\bits .xor .u64 x y / 512<36028797018963968:=by
 have:=bits_lt .xor x y;omega
theorem q8q(b:Nat)(lb lo:Nat)(len cap:Nat)(g:Nat)(s x:Int)(w:q3g)(hg:g<4611686018427387904)
  (hb:w.heap[b]?=some (.cells #[.slice (some ⟨lb,lo,none⟩) len cap,.int .i64 g,.int .u64 s] 89 (0,0))) (hl:(len:Int)<=9223372036854775807) (hlt:g<len)
  (hr:0<len->∃lb' lo',(some ⟨lb,lo,none⟩:Option qb9)=some ⟨lb',lo',none⟩/\lb'<b/\∀i,i<len->∃x,w.cell? ⟨lb',lo'+i,none⟩=some (.int .i64 x))
  (cx:w.cell? ⟨lb,lo+g,none⟩=some (.int .i64 x)) :
  qaD Tryp.prog 125 #[.pointer (some ⟨b,0,none⟩)] w (QA .u64 b (g+1) w λu=>0<=u/\u<36028797018963968):=by
 have c0:w.cell? ⟨b,0,none⟩=some (.slice (some ⟨lb,lo,none⟩) len cap):=by simp[qal,hb]
 have c1:w.cell? ⟨b,1,none⟩=some (.int .i64 g):=by simp[qal,hb]
 have c2:w.cell? ⟨b,2,none⟩=some (.int .u64 s):=by simp[qal,hb]
 have f1:w.frozen? ⟨b,1,none⟩=false:=by simp[World.frozen?,hb]
 have f2:w.frozen? ⟨b,2,none⟩=false:=by simp[World.frozen?,hb]
 have Z:(g:Int)<(len:Int):=by omega
 have hs:∀(nq:Nat) (u v z:q58),((((w.drewN nq).setCell ⟨b,1,none⟩ u).setCell ⟨b,2,none⟩ v).setCell ⟨b,2,none⟩ z).cell? ⟨b,2,none⟩=some z:=by
  intro nq u v z;refine qe7 _ _ _ (u:=v) ?_;refine qe7 _ _ _ (u:=.int .u64 s) ?_;rw[qbG _ _ _ _ (by simp)];simpa using c2
 have HP:=λnq z s'=>q25 (z:=z) (s':=s') hb hl hr nq;have HB:=q1D HP;have HL:=q1D hb;have HR:=q1D hr;clear HP hb hr;go_enter Tryp.func125,Tryz.ntmps125;go_wp2;go_quiet (fail);go_wp2;go_quiet (fail);go_wp2;go_region;all_goals go_wp2
 all_goals go_ret
 all_goals exact⟨_,xdiv _ _,rfl,⟨(HB.out _ _ _).1,(HB.out _ _ _).2.1⟩,(HB.out _ _ _).2.2⟩
theorem q8r(b:Nat)(base:Option qb9)(len cap:Nat)(g:Nat)(s:Int)(w:q3g)(hg:g<4611686018427387904)
  (hb:w.heap[b]?=some (.cells #[.slice base len cap,.int .i64 g,.int .u64 s] 89 (0,0))) (hl:(len:Int)<=9223372036854775807) (hlt:¬ g<len)
  (hr:0<len->∃lb' lo',base=some ⟨lb',lo',none⟩/\lb'<b/\∀i,i<len->∃x,w.cell? ⟨lb',lo'+i,none⟩=some (.int .i64 x)) :
  qaD Tryp.prog 125 #[.pointer (some ⟨b,0,none⟩)] w (QA .u64 b (g+1) w λu=>0<=u/\u<36028797018963968):=by
 have c0:w.cell? ⟨b,0,none⟩=some (.slice base len cap):=by simp[qal,hb]
 have c1:w.cell? ⟨b,1,none⟩=some (.int .i64 g):=by simp[qal,hb]
 have c2:w.cell? ⟨b,2,none⟩=some (.int .u64 s):=by simp[qal,hb]
 have f1:w.frozen? ⟨b,1,none⟩=false:=by simp[World.frozen?,hb]
 have f2:w.frozen? ⟨b,2,none⟩=false:=by simp[World.frozen?,hb]
 have Z:(len:Int)<=(g:Int):=by omega
 have hs:∀(nq:Nat) (u v z:q58),((((w.drewN nq).setCell ⟨b,1,none⟩ u).setCell ⟨b,2,none⟩ v).setCell ⟨b,2,none⟩ z).cell? ⟨b,2,none⟩=some z:=by
  intro nq u v z;refine qe7 _ _ _ (u:=v) ?_;refine qe7 _ _ _ (u:=.int .u64 s) ?_;rw[qbG _ _ _ _ (by simp)];simpa using c2
 have HP:=λnq z s'=>q25 (z:=z) (s':=s') hb hl hr nq;have HB:=q1D HP;have HL:=q1D hb;have HR:=q1D hr;clear HP hb hr;go_enter Tryp.func125,Tryz.ntmps125;go_wp2;go_quiet (fail);go_wp2;go_region;all_goals go_wp2
 all_goals go_ret
 all_goals exact⟨_,xdiv _ _,rfl,⟨(HB.out _ _ _).1,(HB.out _ _ _).2.1⟩,(HB.out _ _ _).2.2⟩
theorem Ky(b g:Nat)(w:q3g)(ht:zp w b g)(hg:g<4611686018427387904) :
  qaD Tryp.prog 125 #[.pointer (some ⟨b,0,none⟩)] w (QA .u64 b (g+1) w λu=>0<=u/\u<36028797018963968):=by
 obtain⟨base,len,cap,g',s,hk,hb,hl,hr⟩:=ht;have fin:∀e w',QA .u64 b (g'+1) w (λu=>0<=u/\u<36028797018963968) e w'->QA .u64 b (g+1) w (λu=>0<=u/\u<36028797018963968) e w':=by
  rintro e w' ⟨r,h1,h2,h3,h4⟩;exact⟨r,h1,h2,⟨h3.1,h3.2.mono (by omega)⟩,h4⟩
 by_cases hlt:g'<len
 ·obtain⟨lb,lo,rfl,e2,e4⟩:=hr (by omega)
  obtain⟨x,hx⟩:=e4 g' hlt;exact(q8q b lb lo len cap g' s x w (by omega) hb hl hlt hr hx).mono fin
 ·exact(q8r b base len cap g' s w (by omega) hb hl hlt hr).mono fin
def Ints(b:Nat)(w:q3g)(v:q58)(l:List Int):Prop :=
 ∃base cap,v=.slice base l.length cap/\(l.length:Int)<=9223372036854775807/\(l≠[]->∃B o,base=some ⟨B,o,none⟩/\B≠b/\B<w.heap.size/\∀i,i<l.length->w.cell? ⟨B,o+i,none⟩=some (.int .i64 (l[i]?.getD 0)))
theorem Ints.laid{b:Nat}(w:q3g)(l:List Int)(n:Nat)(hn:n=l.length)(hb:b<w.heap.size)(hl:l.length<=1000)(fr:Nat × Nat:=(0,0)) :
  Ints b (w.alloc (.cells (l.map (q9q .i64)).toArray 3 fr)) (.slice (some ⟨w.heap.size,0,none⟩) n n) l:=by
 subst hn;refine⟨_,_,rfl,by omega,λ_=>⟨w.heap.size,0,rfl,by omega,by simp,λi hi=>?_⟩⟩;have:=q7j w (.cells (l.map (q9q .i64)).toArray 3 fr);unfold qal;rw[this];simp[q7C hi]
theorem rem_fit{u n:Int}(_:0<=u)(hn:0<=n):0<=u % (n+1)/\u % (n+1)<=n:=by
 have h1:=Int.emod_nonneg u (show n+1≠0 by omega);have h2:=Int.emod_lt_of_pos u (show 0<n+1 by omega);omega
theorem q8h(b g:Nat)(n:Int)(w:q3g)(ht:zp w b g)(hg:g<4611686018427387904)(hn:n<1) :
  qaD Tryp.prog 68 #[.pointer (some ⟨b,0,none⟩),.int .i64 n] w (QA .i64 b (g+1) w λr=>r=0):=by
 have HT:=q1D ht;clear ht;go_enter Tryp.func68,Tryz.ntmps68;go_wp2_with (go_at_call 125;refine(Ky b g _ HT.out hg).mono ?_;rintro e w' ⟨u,⟨a8,a7⟩,rfl,HN,HS⟩;have a6:=q1D HN;have Z:=q1D HS;clear HN HS);go_ret;exact⟨0,rfl,rfl,a6.out,Z.out⟩
theorem q8i(b g:Nat)(n:Int)(w:q3g)(ht:zp w b g)(hg:g<4611686018427387904)(hn:1<=n)(hm:n<=1000000000) :
  qaD Tryp.prog 68 #[.pointer (some ⟨b,0,none⟩),.int .i64 n] w (QA .i64 b (g+1) w λr=>0<=r/\r<=n):=by
 have HT:=q1D ht;clear ht;go_enter Tryp.func68,Tryz.ntmps68;go_wp2_with (go_at_call 125;refine(Ky b g _ HT.out hg).mono ?_;rintro e w' ⟨u,⟨Z,a8⟩,rfl,HN,HS⟩;have a7:=q1D HN;have a6:=q1D HS;clear HN HS);go_ret;have hf:=rem_fit Z (show 0<=n by omega);refine⟨_,?_,rfl,a7.out,a6.out⟩;rw[IntWalk.wrap64_in (u % (n+1)) ⟨by omega,by omega⟩];exact hf
theorem Q9(b g:Nat)(n:Int)(w:q3g)(ht:zp w b g)(hg:g<4611686018427387904)(hm:n<=1000000000) :
  qaD Tryp.prog 68 #[.pointer (some ⟨b,0,none⟩),.int .i64 n] w (QA .i64 b (g+1) w λr=>0<=r/\(r<=n\/r=0)):=by
 by_cases hn:n<1
 ·refine(q8h b g n w ht hg hn).mono ?_
  rintro e w' ⟨r,h1,h2⟩;exact⟨r,by omega,h2⟩
 ·refine(q8i b g n w ht hg (by omega) hm).mono ?_
  rintro e w' ⟨r,h1,h2⟩;exact⟨r,by omega,h2⟩
theorem xE(b g:Nat)(lo hi:Int)(w:q3g)(ht:zp w b g)(hg:g<4611686018427387904)(h1:-1000000000<=lo)(h2:lo<=400000000)(h3:-400000000<=hi)(h4:hi<=400000000)(h5:hi - lo<=1000000000) :
  qaD Tryp.prog 70 #[.pointer (some ⟨b,0,none⟩),.int .i64 lo,.int .i64 hi] w (QA .i64 b (g+1) w λr=>lo<=r/\(r<=hi\/r=lo)):=by
 have HT:=q1D ht;clear ht;go_enter Tryp.func70,Tryz.ntmps70;go_wp2_with (go_at_call 68;refine(Q9 b g _ _ HT.out hg (by omega)).mono ?_;rintro e w' ⟨u,⟨a9,a8⟩,rfl,HN,HS⟩;have a6:=q1D HN;have Z:=q1D HS;clear HN HS;have a7:u<=1400000000:=by omega);go_ret;refine⟨_,?_,rfl,a6.out,Z.out⟩;omega
theorem xH(b g:Nat)(v:q58)(l:List Int)(w:q3g)(ht:zp w b g)(hg:g<4611686018427387904)(hl:Ints b w v l)(hne:0<l.length)(hm:l.length<=1000) :
  qaD Tryp.prog 90 #[.pointer (some ⟨b,0,none⟩),v] w (QA .i64 b (g+1) w λr=>r∈l):=by
 obtain⟨base,cap,rfl,a9,hr⟩:=hl;obtain⟨B,o,rfl,e2,e3,e4⟩:=hr (by intro e;rw[e] at hne;simp at hne);have HT:=q1D ht;have E4:=q1D e4;clear ht e4 hr;go_enter Tryp.func90,Tryz.ntmps90;go_wp2_with (first | (go_at_call 68;go_must (refine(Q9 b g _ _ HT.out hg (by omega)).mono ?_);rintro e w' ⟨u,⟨a6,a8⟩,rfl,HN,HS⟩;have Z:=q1D HN;have a7:=q1D HS;clear HN HS;go_must (obtain⟨k,rfl⟩:=Int.eq_ofNat_of_zero_le a6);go_must (have hk:k<l.length:=by omega);go_must (have b0:(k:Int)<(l.length:Int):=by omega);go_must (have hc:w'.cell? ⟨B,o+k,none⟩=some (.int .i64 (l[k]?.getD 0)):=Z.out.1.cell (E4.out k hk) (λe=>e2 (by cases e;rfl)))));go_ret;refine⟨_,?_,rfl,Z.out,a7.out⟩;simp[q7C hk]
theorem q51(base:Option qb9)(len cap:Nat)(w:q3g)(hl:(len:Int)<=9223372036854775807)(hr:0<len->∃lb lo,base=some ⟨lb,lo,none⟩/\∀i,i<len->∃x,w.cell? ⟨lb,lo+i,none⟩=some (.int .i64 x)) :
  qaD Tryp.prog 24 #[.slice base len cap] w λe w'=>e=.returned (.pointer (some ⟨w.heap.size,0,none⟩))/\w.grownBy w' none/\zp w' w.heap.size 0:=by
 have HR:=q1D hr;clear hr;go_enter Tryp.func24,Tryz.ntmps24;go_wp2;go_ret;refine⟨rfl,q34 _ _ _,base,len,cap,0,7640891576956012809,q5m _,q7j _ _,hl,λhp=>?_⟩;obtain⟨lb,lo,e,h⟩:=HR.out hp;obtain⟨x0,Z⟩:=h 0 hp;have hlt:lb<w.heap.size:=block_lt_of_cell Z;refine⟨lb,lo,e,hlt,λi hi=>?_⟩;obtain⟨x,hx⟩:=h i hi;exact⟨x,(q34 w _ none).cell hx (by simp)⟩
structure q43(p:Par):Prop where
 a:1<=p.mn
 b:p.mn<=8
 c:p.mn<=p.mx
 d:p.mx<=p.mn+2
 e:0<=p.bears
 f:p.bears<=30
 g:1<=p.tall
 h:p.tall<=2
def parV(p:Par):q58:=.agg #[.int .i64 p.mn,.int .i64 p.mx,.int .i64 p.bears,.int .i64 p.tall]
theorem q0z{w w1 w2:q3g}{b g:Nat}(h:w.grownBy w1 (some b))(k:Tn b g w1 w2):w.grownBy w2 (some b):=h.trans k.1
theorem q17(b g:Nat)(w:q3g)(ht:zp w b g)(hg:g<1000000):qaD Tryp.prog 62 #[.pointer (some ⟨b,0,none⟩)] w λe w'=>∃p,q43 p/\e=.returned (parV p)/\Tn b (g+7) w w':=by
 obtain⟨Z,hZ⟩:∃Z,Z=w.heap.size:=⟨_,rfl⟩
 have b8:b<Z:=by rw[hZ];exact ht.lt
 obtain⟨w1,a8⟩:∃w1,w1=w.alloc (.cells #[.int .i64 0,.int .i64 0,.int .i64 0,.int .i64 0] 28):=⟨_,rfl⟩
 have hR:w1.heap[Z]?=some (.cells #[.int .i64 0,.int .i64 0,.int .i64 0,.int .i64 0] 28 (0,0)):=by rw[a8,hZ];exact q7j w _
 have hG:w.grownBy w1 (some b):=by rw[a8];exact q34 _ _ _
 have HT:=q1D (show zp w1 b g by rw[a8];exact ht.alloc _);have HZ:=q1D hZ;have c3:=q1D a8;have HR:=q1D hR;have HG:=q1D hG;clear hZ a8 hR hG ht;go_enter Tryp.func62,Tryz.ntmps62;go_upto_region 1 with(fail)
 rw[<- HZ.out,show w.alloc (.cells #[.int .i64 0,.int .i64 0,.int .i64 0,.int .i64 0] 28)=w1 from c3.out.symm];go_upto_region 2 with(first
  | (go_at_call 70;refine(xE b g 1 8 _ HT.out (by omega) (by omega) (by omega) (by omega) (by omega) (by omega)).mono ?_;rintro e w2 ⟨lo,hlo,rfl,hn,-⟩;replace HR:=q1D (blk hn.1 (by simp;omega) HR.out);replace HG:=q1D (q0z HG.out hn);replace HT:=q1D hn.2;clear hn))
 have a7:Z≠b:=by omega
 go_wp2_with (fail);refine(xH b (g+1) _ [0,0,1,2] _ (HT.out.alloc _) (by omega) (Ints.laid _ [0,0,1,2] 4 rfl HT.out.lt (by decide)) (by decide) (by decide)).mono ?_;rintro e w3 ⟨k,hk,rfl,hn,-⟩;simp only[qbx,qc2,or_false] at hk;have a6:=q34 w2 (.cells #[.int .i64 0,.int .i64 0,.int .i64 1,.int .i64 2] 3) (some b);replace HR:=q1D (blk hn.1 (by simpa using a7) (blk a6 (by simpa using a7) HR.out));replace HG:=q1D ((HG.out.trans a6).trans hn.1);replace HT:=q1D hn.2;clear hn a6;have d5:0<=k/\k<=2:=by omega
 clear hk;go_wp2_with (first
  | (go_at_call 68;refine(Q9 b _ _ _ HT.out (by omega) (by omega)).mono ?_;rintro e w4 ⟨u,hu,rfl,hn,-⟩;replace HR:=q1D (blk hn.1 (by simpa using a7) HR.out);replace HG:=q1D (q0z HG.out hn);replace HT:=q1D hn.2;clear hn))
 rename_i u1 b7 wx u2 b6 wy wz
 refine(xH b (g+1+1+1+1+1) _ [0,u1,u2,u] _ (HT.out.alloc _) (by omega) (Ints.laid _ [0,u1,u2,u] 4 rfl HT.out.lt (by simp)) (by simp) (by simp)).mono ?_;rintro e w7 ⟨r,hr,rfl,hn,-⟩;simp only[qbx,qc2,or_false] at hr;have a6:=q34 w4 (.cells #[.int .i64 0,.int .i64 u1,.int .i64 u2,.int .i64 u] 3) (some b);replace HR:=q1D (blk hn.1 (by simpa using a7) (blk a6 (by simpa using a7) HR.out));replace HG:=q1D ((HG.out.trans a6).trans hn.1);replace HT:=q1D hn.2;clear hn a6;have c9:0<=r/\r<=30:=by omega
 clear hr hu b7 b6;have f:=λ(w9:q3g) (h:w9.heap[Z]?=some (.cells #[.int .i64 0,.int .i64 0,.int .i64 0,.int .i64 0] 28 (0,0))) (o:Nat)=>qn (o:=o) h;have F:=q1D f;clear f;go_wp2_with (first
  | (go_at_call 70;refine(xE b _ 1 2 _ HT.out (by omega) (by omega) (by omega) (by omega) (by omega) (by omega)).mono ?_;rintro e w8 ⟨ta,c8,rfl,hn,-⟩;replace HR:=q1D (blk hn.1 (by simpa using a7) HR.out);replace HG:=q1D (q0z HG.out hn);replace HT:=q1D hn.2;clear hn;have z0:=qa (o:=0) HR.out rfl;have z1:=qa (o:=1) HR.out rfl;have z2:=qa (o:=2) HR.out rfl;have z3:=qa (o:=3) HR.out rfl;have t0:=qn (o:=0) HR.out;have t1:=qn (o:=1) HR.out;have t2:=qn (o:=2) HR.out;have t3:=qn (o:=3) HR.out))
 obtain⟨W,a9⟩:∃W,W=(((w8.setCell ⟨Z,0,none⟩ (.int .i64 lo)).setCell ⟨Z,1,none⟩ (.int .i64 (lo+k))).setCell ⟨Z,2,none⟩ (.int .i64 r)).setCell ⟨Z,3,none⟩ (.int .i64 ta):=⟨_,rfl⟩
 have b9:W.heap[Z]?=some (.cells #[.int .i64 lo,.int .i64 (lo+k),.int .i64 r,.int .i64 ta] 28 (0,0)):=by rw[a9,qh (qh (qh (qh HR.out)))];rfl
 have b0:w8.grownBy W (some Z):=by rw[a9];exact(((qg _ _ _ _).trans (qg _ _ _ _)).trans (qg _ _ _ _)).trans (qg _ _ _ _)
 rw[<- a9];exact qcG (v:=.agg #[.int .i64 lo,.int .i64 (lo+k),.int .i64 r,.int .i64 ta]) (by simp[results,Tryz.results62,go_sem,qal,b9]) rfl ⟨⟨lo,lo+k,r,ta⟩,⟨by dsimp only;omega,by dsimp only;omega,by dsimp only;omega,by dsimp only;omega,by dsimp only;omega,by dsimp only;omega,by dsimp only;omega,by dsimp only;omega⟩,rfl,gown HG.out b0 (by rintro j e;cases e;have:=HZ.out;omega),HT.out.kept b0 (by rintro B e;cases e;exact b8)⟩
theorem Tryp.und22:Tryp.prog.underlying 22=some (.slice 28):=by rw[Tryp.und];exact Tryz.underlying22
theorem Tryp.info28p:(Tryp.prog.info? 28).map (λi=>(i.zero,i.size,i.bytes))=some (some (.agg #[.int .i64 0,.int .i64 0,.int .i64 0,.int .i64 0]),4,32):=by kernel_rfl
def ZM(p:Par):List q58:=[.int .i64 p.mn,.int .i64 p.mx,.int .i64 p.bears,.int .i64 p.tall]
def Zh(ps:List Par):List q58:=ps.flatMap ZM
theorem q4E(ps:List Par)(p:Par):Zh (ps++[p])=Zh ps++ZM p:=by simp[Zh]
theorem q79(ps:List Par)(i:Nat)(p:Par)(h:ps[i]?=some p)(d:Nat)(hd:d<4):(Zh ps)[i*4+d]?=(ZM p)[d]?:=by
 induction ps generalizing i with
 | nil=>simp at h
 | cons q t ih =>
  unfold Zh;rw[qcv];cases i with
  | zero =>
   simp at h;subst h;rw[qaj (by simp[ZM];omega),Nat.zero_mul,q9m]
  | succ i =>
   simp at h;rw[qco (by simp[ZM];omega)];rw[show(i+1)*4+d - (ZM q).length=i*4+d from by simp[ZM];omega];exact ih i h
theorem qr.own{lo n:Nat}{w:q3g}{v:q58}{ps:List Par}(h:w.ownsRow lo 28 4 v n (Zh ps))(hn:ps.length=n)(hl:(ps.length:Int)<=1000000):qr lo w.heap.size w v ps:=by
 subst hn;obtain⟨h1,h2⟩:=h;rcases h2 with⟨rfl,h0⟩ | ⟨g,cap,cur,rfl,hb,hg,hc,hm,hs,ht⟩
 ·exact⟨none,0,by rw[h0],hl,λhne=>absurd (qbo h0) hne⟩
 ·refine⟨_,cap,rfl,hl,λ_=>⟨g,0,cur,(0,0),rfl,hb,(q45.1 hg).1,hg,λi hi=>?_⟩⟩
  have hp:ps[i]?=some ps[i]:=q7C hi;have key:∀d,d<4->cur[i*4+d]?=(ZM ps[i])[d]?:=λd hd=>by
   have h3:(cur.toList.take (ps.length*4))[i*4+d]?=(ZM ps[i])[d]?:=by rw[ht];exact q79 ps i _ hp d hd
   rw[List.getElem?_take_of_lt (by omega)] at h3;simpa using h3
  have k0:=key 0 (by omega);have k1:=key 1 (by omega);have k2:=key 2 (by omega);have k3:=key 3 (by omega);rw[Nat.add_zero] at k0;refine⟨_,hp,?_,?_,?_,?_⟩;all_goals simp only[q9m]
  ·exact k0
  ·exact k1
  ·exact k2
  ·exact k3
theorem q5v{P:q8b}{c:qcm}{Q:Exit->Act->q3g->Prop}{a:Act}{w:q3g}(F:q3g->Prop)(hF:F w)(h:∀u,F u->c.wp P Q a u):c.wp P Q a w:=h w hF
theorem lt_of'{w:q3g}{k:Nat}{o:Obj}(h:w.heap[k]?=some o):k<w.heap.size:=(q45.1 h).1
def YR(b g Z X:Nat)(u:Nat)(lim:Int)(w:q3g)(i:q58)(wr:q3g):Prop :=
 ∃(k:Nat) (fv:q58) (ps:List Par),i=.int .i64 ((u:Int) - k)/\k<=u/\ps.length=k/\(∀p∈ps,q43 p) /\
  wr.heap[X]?=some (.cells #[fv,.int .i64 lim] 24 (0,0))/\wr.ownsRow (X+1) 28 4 fv k (Zh ps)/\zp wr b (g+7*k)/\w.grownBy wr (some b)/\X<wr.heap.size/\wr.heap[Z]?=some (.cells #[.slice none 0 0,.int .i64 0] 24 (0,0))
theorem YR.step{b g Z X u k gg cap:Nat}{lim:Int}{w w5:q3g}{ps:List Par}{p:Par}(hk:k<u)(hl:ps.length=k)(hd:∀x∈ps,q43 x)(hp:q43 p){fv:q58}
  (hB:w5.heap[X]?=some (.cells #[fv,.int .i64 lim] 24 (0,0))) (hO:w5.ownsRow (X+1) 28 4 (.slice (some ⟨gg,0,none⟩) (k+1) cap) (k+1) (Zh ps++ZM p))
  (hT:zp w5 b (g+7*k+7)) (hG:w.grownBy w5 (some b)) (hX:w.heap.size<=X) (hb:b<X) (hZ:w5.heap[Z]?=some (.cells #[.slice none 0 0,.int .i64 0] 24 (0,0))) (a6:Z<X) :
  YR b g Z X u lim w (.int .i64 ((u:Int) - k - 1)) (w5.setCell ⟨X,0,none⟩ (.slice (some ⟨gg,0,none⟩) (k+1) cap)):=by
 have hn:gg≠X:=by have:=(hO.lt gg rfl).1;omega
 refine⟨k+1,_,ps++[p],by simp;omega,by omega,by simp[hl],?_,by rw[qh hB];rfl,?_,?_,gown hG (qg _ X 0 _) (by rintro j e;cases e;exact hX),?_,blk (qg _ _ _ _) (by simp;omega) hZ⟩
 ·intro x hx
  rcases qcz.1 hx with h | h
  ·exact hd x h
  ·rw[List.mem_singleton.1 h];exact hp
 ·rw[q4E]
  exact hO.kept (qg _ X 0 _) (.inr (by simp[qak];exact hn))
 ·rw[show g+7*(k+1)=g+7*k+7 by omega]
  exact hT.set hb
 ·have:=(q45.1 hB).1
  simpa[qci] using this
structure YdOk(n:Nat)(ps:List Par)(lim:Int):Prop where
 len:ps.length<=n
 each:∀p∈ps,q43 p
 l1:2<=lim
 l2:lim<=6\/lim=12
theorem q47(b g n:Nat)(w:q3g)(ht:zp w b g)(hg:g<100000)(hn:n<=1000):qaD Tryp.prog 33 #[.pointer (some ⟨b,0,none⟩),.int .i64 n] w λe w'=>∃ps lim v,YdOk n ps lim/\e=.returned (.agg #[v,.int .i64 lim])/\Tn b (g+3+7*n) w w'/\qr w.heap.size w'.heap.size w' v ps:=by
 obtain⟨i0,g5,e6,e5,e4⟩:=qch Tryp.info28p;obtain⟨Z,hZ⟩:∃Z,Z=w.heap.size:=⟨_,rfl⟩
 have g7:b<Z:=by rw[hZ];exact ht.lt
 have HT:=q1D ht;have HZ:=q1D hZ;clear ht hZ;go_enter Tryp.func33,Tryz.ntmps33;go_upto_region 1 with(fail)
 rw[<- HZ.out];refine q5v (λu=>u.heap[Z]?=some (.cells #[.slice none 0 0,.int .i64 0] 24 (0,0))/\w.grownBy u (some b)/\zp u b g) ⟨by rw[HZ.out];exact q7j _ _,q34 _ _ _,HT.out.alloc _⟩ (λw1 hF=>?_);obtain⟨r1,g1,t1⟩:=hF;have R1:=q1D r1;have G1:=q1D g1;have T1:=q1D t1;clear r1 g1 t1;have a9:Z≠b:=by omega
 go_upto_region 2 with(first
  | (go_at_call 70;refine(xE b g 2 6 _ T1.out (by omega) (by omega) (by omega) (by omega) (by omega) (by omega)).mono ?_;rintro e w2 ⟨lo,hlo,rfl,c9,-⟩;have N2:=q1D c9;clear c9)
  | (go_at_call 90;refine(xH b (g+1) _ [lo,12] _ (N2.out.2.alloc _) (by omega) (Ints.laid _ [lo,12] 2 rfl N2.out.2.lt (by simp)) (by simp) (by simp)).mono ?_;rintro e w3 ⟨lim,a6,rfl,c8,-⟩;have N3:=q1D c8;have b7:=q1D a6;clear c8 a6))
 have a6:=b7.out;simp only[qbx,qc2,or_false] at a6;have hl2:2<=lim/\(lim<=6\/lim=12):=by omega
 clear a6 b7 hlo;have b8:=q34 w2 (.cells #[.int .i64 lo,.int .i64 12] 3) (some b);have g3:w.grownBy w3 (some b):=((G1.out.trans N2.out.1).trans b8).trans N3.out.1;have z3:=blk N3.out.1 (by simpa using a9) (blk b8 (by simpa using a9) (blk N2.out.1 (by simpa using a9) R1.out));obtain⟨X,hX⟩:∃X,X=w3.heap.size:=⟨_,rfl⟩
 rw[<- hX];refine q5v (λu=>u.heap[X]?=some (.cells #[.slice none 0 0,.int .i64 lim] 24 (0,0))/\w.grownBy u (some b)/\zp u b (g+2)/\u.heap[Z]?=some (.cells #[.slice none 0 0,.int .i64 0] 24 (0,0))) ⟨by rw[hX];exact q7j _ _,g3.trans (q34 _ _ _),N3.out.2.alloc _,qp z3⟩ (λw4 hF=>?_);obtain⟨x4,g4,t4,z4⟩:=hF;have g9:Z<X:=by have:=lt_of' z3;omega
 have e7:w.heap.size<=X:=by have:=HZ.out;omega
 have X4:=q1D x4;have G4:=q1D g4;have T4:=q1D t4;have Z4:=q1D z4;clear b8 g3 z3 hX x4 g4 t4 z4 R1 G1 T1 N2 N3;have g8:b<X:=by omega
 go_wp2_with (first
  | (go_at_call 68;refine(Q9 b (g+2) _ _ T4.out (by omega) (by omega)).mono ?_;rintro e w5 ⟨u,hu,rfl,c3,-⟩;have N5:=q1D c3;clear c3))
 obtain⟨m,rfl⟩:=Int.eq_ofNat_of_zero_le hu.1;have hm:m<=n:=by omega
 have x5:=blk N5.out.1 (by simp;omega) X4.out;have z5:=blk N5.out.1 (by simpa using a9) Z4.out;have X5:=q1D x5;have Z5:=q1D z5;have G5:=q1D (G4.out.trans N5.out.1);have T5:=q1D N5.out.2;clear x5 z5 X4 Z4 G4 T4 N5 hu;go_loopw [6] (YR b (g+3) Z X m lim w) (λi _=>(qb2 i).toNat)
 case atStart=>exact⟨0,_,[],by simp,by omega,rfl,by simp,X5.out,qcb _ _ _ _,by simpa using T5.out,G5.out,lt_of' X5.out,Z5.out⟩
 case round =>
  obtain⟨k,fv,ps,rfl,h1,h2,h3,h4,h5,h6,h7,h8,h9⟩:=hrel;have c0:wr.cell? ⟨X,0,none⟩=some fv:=qa h4 rfl;have c1:wr.cell? ⟨X,1,none⟩=some (.int .i64 lim):=qa h4 rfl;have H4:=q1D h4;have H5:=q1D h5;have H6:=q1D h6;have H7:=q1D h7;have H2:=q1D h2;have H3:=q1D h3;have H9:=q1D h9;clear h4 h5 h6 h7 h2 h3 h9;by_cases hlt:k<m
  ·have k6:(0:Int)<(m:Int) - (k:Int):=by omega
   have k8:IntKind.i64.wrap ((m:Int) - (k:Int) - 1)=(m:Int) - (k:Int) - 1:=qa7 _ (by omega);have g6:some X≠fv.ownBlock:=λe=>by have:=(H5.out.lt X e.symm).1;omega
   have fX:wr.frozen? ⟨X,0,none⟩=false:=qn H4.out;have d6:b<X+1:=by omega
   go_wp2_with (fail);go_region_law
    (first
     | (go_simp;go_at_call 62;refine(q17 b (g+3+7*k) _ (by exact H6.out) (by omega)).mono ?_;rintro e w2 ⟨p,hp,rfl,HN⟩;have e8:wr.heap.size<=w2.heap.size:=HN.1.size;have k7:X<w2.heap.size:=(by omega);have l5:w2.cell? ⟨X,0,none⟩=some fv:=qa (blk HN.1 (by simp;omega) H4.out) rfl;have b0:=q1D HN;have HP:=q1D hp;clear HN hp;unfold parV)
     | (refine step_append_lies _ (by rfl) _ _ _ (by rfl) (X+1) 28 i0 _ 4 32 Tryp.und22 g5 e6 e5 e4 rfl (by omega) fv k (Zh ps) (by rfl) (by exact(tn_own b0.out.1 H5.out d6).alloc _) ⟨w2.heap.size,0,none⟩ 1 1 (ZM p) (by rfl) (by rfl) (qbg (cs:=(ZM p).toArray) (t:=28) (fr:=(0,0)) (q7j w2 _)) (by simp[ZM,qbD]) (by omega) (by unfold maxLen;omega) (by omega) (by simp at e8 ⊢;omega) (w2.heap.size+1) (by simp) ?_;intro gg cap w5 a7 a8 k9 hgl;have B5:=blk a8 g6 (qp (blk b0.out.1 (by simp;omega) H4.out));have l4:w5.cell? ⟨X,0,none⟩=some fv:=qa B5 rfl;have c5:w5.frozen? ⟨X,0,none⟩=false:=qn B5;have k5:=q1D B5;have HG:=q1D a8;have HO:=q1D a7;clear B5 a7))
   all_goals
    have d5:=gown (((H7.out.trans (qc _ _)).trans b0.out.1).trans (q34 w2 _ _)) HG.out (λj e=>by have:=(H5.out.lt j e).1;omega);have d8:zp w5 b (g+3+7*k+7):=((b0.out.2.alloc _).kept HG.out (λj e=>by have:=(H5.out.lt j e).1;omega))
    have d7:=blk HG.out (λe=>by have:=(H5.out.lt Z e.symm).1;omega) (qp (blk b0.out.1 (by simpa using a9) H9.out));have d9:=YR.step (g:=g+3) (w:=w) hlt H2.out H3.out HP.out k5.out HO.out d8 d5 e7 g8 d7 g9;have FF:=q1D d9;clear d9 d5 d8 d7;go_wp2;go_roundw
    case rel=>exact FF.out
    case measure=>simp[qb2];omega
  ·obtain rfl:k=m:=by omega
   obtain⟨fa,fm,fc,rfl⟩:=zV H5.out;have d0:=qa H9.out (o:=0) rfl;have d1:=qa H9.out (o:=1) rfl;have f0:=qn H9.out (o:=0);have f1:=qn H9.out (o:=1);go_wp2;obtain⟨W,b9⟩:∃W,W=(wr.setCell ⟨Z,0,none⟩ (.slice fa fm fc)).setCell ⟨Z,1,none⟩ (.int .i64 lim):=⟨_,rfl⟩
   have k0:W.heap[Z]?=some (.cells #[.slice fa fm fc,.int .i64 lim] 24 (0,0)):=by rw[b9,qh (qh H9.out)];rfl
   have b6:wr.grownBy W (some Z):=by rw[b9];exact(qg _ _ _ _).trans (qg _ _ _ _)
   have hps:ps.length<=1000:=by have:=H2.out;omega
   have e9:=(qr.own H5.out H2.out (by omega)).kept b6 (by rintro R e;cases e;exact .inl (by omega));rw[<- b9];refine qcG (v:=.agg #[.slice fa fm fc,.int .i64 lim]) (by simp[results,Tryz.results33,go_sem,qal,k0]) rfl ⟨ps,lim,_,⟨by have:=H2.out;omega,H3.out,hl2.1,hl2.2⟩,rfl,⟨gown H7.out b6 (by rintro j e;cases e;have:=HZ.out;omega),(H6.out.kept b6 (by rintro B e;cases e;exact g7)).mono (by have:=H2.out;omega)⟩,e9.mono (by omega) b6.size⟩
structure OrdN(n:Nat)(l:List Int):Prop where
 len:l.length=n
 nd:l.Nodup
 all:∀x∈l,0<=x/\x<n
end Go.Proofs.YtidgnkmjgioapaaGreat
end
section
namespace Go
theorem Ql(z:Array q58):z=((qa4 z.size).map λj=>z[j]?.getD q5s).toArray:=by
 apply Array.ext
 ·simp
 ·intro i h1 h2
  simp[h1]
end Go
namespace Go.Co
open Go
def jl(w:q3g)(B:Nat):Prop:=∃cs e f,w.heap[B]?=some (.cells cs e f)/\∀(i:Nat) v,cs[i]?=some v->∃k m,v=q9q k m
def zC(xs:List q58):Prop:=∀v∈xs,∃k m,v=q9q k m
theorem zC.app{xs ys:List q58}(h:zC xs)(h':zC ys):zC (xs++ys):=λv hv=>(qcz.1 hv).elim (h v) (h' v)
theorem q1C{z:Array q58}(hz:zC z.toList)(hp:0<z.size)(n:Nat):zC (qck z n).toList:=by
 intro v hv;simp only[qck,Array.toList_map,List.mem_map] at hv;obtain⟨i,_,rfl⟩:=hv;have hlt:i % z.size<z.size:=Nat.mod_lt _ hp;rw[getElem!_pos z _ hlt];exact hz _ (Array.getElem_mem_toList hlt)
theorem Zm{w:q3g}{B:Nat}{xs:Array q58}{e:q8u}{f:Nat × Nat}(h:w.heap[B]?=some (.cells xs e f))(hx:zC xs.toList):jl w B:=⟨xs,e,f,h,λi v hv=>hx v (qcs.2 (qby hv))⟩
theorem jl.all{w:q3g}{B:Nat}{xs:Array q58}{e:q8u}{f:Nat × Nat}(h:jl w B)(hx:w.heap[B]?=some (.cells xs e f)):zC xs.toList:=by
 obtain⟨cs,e',f',h1,h2⟩:=h;rw[hx] at h1;cases h1;intro v hv;obtain⟨i,hi⟩:=List.mem_iff_getElem?.1 hv;exact h2 i v (by simpa using hi)
theorem Jq{P:q8b}(w:q3g)(t ty:q8u)(base:Nat)(e:q8u)(i:TypeInfo)(z:q58)(size bytes:Nat)(ht:P.underlying t=some (.slice e))(hi:P.info? e=some i)(hz:i.zero=some z)
  (hsize:i.size=size) (hby:i.bytes=bytes) (hzs:z.cells.size=size) (hsz:0<size)
  (v:q58) (n:Nat) (xs:List q58) (hown:w.ownsRow base e size v n xs)
  (ad:qb9) (m c:Nat) (news:List q58) (hl:news.length=m*size) (hnews:∀j u,news[j]?=some u->w.cell? (ad.add j)=some u) (h1:∀u∈news,u.oneCell'=true)
  (hm:0<m) (h63:n+m<=maxLen) (hbytes:(n+m)*bytes<=140737488355328) (hbase:base<=w.heap.size) (H:Nat) (hH:w.heap.size=H)
  (hI:∀g,v.ownBlock=some g->jl w g) (hni:zC news) (hzi:zC z.cells.toList) :
  ∃g cap w',(Builtin.append_ #[t,t] ty #[v,.slice (some ad) m c]).run P w=.ok (.slice (some ⟨g,0,none⟩) (n+m) cap) w' /\
   w'.ownsRow base e size (.slice (some ⟨g,0,none⟩) (n+m) cap) (n+m) (xs++news)/\w.grownBy w' v.ownBlock/\(v.ownBlock=some g\/g=H)/\g<w'.heap.size/\jl w' g:=by
 obtain⟨g,cap,w',hr,h2,h3,h4,h5⟩:=run_append_lies (P:=P) w t ty base e i z size bytes ht hi hz hsize hby hzs hsz v n xs hown ad m c news hl hnews h1 hm h63 hbytes hbase H hH;refine⟨g,cap,w',hr,h2,h3,h4,h5,?_⟩;subst hsize;subst hby
 have a9:n+m<=9223372036854775807:=by simp only[maxLen] at h63;omega
 have a7:=λk=>q1C (z:=z.cells) hzi (by rw[hzs];exact hsz) k;rcases hown.2 with⟨rfl,rfl⟩ | ⟨g0,cap0,cur,rfl,hbg,hg,hnc,hcm,hcs,htake⟩
 ·have hr':=run_append_nil (P:=P) w t ty e i z ht hi hz ad m c news hl hnews hm (by omega) (by have hb:=hbytes;simp only[q9m] at hb;omega)
  have he:=hr.symm.trans hr';simp only[Result.ok.injEq,Value.slice.injEq,qaz,Addr.mk.injEq] at he;obtain⟨⟨⟨rfl,_⟩,_⟩,rfl⟩:=he;exact Zm (q7j w.drew _) (by simpa using hni.app (a7 _))
 ·by_cases Z:n+m<=cap0
  ·have a8:n*i.size+news.length<=cur.size:=by rw[hl,hcs,<- Nat.add_mul];exact Nat.mul_le_mul_right _ Z
   have hr':=run_append_room (P:=P) w t ty e i ht hi g0 n cap0 cur hg ad m c news hl hnews h1 Z a8;have he:=hr.symm.trans hr';simp only[Result.ok.injEq,Value.slice.injEq,qaz,Addr.mk.injEq] at he;obtain⟨⟨⟨rfl,_⟩,_⟩,rfl⟩:=he;have hc:=(hI g rfl).all hg;refine Zm (setRow_heap w g cur _ e _ hg) ?_;exact((zC.app (λv hv=>hc v (List.mem_of_mem_take hv)) hni).app λv hv=>hc v (List.mem_of_mem_drop hv))
  ·have a6:∀j u,xs[j]?=some u->w.cell? ((⟨g0,0,none⟩:qb9).add j)=some u:=hown.cells (g:=g0) rfl
   have hr':=run_append_grow (P:=P) w t ty e i z ht hi hz ⟨g0,0,none⟩ n cap0 xs hown.1 a6 ad m c news hl hnews (by omega) (by omega) (growslice_fits (by omega) hbytes);have he:=hr.symm.trans hr';simp only[Result.ok.injEq,Value.slice.injEq,qaz,Addr.mk.injEq] at he;obtain⟨⟨⟨rfl,_⟩,_⟩,rfl⟩:=he;have hc:=(hI g0 rfl).all hg;refine Zm (q7j w.drew _) ?_;have hx:zC xs:=λv hv=>hc v (by rw[<- htake] at hv;exact List.mem_of_mem_take hv);simpa using(hx.app hni).app (a7 _)
theorem JI{P:q8b}{w:q3g}{o:qbz}{a:Act}{K:Act->q3g->Prop}{Q:Exit->Act->q3g->Prop}(s x:qaH)(t:q8u)
  (ho:o.op=.call { callee:=.builtin .append,args:=#[s,x],argTypes:=#[t,t] })
  (base:Nat) (e:q8u) (i:TypeInfo) (z:q58) (size bytes:Nat) (ht:P.underlying t=some (.slice e)) (hi:P.info? e=some i) (hz:i.zero=some z)
  (hsize:i.size=size) (hby:i.bytes=bytes) (hzs:z.cells.size=size) (hsz:0<size)
  (v:q58) (n:Nat) (xs:List q58) (hs:a.eval s=v) (hown:w.ownsRow base e size v n xs)
  (ad:qb9) (m c:Nat) (news:List q58) (hx:a.eval x=.slice (some ad) m c) (hl:news.length=m*size) (hnews:∀j u,news[j]?=some u->w.cell? (ad.add j)=some u) (h1:∀u∈news,u.oneCell'=true)
  (hm:0<m) (h63:n+m<=maxLen) (hbytes:(n+m)*bytes<=140737488355328) (hbase:base<=w.heap.size) (H:Nat) (hH:w.heap.size=H)
  (hI:∀g,v.ownBlock=some g->jl w g) (hni:zC news) (hzi:zC z.cells.toList)
  (h:∀g cap w',w'.ownsRow base e size (.slice (some ⟨g,0,none⟩) (n+m) cap) (n+m) (xs++news)->w.grownBy w' v.ownBlock->(v.ownBlock=some g\/g=H)->g<w'.heap.size->jl w' g->K (a.put o.dst (.slice (some ⟨g,0,none⟩) (n+m) cap)) w'):o.wp P a w K Q:=by
 obtain⟨g,cap,w',hr,h2,h3,h4,h5,h6⟩:=Jq (P:=P) w t o.type base e i z size bytes ht hi hz hsize hby hzs hsz v n xs hown ad m c news hl hnews h1 hm h63 hbytes hbase H hH hI hni hzi;unfold Oper.wp execOp;simp only[ho,resolve,invoke,builtin,qbB,Sem.run_pure,qbC,List.map_toArray,List.map_cons,List.map_nil,hs,hx,hr];exact h g cap w' h2 h3 h4 h5 h6
theorem QE{P:q8b}{w:q3g}{ops:Array qbz}{rest:List qbz}{o:qbz}{a:Act}{Q:Exit->Act->q3g->Prop}(Z:o.guard=none)(s x:qaH)(t:q8u)
  (ho:o.op=.call { callee:=.builtin .append,args:=#[s,x],argTypes:=#[t,t] })
  (base:Nat) (e:q8u) (i:TypeInfo) (z:q58) (size bytes:Nat) (ht:P.underlying t=some (.slice e)) (hi:P.info? e=some i) (hz:i.zero=some z)
  (hsize:i.size=size) (hby:i.bytes=bytes) (hzs:z.cells.size=size) (hsz:0<size)
  (v:q58) (n:Nat) (xs:List q58) (hs:a.eval s=v) (hown:w.ownsRow base e size v n xs)
  (ad:qb9) (m c:Nat) (news:List q58) (hx:a.eval x=.slice (some ad) m c) (hl:news.length=m*size) (hnews:∀j u,news[j]?=some u->w.cell? (ad.add j)=some u) (h1:∀u∈news,u.oneCell'=true)
  (hm:0<m) (h63:n+m<=maxLen) (hbytes:(n+m)*bytes<=140737488355328) (hbase:base<=w.heap.size) (H:Nat) (hH:w.heap.size=H)
  (hI:∀g,v.ownBlock=some g->jl w g) (hni:zC news) (hzi:zC z.cells.toList)
  (h:∀g cap w',w'.ownsRow base e size (.slice (some ⟨g,0,none⟩) (n+m) cap) (n+m) (xs++news)->w.grownBy w' v.ownBlock->(v.ownBlock=some g\/g=H)->g<w'.heap.size->jl w' g->wpList P ops Q rest (a.put o.dst (.slice (some ⟨g,0,none⟩) (n+m) cap)) w'):wpList P ops Q (o::rest) a w :=
 wpList_plain Z λ_ hK=>JI s x t ho base e i z size bytes ht hi hz hsize hby hzs hsz v n xs hs hown ad m c news hx hl hnews h1 hm h63 hbytes hbase H hH hI hni hzi λg cap w' h2 h3 h4 h5 h6=>hK _ _ (h g cap w' h2 h3 h4 h5 h6)
end Go.Co
end
section
namespace Go.Proofs
open Go Go.RowKit
theorem Tryp.func200:Tryp.F 200 Tryz.f200:=Tryp.fn
@[simp] theorem Tryp.call200:Tryp.C 200:=Tryp.cl 200
theorem Tryp.func211:Tryp.F 211 Tryz.f211:=Tryp.fn
@[simp] theorem Tryp.call211:Tryp.C 211:=Tryp.cl 211
theorem Tryp.func217:Tryp.F 217 Tryz.f217:=Tryp.fn
@[simp] theorem Tryp.call217:Tryp.C 217:=Tryp.cl 217
end Go.Proofs
end
section
namespace Go.Proofs.YtidgnkmjgioapaaGreat
open Go.RowKit
theorem Qk(x:Int)(w:q3g):qaD Tryp.prog 198 #[.int .i64 x] w λe w'=>e=.returned (.bool false)/\w=w':=by
 go_enter Tryp.func198,Tryz.ntmps198;go_wp2;go_ret;exact⟨rfl,rfl⟩
theorem q39(x y:Int)(w:q3g):qaD Tryp.prog 217 #[.int .i64 x,.int .i64 y] w λe w'=>e=.returned (.bool (decide (x<y)))/\w=w':=by
 go_enter Tryp.func217,Tryz.ntmps217;go_wp2_with (first | (go_at_call 198;refine(Qk _ _).mono ?_;rintro e w2 ⟨rfl,rfl⟩));go_ret;exact⟨rfl,rfl⟩
theorem q7i(n:Nat)(h:n<=12)(w:q3g):qaD Tryp.prog 197 #[.int .u64 n] w λe w'=>∃v,e=.returned (.int .i64 v)/\w=w':=by
 obtain rfl | rfl | rfl | rfl | rfl | rfl | rfl | rfl | rfl | rfl | rfl | rfl | rfl:n=0\/n=1\/n=2\/n=3\/n=4\/n=5\/n=6\/n=7\/n=8\/n=9\/n=10\/n=11\/n=12:=by omega
 all_goals
  go_enter Tryp.func197,Tryz.ntmps197;go_wp2;go_ret;exact⟨_,rfl,rfl⟩
end Go.Proofs.YtidgnkmjgioapaaGreat
end
section
namespace Go
section
variable{P:q8b}{ops:Array qbz}{md:qdr}{Q:Exit->Act->q3g->Prop}{S:q3g->Prop}
def j5(P:q8b)(md:qdr)(ops:Array qbz)(Q:Exit->Act->q3g->Prop)(S:q3g->Prop)(n:Nat)(L:Array Bool->Act->q3g->Prop):Nat->Array Bool->Act->q3g->Prop
 | 0,listed,a,w=>L listed a w
 | f+1,listed,a,w =>
  q91 md ops listed≠[]/\∀i∈q91 md ops listed,i<n/\wpOp P ops Q i (λa' w'=>S w'/\j5 P md ops Q S n L f (listed.setIfInBounds i true) a' w') a w
theorem kc{n g:Nat}{L:Array Bool->Act->q3g->Prop}(hL:∀listed a w,L listed a w->wpAny P md ops Q g listed a w) :
  ∀(f:Nat) (listed:Array Bool) (a:Act) (w:q3g),j5 P md ops Q S n L f listed a w->wpAny P md ops Q (f+g) listed a w
 | 0,listed,a,w,h=>by rw[q9m];exact hL _ _ _ h
 | f+1,listed,a,w,h=>by
  rw[show f+1+g=(f+g)+1 by omega];exact⟨λh0=>absurd h0 h.1,λi hi=>wpOp_mono (λa' w' h'=>kc hL f _ a' w' h'.2) (h.2 i hi).2⟩
theorem q0v{n i:Nat}{oi:qbz}{v:q58}{L:Array Bool->Act->q3g->Prop}(hi:ops[i]?=some oi)(b6:∀(j:Nat) (o:qbz) cs b,ops[j]?=some o->o.op≠.select cs b)
  (hs:Region.sinkB md ops n=true) (hc:Region.chainB md ops n=true) (hn:n<ops.size) (hin:i<n)
  (hQ:∀c a w,Q (.panic c) (a.put oi.dst v) w->Q (.panic c) a w)
  (hdone:∀listed a w,L listed a w->∀j∈q91 md ops listed,n<=j) :
  ∀(f:Nat) (listed:Array Bool) (a:Act) (w:q3g),HeadInv md ops n listed ->
   (∀j oj,ops[j]?=some oj->j≠i->listed.getD j true=false->(∀e∈oj.after,qb8 md e=true->e.on≠i)->oi.apart ops oj=true) ->
   i∈q91 md ops listed->YieldsIf P ops S oi v a->S w ->
   j5 P md ops Q S n L f (listed.setIfInBounds i true) (a.put oi.dst v) w->j5 P md ops Q S n L (f+1) listed a w:=by
 intro f;induction f with
 | zero =>
  intro listed a w a8 _ hr hy hS H;have a6:=(mem_ready.1 hr).1;refine⟨λh=>(by rw[h] at hr;cases hr),λj hj=>?_⟩;have a9:j<n:=by
   rcases qbF j n with h | h
   ·exact h
   ·exact absurd hj (tail_waits hs hc hn a8 _ i rfl hin a6 j h)
  refine⟨a9,?_⟩;by_cases Z:j=i
  ·subst Z;exact hy.wpOp hi hS ⟨hS,H⟩
  ·have:=hdone _ _ _ H j (ready_mono hj Z)
   omega
 | succ f ih =>
  intro listed a w a8 a7 hr hy hS H;have a6:=(mem_ready.1 hr).1;refine⟨λh=>(by rw[h] at hr;cases hr),λj hj=>?_⟩;have a9:j<n:=by
   rcases qbF j n with h | h
   ·exact h
   ·exact absurd hj (tail_waits hs hc hn a8 _ i rfl hin a6 j h)
  refine⟨a9,?_⟩;by_cases Z:j=i
  ·subst Z;exact hy.wpOp hi hS ⟨hS,H⟩
  ·have h1:=(H.2 j (ready_mono hj Z)).2
   obtain⟨b7,oj,b8,c8⟩:=mem_ready.1 hj;have b9:∀e∈oj.after,qb8 md e=true->e.on≠i:=λe he hb d6=>by
    have h1:=c8 e he hb;rw[d6,getD_both a6] at h1;cases h1
   have h2:=wpOp_putIf b8 (a7 j oj b8 Z b7 b9) (λcs b=>b6 i oi cs b hi) (λcs b=>b6 j oj cs b b8) hQ hy h1;have b0:∀k ok,ops[k]?=some ok->k≠i->(listed.setIfInBounds j true).getD k true=false ->
     (∀e∈ok.after,qb8 md e=true->e.on≠i)->oi.apart ops ok=true:=λk ok hk d5 a6 c9=>by
    refine a7 k ok hk d5 ?_ c9;by_cases c3:j=k
    ·subst c3;exact b7
    ·rw[getD_set_ne true c3] at a6;exact a6
   refine wpOp_mono (λa' w' h3=>⟨h3.2.1,ih (listed.setIfInBounds j true) a' w' (a8.set hj a9) b0 (ready_mono hr (Ne.symm Z)) h3.1 h3.2.1 ?_⟩) h2;rw[Array.setIfInBounds_comm _ _ Z];exact h3.2.2
def q3f(md:qdr)(ops:Array qbz)(n:Nat)(listed:Array Bool):Bool :=
 decide (listed.size=ops.size) && (qa4 ops.size).all (λj=>!listed.getD j false || ((ops[j]?).map (·.after.all λe=>!qb8 md e || listed.getD e.on false)).getD true) &&
  (qa4 ops.size).all λt=>decide (t<n) || !listed.getD t true
theorem q7o{n:Nat}{listed:Array Bool}(h:q3f md ops n listed=true):HeadInv md ops n listed:=by
 simp only[q3f,q9b,decide_eq_true_eq] at h;obtain⟨⟨h1,h2⟩,h3⟩:=h;refine⟨h1,λj oj hj hl e he hb=>?_,λt ht Z=>?_⟩
 ·have:=qau.1 h2 j (qcn.2 (q45.1 hj).1)
  simp only[hl,hj,Bool.not_true,Bool.false_or,qbt,q88] at this;have h4:=(qbu.1 this) e he;simpa[hb] using h4
 ·have:=qau.1 h3 t (qcn.2 Z)
  simp only[qcy,decide_eq_true_eq,qcE] at this;exact this.elim (λe=>absurd e (by omega)) id
theorem ZX{n i g:Nat}{oi:qbz}{v:q58}{f:Nat}{listed:Array Bool}{a:Act}{w:q3g}{R:Act->q3g->Prop}(hi:ops[i]?=some oi)
  (hB:(Region.noSelect ops && Region.sinkB md ops n && Region.chainB md ops n && decide (n<ops.size) && decide (i<n) && q3f md ops n listed && Region.free md ops listed i && (q91 md ops listed).contains i)=true)
  (hQ:∀c a w,Q (.panic c) (a.put oi.dst v) w->Q (.panic c) a w) (hy:YieldsIf P ops S oi v a) (hS:S w)
  (h:j5 P md ops Q S n (λlisted a w=>qeo md ops g n listed=true/\R a w) f (listed.setIfInBounds i true) (a.put oi.dst v) w) :
  j5 P md ops Q S n (λlisted a w=>qeo md ops g n listed=true/\R a w) (f+1) listed a w:=by
 simp only[q9b,decide_eq_true_eq] at hB;obtain⟨⟨⟨⟨⟨⟨⟨h1,h2⟩,h3⟩,h4⟩,h5⟩,h6⟩,h7⟩,h8⟩:=hB;exact q0v hi (Region.noSelect_spec h1) h2 h3 h4 h5 hQ (λlisted a w hL=>seqB_ready hL.1) f listed a w (q7o h6) (Region.free_spec hi h7) (by simpa using h8) hy hS h
theorem tk(i:Nat){n g:Nat}{oi:qbz}{v:q58}{f:Nat}{listed:Array Bool}{a:Act}{w:q3g}{R:Act->q3g->Prop}
  (h:j5 P md ops Q S n (λlisted a w=>qeo md ops g n listed=true/\R a w) f (listed.setIfInBounds i true) (a.put oi.dst v) w) (hi:ops[i]?=some oi:=by rfl)
  (hy:∀w,S w->(execOp a.eval oi).run P w=.ok (.value v) w:=by intro w Z;(try dsimp only at Z);go_simp;try with_reducible rfl)
  (hB:(Region.noSelect ops && Region.sinkB md ops n && Region.chainB md ops n && decide (n<ops.size) && decide (i<n) && q3f md ops n listed && Region.free md ops listed i && (q91 md ops listed).contains i)=true:=by kernel_rfl)
  (hQ:∀c a w,Q (.panic c) (a.put oi.dst v) w->Q (.panic c) a w:=by exact λ_ _ _ h=>h) (hw:qb0 oi (yielded ops a.tmps)=true:=by kernel_rfl) (hS:S w:=by assumption) :
  j5 P md ops Q S n (λlisted a w=>qeo md ops g n listed=true/\R a w) (f+1) listed a w:=ZX hi hB hQ (Or.inl ⟨hw,hy⟩) hS h
theorem tku(i:Nat){n g:Nat}{oi:qbz}{f:Nat}{listed:Array Bool}{a:Act}{w:q3g}{R:Act->q3g->Prop}
  (h:j5 P md ops Q S n (λlisted a w=>qeo md ops g n listed=true/\R a w) f (listed.setIfInBounds i true) (a.put oi.dst q5s) w) (hi:ops[i]?=some oi:=by rfl)
  (hB:(Region.noSelect ops && Region.sinkB md ops n && Region.chainB md ops n && decide (n<ops.size) && decide (i<n) && q3f md ops n listed && Region.free md ops listed i && (q91 md ops listed).contains i)=true:=by kernel_rfl)
  (hQ:∀c a w,Q (.panic c) (a.put oi.dst q5s) w->Q (.panic c) a w:=by exact λ_ _ _ h=>h) (hw:qb0 oi (yielded ops a.tmps)=false:=by kernel_rfl) (hS:S w:=by assumption) :
  j5 P md ops Q S n (λlisted a w=>qeo md ops g n listed=true/\R a w) (f+1) listed a w:=ZX hi hB hQ (Or.inr ⟨hw,rfl⟩) hS h
def qm(P:q8b)(md:qdr)(ops:Array qbz)(Q:Exit->Act->q3g->Prop)(S:q3g->Prop)(n:Nat)(L:Array Bool->Act->q3g->Prop)(f:Nat)(listed:Array Bool)(a:Act)(w:q3g)(rs:List Nat):Prop :=
 ∀i∈rs,i<n/\wpOp P ops Q i (λa' w'=>S w'/\j5 P md ops Q S n L f (listed.setIfInBounds i true) a' w') a w
theorem qm.nil{n f:Nat}{L:Array Bool->Act->q3g->Prop}{listed:Array Bool}{a:Act}{w:q3g}:qm P md ops Q S n L f listed a w []:=λ_ h=>by cases h
theorem qm.cons{n i:Nat}{oi:qbz}{f:Nat}{listed:Array Bool}{a:Act}{w:q3g}{L:Array Bool->Act->q3g->Prop}{rs:List Nat}(hi:ops[i]?=some oi)(hn:decide (i<n)=true)
  (h:∀K':Act->q3g->Prop,Shut (∀a w,S w->(S w->j5 P md ops Q S n L f (listed.setIfInBounds i true) a w)->K' a w)->if qb0 oi (yielded ops a.tmps)=true then Oper.wp P oi a w K' Q else K' (a.put oi.dst q5s) w)
  (hs:qm P md ops Q S n L f listed a w rs):qm P md ops Q S n L f listed a w (i::rs):=λj hj=>by
 rcases qbx.1 hj with rfl | hj
 ·exact⟨by simpa using hn,wpOp_step hi (λK' hK=>h K' (λa w hS hW=>hK a w ⟨hS,hW hS⟩))⟩
 ·exact hs j hj
theorem q0u{n f:Nat}{listed:Array Bool}{a:Act}{w:q3g}{L:Array Bool->Act->q3g->Prop}(rs:List Nat)(hr:decide (q91 md ops listed=rs)=true)(hne:rs≠[])(h:qm P md ops Q S n L f listed a w rs) :
  j5 P md ops Q S n L (f+1) listed a w:=by
 have hr':q91 md ops listed=rs:=by simpa using hr
 exact⟨λe=>hne (hr' ▸ e),hr' ▸ h⟩
theorem rdy(rs:List Nat){n f:Nat}{listed:Array Bool}{a:Act}{w:q3g}{L:Array Bool->Act->q3g->Prop}(h:qm P md ops Q S n L f listed a w rs)
  (hr:decide (q91 md ops listed=rs)=true:=by kernel_rfl) (hne:rs≠[]:=by simp):j5 P md ops Q S n L (f+1) listed a w:=q0u rs hr hne h
theorem cns(i:Nat){n:Nat}{oi:qbz}{f:Nat}{listed:Array Bool}{a:Act}{w:q3g}{L:Array Bool->Act->q3g->Prop}{rs:List Nat}
  (h:∀K':Act->q3g->Prop,Shut (∀a w,S w->(S w->j5 P md ops Q S n L f (listed.setIfInBounds i true) a w)->K' a w)->if qb0 oi (yielded ops a.tmps)=true then Oper.wp P oi a w K' Q else K' (a.put oi.dst q5s) w)
  (hs:qm P md ops Q S n L f listed a w rs) (hi:ops[i]?=some oi:=by rfl) (hn:decide (i<n)=true:=by rfl):qm P md ops Q S n L f listed a w (i::rs):=qm.cons hi hn h hs
theorem qR{id:Nat}{a:Act}{w:q3g}{l:List qbz}(n:Nat)(S:q3g->Prop)(hm:P.follows .mixedOrders=true)(hn:decide (n<=l.length)=true)(hS:S w.drew)
  (h:S w.drew->j5 P .any l.toArray Q S n (λlisted a w=>qeo .any l.toArray (l.length - n) n listed=true/\wpList P l.toArray Q (l.drop n) a w) n (qb4 l.length false) a w.drew) :
  (Code.region id l.toArray true).wp P Q a w:=by
 have Z:n<=l.length:=by simpa using hn
 refine wp_region_any hm ?_;have:=kc (g:=l.length - n) (λlisted a w hL=>by
  have:=wpAny_of_seq (md:=.any) (Q':=Q) (ops:=l.toArray) (l.drop n) n listed a w (λj=>by simp[List.getElem?_drop]) (by rw[qer];exact hL.1) hL.2
  rwa [qer] at this) _ _ _ _ (h hS)
 rw[show n+(l.length - n)=l.toArray.size by simp;omega] at this;simpa using this
end
end Go
end
section
namespace Go.Proofs.YtidgnkmjgioapaaGreat
open Go.RowKit
def zT(B:Nat)(w:q3g)(L:List Int):Prop:=∃cs,w.heap[B]?=some (.cells cs 3 (0,0))/\∀i,i<L.length->cs[i]?=some (.int .i64 (L[i]?.getD 0))
def xN:Nat->List Int->List Int
 | 0,L=>L
 | j+1,L=>if L[j+1]?.getD 0<L[j]?.getD 0 then xN j ((L.set (j+1) (L[j]?.getD 0)).set j (L[j+1]?.getD 0)) else L
def jy(k:Nat)(L:List Int):List Int:=(qa4 k).foldl (λL i=>xN i L) L
theorem kP(k:Nat)(L:List Int):jy (k+1) L=xN k (jy k L):=by simp[jy,List.range_succ]
theorem q73(j:Nat)(L:List Int):(xN j L).length=L.length:=by
 induction j generalizing L with
 | zero=>rfl
 | succ j ih =>
  unfold xN;split
  ·rw[ih];simp
  ·rfl
theorem xf(k:Nat)(L:List Int):(jy k L).length=L.length:=by
 induction k with
 | zero=>rfl
 | succ k ih=>rw[kP,q73,ih]
theorem YC{l:List Int}(h:∀i,i+1<l.length->l[i]?.getD 0<=l[i+1]?.getD 0):∀k,k<=l.length->jy k l=l
 | 0,_=>rfl
 | k+1,hk=>by
  rw[kP,YC h k (by omega)];cases k with
  | zero=>rfl
  | succ k =>
   unfold xN;have:=h k (by omega);rw[if_neg (by omega)]
section
variable{B:Nat}{w w':q3g}{L:List Int}
theorem zT.kept{r:Option Nat}(h:zT B w L)(hg:w.grownBy w' r)(hr:some B≠r):zT B w' L:=let ⟨cs,h1,h2⟩:=h;⟨cs,blk hg hr h1,h2⟩
theorem zT.at{k:Nat}(h:zT B w L)(hk:k<L.length):w.cell? ⟨B,k,none⟩=some (.int .i64 (L[k]?.getD 0)):=let ⟨_,h1,h2⟩:=h;qa h1 (h2 k hk)
theorem zT.thaw{k:Nat}(h:zT B w L):w.frozen? ⟨B,k,none⟩=false:=let ⟨_,h1,_⟩:=h;qn h1
theorem zT.step{j:Nat}{y v:q58}(h:zT B w L)(hy:w.cell? ⟨B,j,none⟩=some y):(w.setCell ⟨B,j+1,none⟩ v).cell? ⟨B,j,none⟩=some y/\(w.setCell ⟨B,j+1,none⟩ v).frozen? ⟨B,j,none⟩=false:=by
 obtain⟨cs,h1,-⟩:=h;have g1:(w.setCell ⟨B,j+1,none⟩ v).heap[B]?=some (.cells (cs.setIfInBounds (j+1) v) 3 (0,0)):=by rw[qh h1]
 have c2:cs[j]?=some y:=by simpa[qal,h1] using hy
 exact⟨qa g1 (by rw[qbj (by omega)];exact c2),qn g1⟩
theorem zT.swap{j:Nat}{a b:Int}(h:zT B w L)(hj:j+1<L.length) :
  zT B ((w.setCell ⟨B,j+1,none⟩ (.int .i64 b)).setCell ⟨B,j,none⟩ (.int .i64 a)) ((L.set (j+1) b).set j a):=by
 obtain⟨cs,h1,h2⟩:=h;have g1:(w.setCell ⟨B,j+1,none⟩ (.int .i64 b)).heap[B]?=some (.cells (cs.setIfInBounds (j+1) (.int .i64 b)) 3 (0,0)):=by rw[qh h1]
 have g2:((w.setCell ⟨B,j+1,none⟩ (.int .i64 b)).setCell ⟨B,j,none⟩ (.int .i64 a)).heap[B]?=some (.cells ((cs.setIfInBounds (j+1) (.int .i64 b)).setIfInBounds j (.int .i64 a)) 3 (0,0)):=by rw[qh g1]
 have s1:=(q45.1 (h2 (j+1) hj)).1;refine⟨_,g2,λi hi=>?_⟩;simp only[List.length_set] at hi;by_cases e:i=j
 ·subst e
  rw[qd8 (by rw[Array.size_setIfInBounds];omega),List.getElem?_set_self (by rw[List.length_set];omega)];rfl
 ·by_cases e':i=j+1
  ·subst e'
   rw[qbj (by omega),qd8 (by omega),qds (by omega),List.getElem?_set_self (by omega)];rfl
  ·rw[qbj (by omega),qbj (by omega),qds (by omega),qds (by omega)]
   exact h2 i hi
end
theorem q55(B c:Nat)(L:List Int)(w:q3g)(hI:zT B w L)(h8:L.length<=1000) :
  qaD Tryp.prog 211 #[.slice (some ⟨B,0,none⟩) L.length c,.int .i64 0,.int .i64 L.length] w λe w'=>e=.returned (.tuple #[])/\w.grownBy w' (some B)/\zT B w' (jy L.length L):=by
 have HI:=q1D hI;have g6:(L.length:Int)<=1000:=by omega
 clear hI;go_enter Tryp.func211,Tryz.ntmps211;go_wp2;go_loopw [6] (λiv wr=>∃k:Nat,iv=.int .i64 (k+1:Nat)/\k<=1000/\w.grownBy wr (some B)/\zT B wr (jy (min (k+1) L.length) L)) (λiv _=>(L.length - qb2 iv).toNat)
 case atStart=>exact⟨0,rfl,by omega,q8j _ _,by
  by_cases h:L.length=0
  ·rw[h];exact HI.out
  ·rw[show min (0+1) L.length=0+1 by omega,kP];exact HI.out⟩
 case round =>
  obtain⟨k,rfl,hk,hG,hR⟩:=hrel;have HG:=q1D hG;have HR:=q1D hR;clear hG hR;by_cases hlt:k+1<L.length
  ·have e5:(k:Int)+1<(L.length:Int):=by omega
   have e4:IntKind.i64.wrap ((k:Int)+1+1)=(k:Int)+1+1:=qa7 _ (by omega);have e7:IntKind.i64.wrap ((k:Int)+1)=(k:Int)+1:=qa7 _ (by omega);go_wp2;go_loopw [7] (λjv w2=>∃(j:Nat) (Lj:List Int),jv=.int .i64 j/\j<=k+1/\xN (k+1) (jy (min (k+1) L.length) L)=xN j Lj/\Lj.length=L.length/\w.grownBy w2 (some B)/\zT B w2 Lj) (λjv _=>(qb2 jv).toNat)
   case atStart=>exact⟨k+1,_,rfl,q5m _,rfl,xf _ _,HG.out,HR.out⟩
   case round =>
    obtain⟨j0,Lj,rfl,hj,hs,c3,c9,c8⟩:=hrel;have b8:=q1D hs;have d6:=q1D c3;have b9:=q1D c9;have a7:=q1D c8;clear hs c3 c9 c8;have hout:xN (k+1) (jy (min (k+1) L.length) L)=Lj->∀w5,w.grownBy w5 (some B)->zT B w5 Lj->∃k',q9q .i64 ((k:Int)+1+1)=.int .i64 ((k'+1:Nat):Int)/\k'<=1000/\w.grownBy w5 (some B)/\zT B w5 (jy (min (k'+1) L.length) L):=λe w5 h1 h2 =>
     ⟨k+1,by simp,by omega,h1,by rw[show min (k+1+1) L.length=(k+1)+1 by omega,kP,<- show min (k+1) L.length=k+1 by omega,show min (k+1) L.length=k+1 by omega];rw[show min (k+1) L.length=k+1 by omega] at e;rw[e];exact h2⟩
    have a8:=q1D hout;clear hout;cases j0 with
    | zero =>
     go_wp2_with (fail);go_quiet (fail);go_wp2;go_roundw
     case rel=>exact a8.out b8.out _ (b9.out.andThen (qi _ _ none) (by simp)) (a7.out.kept (qi _ _ none) (by simp))
     case measure=>simp[qb2];omega
    | succ j =>
     have a9:j+1<Lj.length:=by have:=d6.out;omega
     have x1:=a7.out.at (k:=j+1) a9;have y1:=a7.out.at (k:=j) (by omega);have z1:=a7.out.thaw (k:=j+1);have z0:=a7.out.thaw (k:=j);have a6:xN (j+1) Lj=if Lj[j+1]?.getD 0<Lj[j]?.getD 0 then xN j ((Lj.set (j+1) (Lj[j]?.getD 0)).set j (Lj[j+1]?.getD 0)) else Lj:=rfl;generalize Lj[j+1]?.getD 0=a at a6 x1;generalize Lj[j]?.getD 0=b at a6 y1;have e8:IntKind.i64.wrap (j:Int)=(j:Int):=qa7 _ (by omega);have g5:((j:Int)+1).toNat=j+1:=by omega
     have g8:(j:Int)+1<(L.length:Int):=by omega
     have e6:(j:Int)<(L.length:Int):=by omega
     have g9:(0:Int)<=(j:Int)+1:=by omega
     have g7:(0:Int)<(j:Int)+1:=by omega
     have e9:(j:Int)+1 - 1=(j:Int):=by omega
     have d9:=q1D a9;clear a9;by_cases hz:a<b
     ·rw[if_pos hz] at a6
      have b7:=q1D a6;clear a6;go_wp2_with (fail);go_quiet (first | (go_at_call 217;refine qc4 ((q39 _ _ _).mono (λe w5 h=>⟨h.1,h.2.symm⟩))));go_upto_region 6 with(fail)
      have b0:=qi wr nq none;generalize wr.drewN nq=wa at b0 ⊢;have hgb:wr.grownBy wa.drew none:=b0.trans (qc wa none);have RA:=a7.out.kept hgb (by simp);have x2:=hgb.cell x1 (by simp);have y2:=hgb.cell y1 (by simp);have d7:=q1D (RA.swap (a:=a) (b:=b) d9.out);have d8:=q1D (((b9.out.andThen hgb (by simp)).andThen (qg _ B (j+1) (.int .i64 b)) (λj e=>.inr e)).andThen (qg _ B j (.int .i64 a)) (λj e=>.inr e));have z2:=RA.thaw (k:=j+1);have z3:=RA.thaw (k:=j);have b6:=RA.step (v:=.int .i64 b) y2;have d5:=q1D b6;have z4:=b6.2;clear RA b6 x1 y1 z1 z0 b0 hgb;refine qR 16 (λw'=>w'.cell? ⟨B,j,none⟩=some (.int .i64 b)/\w'.frozen? ⟨B,j,none⟩=false) (by kernel_rfl) (by kernel_rfl) ⟨y2,z3⟩ (λZ=>?_);simp only[q8l,q9k,q9F,qbA,q9m,qao,qat,qbd,qae,q9y];refine tk 0 ?_;try go_frame
      refine tk 1 ?_;try go_frame
      refine tk 2 ?_;try go_frame
      refine tk 3 ?_;try go_frame
      refine tk 4 ?_;try go_frame
      refine tk 5 ?_;try go_frame
      refine tk 6 ?_;try go_frame
      refine tk 7 ?_;try go_frame
      refine tk 8 ?_;try go_frame
      refine tk 9 ?_;try go_frame
      refine tk 10 ?_;try go_frame
      refine tk 11 ?_;try go_frame
      refine tk 12 ?_;try go_frame
      refine rdy [13] ?_;refine cns 13 (λK hK=>?_) ?_
      ·skip
       go_simp;refine hK.out _ _ (by first | exact Z | exact⟨y2,z3⟩ | exact d5.out) (λZ=>?_);clear hK K;try go_frame
       refine tk 14 ?_;try go_frame
       refine rdy [15] ?_;refine cns 15 (λK hK=>?_) ?_
       ·skip
        go_simp;refine hK.out _ _ (by first | exact Z | exact⟨y2,z3⟩ | exact d5.out) (λZ=>?_);clear hK K;try go_frame
        refine⟨by kernel_rfl,?_⟩;simp only[qbh,qbH];go_wp2;refine⟨?_,?measure⟩
        repeat apply Exists.intro
        refine⟨?rel,rfl⟩
        case rel=>exact⟨j,_,rfl,by omega,b8.out.trans b7.out,by simp[d6.out],d8.out,d7.out⟩
        case measure=>simp[qb2]
       exact qm.nil
      exact qm.nil
     ·rw[if_neg hz] at a6
      have b7:=q1D a6;clear a6;go_wp2_with (fail);go_quiet (first | (go_at_call 217;refine qc4 ((q39 _ _ _).mono (λe w5 h=>⟨h.1,h.2.symm⟩))));go_wp2;go_roundw
      case rel=>exact a8.out (b8.out.trans b7.out) _ (b9.out.andThen (qi _ _ none) (by simp)) (a7.out.kept (qi _ _ none) (by simp))
      case measure=>simp[qb2];omega
  ·have he:min (k+1) L.length=L.length:=by omega
   rw[he] at HR;go_wp2;go_end0;exact⟨rfl,HG.out,HR.out⟩
def QC(base:Option qb9)(B:Nat)(w:q3g)(L:List Int):Prop:=(base=some ⟨B,0,none⟩/\zT B w L)\/L=[]
theorem q56(base:Option qb9)(B c:Nat)(L:List Int)(w:q3g)(hI:QC base B w L)(Z:L.length<=1000) :
  qaD Tryp.prog 211 #[.slice base L.length c,.int .i64 0,.int .i64 L.length] w λe w'=>e=.returned (.tuple #[])/\w.grownBy w' (some B)/\QC base B w' (jy L.length L):=by
 rcases hI with⟨rfl,hI⟩ | rfl
 ·exact(q55 B c L w hI Z).mono λe w' ⟨h1,h2,h3⟩=>⟨h1,h2,.inl ⟨rfl,h3⟩⟩
 ·go_enter Tryp.func211,Tryz.ntmps211
  go_wp2;go_loopw [6] (λiv wr=>iv=.int .i64 1/\w.grownBy wr (some B)) (λ_ _=>0)
  case atStart=>exact⟨rfl,q8j _ _⟩
  case round =>
   obtain⟨rfl,hG⟩:=hrel;go_wp2;go_end0;exact⟨rfl,hG,.inr rfl⟩
end Go.Proofs.YtidgnkmjgioapaaGreat
end
section
namespace Go.Proofs.YtidgnkmjgioapaaGreat
open Go.RowKit
theorem Jm(n:Nat)(h:n<=12)(w:q3g):qaD Tryp.prog 156 #[.int .u64 n] w λe w'=>∃v,e=.returned (.int .i64 v)/\w=w':=by
 go_enter Tryp.func156,Tryz.ntmps156;go_wp2_with (first | (go_at_call 197;refine(q7i n h _).mono ?_;rintro e w2 ⟨v,rfl,rfl⟩));go_ret;exact⟨_,rfl,rfl⟩
theorem pdqI(base:Option qb9)(B c:Nat)(L:List Int)(lim:Int)(w:q3g)(hI:QC base B w L)(Z:L.length<=12) :
  qaD Tryp.prog 200 #[.slice base L.length c,.int .i64 0,.int .i64 L.length,.int .i64 lim] w λe w'=>e=.returned (.tuple #[])/\w.grownBy w' (some B)/\QC base B w' (jy L.length L):=by
 have HI:=q1D hI;clear hI;go_enter Tryp.func200,Tryz.ntmps200;go_wp2;go_loopw [1,2,3] (λa b c wr=>a=.int .i64 0/\b=.int .i64 L.length/\c=.int .i64 lim/\w=wr) (λ_ _ _ _=>0)
 case atStart=>exact⟨rfl,rfl,rfl,rfl⟩
 case round =>
  obtain⟨rfl,rfl,rfl,rfl⟩:=hrel;have h1:IntKind.i64.wrap (L.length:Int)=(L.length:Int):=qa7 _ (by omega);have h2:(L.length:Int)<=12:=by omega
  go_wp2_with (first | (go_at_call 211;refine(q56 base B c L _ HI.out (by omega)).mono ?_;rintro e w2 ⟨rfl,hg,hr⟩));refine qcG (results_none rfl _ _ _) rfl ?_;exact⟨rfl,hg,hr⟩
theorem sortI(base:Option qb9)(B c:Nat)(L:List Int)(w:q3g)(hI:QC base B w L)(Z:L.length<=12) :
  qaD Tryp.prog 164 #[.slice base L.length c] w λe w'=>e=.returned (.tuple #[])/\w.grownBy w' (some B)/\QC base B w' (jy L.length L):=by
 have HI:=q1D hI;clear hI;have hw:IntKind.u64.wrap (L.length:Int)=(L.length:Int):=by simp[IntKind.wrap,IntKind.signed,IntKind.bits];omega
 go_enter Tryp.func164,Tryz.ntmps164;go_wp2_with (first
  | (go_at_call 156;refine(Jm L.length Z _).mono ?_;rintro e w2 ⟨v,rfl,rfl⟩)
  | (go_at_call 200;refine(pdqI base B c L _ _ HI.out Z).mono ?_;rintro e w2 ⟨rfl,hg,hr⟩))
 go_end0;exact⟨rfl,hg,hr⟩
theorem QF(b:Option qb9)(n c:Nat)(w:q3g):qaD Tryp.prog 135 #[.slice b n c] w λe w'=>e=.returned (.func (.func 165) #[] #[.pointer (some ⟨w.heap.size,0,none⟩)])/\w'=w.alloc (.cells #[.slice b n c] 29):=by
 go_enter Tryp.func135,Tryz.ntmps135;go_wp2;go_ret;exact⟨rfl,rfl⟩
def zI(ws:List Int):Nat->List Int->Nat->List (List Int)
 | 0,now,_=>[now]
 | m+1,now,from_=>(List.range' from_ (ws.length - from_)).flatMap λi=>zI ws m (now++[ws[i]?.getD 0]) (i+1)
theorem QR{ws:List Int}{m:Nat}{now:List Int}{i:Nat}(h:i<ws.length):zI ws (m+1) now i=zI ws m (now++[ws[i]?.getD 0]) (i+1)++zI ws (m+1) now (i+1):=by
 have e:ws.length - i=(ws.length - (i+1))+1:=by omega
 simp only[zI];rw[e,List.range'_succ,qcv]
theorem q0d{ws:List Int}{m:Nat}{now:List Int}{i:Nat}(h:ws.length<=i):zI ws (m+1) now i=[]:=by
 simp only[zI];rw[show ws.length - i=0 by omega];rfl
def zN(ws:List Int)(k:Nat):List (List Int):=(List.range' k (ws.length+1 - k)).flatMap λm=>zI ws m [] 0
theorem ZF{ws:List Int}{k:Nat}(h:k<ws.length+1):zN ws k=zI ws k [] 0++zN ws (k+1):=by
 have e:ws.length+1 - k=(ws.length+1 - (k+1))+1:=by omega
 unfold zN;rw[e,List.range'_succ,qcv]
theorem q2b{ws:List Int}{k:Nat}(h:ws.length+1<=k):zN ws k=[]:=by
 unfold zN;rw[show ws.length+1 - k=0 by omega];rfl
end Go.Proofs.YtidgnkmjgioapaaGreat
end
section
namespace Go
open Go.RowKit
section
variable{F:Fence}{n:Nat}{P:q8b}
structure Stp(n1 B:Nat)(G:Nat->Prop)(A C:q3g):Prop where
 os:C.os=A.os
 tape:C.tape=A.tape
 output:C.output=A.output
 size:A.heap.size<=C.heap.size
 keep:∀k,k<A.heap.size->((k<n1/\k≠B)\/G k)->C.heap[k]?=A.heap[k]?
structure Bod(n1 B:Nat)(G G':Nat->Prop)(A C:q3g):Prop where
 tape:C.tape=A.tape
 size:A.heap.size<=C.heap.size
 keep:∀k,k<A.heap.size->(n1<=k\/k=B)->¬ G k->C.heap[k]?=A.heap[k]?
 fp:∀k,G' k->G k\/A.heap.size<=k
theorem Bod.trans{n1 B:Nat}{G G' Z:Nat->Prop}{A C E:q3g}(h:Bod n1 B G G' A C)(k:Bod n1 B G' Z C E):Bod n1 B G Z A E :=
 ⟨k.tape.trans h.tape,q87 h.size k.size,λj hj hn hf=>(k.keep j (q8m hj h.size) hn (λe=>(h.fp j e).elim hf (by omega))).trans (h.keep j hj hn hf),
  λj hj=>(k.fp j hj).elim (h.fp j) (λe=>.inr (q87 h.size e))⟩
theorem Stp.mono{n1 n2 B:Nat}{G:Nat->Prop}{A C:q3g}(h:Stp n2 B G A C)(hn:n1<=n2):Stp n1 B G A C:=⟨h.os,h.tape,h.output,h.size,λk hk hc=>h.keep k hk (hc.imp (λe=>⟨by omega,e.2⟩) id)⟩
theorem Bod.mono{n1 n2 B:Nat}{G G':Nat->Prop}{A C:q3g}(h:Bod n1 B G G' A C)(hn:n1<=n2):Bod n2 B G G' A C:=⟨h.tape,h.size,λk hk hc=>h.keep k hk (hc.imp (λe=>by omega) id),h.fp⟩
def SeqX{α:Type}(F:Fence)(n:Nat)(P:q8b)(g:Nat)(lb:Array q58)(Z:α->Array q58)(Xp:α->q3g->Prop)(S Sp:List α->Prop)(B:Nat)(w0:q3g):Prop :=
 ∀(l:Nat) (J Jx:List α->(Nat->Prop)->q3g->Prop) (G0:Nat->Prop) (W:q3g),Below w0.heap.size w0 W->¬ G0 B->(∀s G A,J s G A->∀k,G k->k<A.heap.size) ->
  (∀s G A C,J s G A->Stp W.heap.size B G A C->J s G C)->(∀s G A C,Jx s G A->Stp W.heap.size B G A C->Jx s G C) ->
  (∀pre G x W1,J pre G W1->Xp x W1->Sp (pre++[x])->YieldAt F (n - 1) P l (Z x) W1 λe W' =>
   ∃G',(e=.returned (.bool true)/\J (pre++[x]) G' W'/\Bod W.heap.size B G G' W1 W')\/(e=.returned (.bool false)/\Jx (pre++[x]) G' W'/\Bod W.heap.size B G G' W1 W')) ->
  J [] G0 W ->
  CallsIn F n P g (#[.func (.yield l) #[] #[]]++lb) W λe W'=>(∃v,e=.returned v)/\((∃xs G,S xs/\J xs G W')\/(∃pre G,Sp pre/\Jx pre G W'))
def postX{α:Type}(n1 B:Nat)(G:Nat->Prop)(I:List α->(Nat->Prop)->q3g->Prop)(Ix:qcm->List α->(Nat->Prop)->q3g->Prop)(xs:List α)(W:q3g):Exit->Act->q3g->Prop
 | .normal,_,W'=>∃G',Bod n1 B G G' W W'/\I xs G' W'
 | .ret,_,W'=>∃G',Bod n1 B G G' W W'/\Ix .ret xs G' W'
 | .exit id,_,W'=>∃G',Bod n1 B G G' W W'/\Ix (.exit id) xs G' W'
 | .goto t,_,W'=>∃G',Bod n1 B G G' W W'/\Ix (.goto t) xs G' W'
 | .panic _,_,_=>False
 | .outgrown,_,_=>False
theorem kj{n1 B:Nat}{G:Nat->Prop}{A:q3g}{l:Nat}(o:Obj)(h1:n1<=l)(h2:¬ G l):Stp n1 B G A (A.putObj l o) :=
 have hg:=grownBy_putObj' A l o
 ⟨hg.os,hg.tape,hg.output,hg.size,λk hk hc=>hg.block k hk (by
  intro e;cases e;rcases hc with h | h
  ·omega
  ·exact h2 h)⟩
theorem vd{α:Type}{g:qaH}{ps:Array Tmp}{assign body:qcm}{Q:Exit->Act->q3g->Prop}{a:Act}{w:q3g}
  (hro:F.round=none) (h1:1<=n) {gf:Nat} {lb:Array q58} (hg:a.eval g=.func (.func gf) #[] lb) (l7:F.fn gf) (eg:∀args w,(callFunc gf args).run P w=.ok (.enter gf args) w)
  {c9:α->Array q58} {Xp:α->q3g->Prop} {S Sp:List α->Prop} {B:Nat} {w0:q3g} (g5:SeqX F (n - 1) P gf lb c9 Xp S Sp B w0)
  (h8:Below w0.heap.size w0 w) (hps:∀x,(c9 x).size=ps.size) {G0:Nat->Prop} (hB:¬ G0 B) (l9:B<w.heap.size)
  (hX:∀x A l o o',A.heap[l]?=some o->o.isCells=false->Xp x A->Xp x (A.putObj l o'))
  (I:List α->(Nat->Prop)->q3g->Prop) (Ix:qcm->List α->(Nat->Prop)->q3g->Prop) (d8:∀s G A,I s G A->∀k,G k->k<A.heap.size) (hI:∀s G A C,I s G A->Stp w.heap.size B G A C->I s G C) (e4:∀c s G A C,Ix c s G A->Stp w.heap.size B G A C->Ix c s G C) (h0:I [] G0 w) (a₁:α->Act)
  (d9:∀(l:Nat) (x:α) (W:q3g) (K:Act->q3g->Prop),K (a₁ x) W ->
   assign.wpIn (F.inRound l) (n - 1 - 1) P (Exit.then K (λ_ _ _=>False)) { tmps:=(ps.zip (c9 x)).foldl (λt (p,v)=>t.setIfInBounds p v) a.tmps,defers:=[] } W)
  (hbody:∀(l:Nat) (pre:List α) (G:Nat->Prop) (x:α) (W:q3g),I pre G W->Xp x W->Sp (pre++[x])->body.wpIn (F.inRound l) (n - 1 - 1) P (postX w.heap.size B G I Ix (pre++[x]) W) (a₁ x) W)
  (hdone:∀(D:Nat) (xs:List α) (G:Nat->Prop) (W:q3g),w.heap.size<=D->S xs->I xs G W->W.heap[D]?=some (.deferred (some []))->¬ G D->Q .normal { a with defers:={ target:=.collected D,args:=#[] }::a.defers } W)
  (hstop:∀(D:Nat) (c:qcm) (pre:List α) (G:Nat->Prop) (W:q3g),w.heap.size<=D->Sp pre->Ix c pre G W->W.heap[D]?=some (.deferred (some []))->¬ G D->c.wpIn F n P Q { a with defers:={ target:=.collected D,args:=#[] }::a.defers } W) :
  (Code.rangeFunc g ps assign body).wpIn F n P Q a w:=by
 refine wpIn_rangeFunc ?_;intro fn hfn;rw[hro];obtain⟨Z,a6⟩:∃Z:LoopState->Option qcm->Loop,Z=λst pe=>{ state:=st,pending:=pe,fn,tmps:=a.tmps,params:=ps,assign,body,defers:=w.heap.size }:=⟨_,rfl⟩
 obtain⟨W1,d7⟩:∃W1,(w.alloc (.deferred (some []))).alloc (.loop (Z .ready none))=W1:=⟨_,rfl⟩
 have hL1:W1.heap[w.heap.size+1]?=some (.loop (Z .ready none)):=by
  rw[<- d7];have:=World.alloc_heap_new (w.alloc (.deferred (some []))) (.loop (Z .ready none));rwa [q8f] at this
 have l5:W1.heap[w.heap.size]?=some (.deferred (some [])):=by
  rw[<- d7];exact(Below.heap_alloc _ _ _ (by simp)).trans (World.alloc_heap_new w _)
 have l8:W1.heap.size=w.heap.size+2:=by rw[<- d7];simp
 have e9:Stp w.heap.size B G0 w W1:=by
  have h:=(q34 w (.deferred (some [])) none).trans (q34 _ (.loop (Z .ready none)) none);rw[d7] at h;exact⟨h.os,h.tape,h.output,h.size,λk hk _=>h.block k hk (by simp)⟩
 have l6:I [] G0 W1:=hI _ _ _ _ h0 e9;have k7:¬ G0 w.heap.size:=λh=>by have:=d8 _ _ _ h0 _ h;omega
 have k6:¬ G0 (w.heap.size+1):=λh=>by have:=d8 _ _ _ h0 _ h;omega
 have hb1:Below w0.heap.size w0 W1:=by
  rw[<- d7];exact h8.trans ((((Below.refl _ w).alloc (q5m _) _).alloc (by simp) _).mono h8.size)
 refine⟨w.heap.size+1,[{ target:=.collected w.heap.size,args:=#[] }],W1,{ target:=.fn (.func gf) lb,args:=#[.func (.yield (w.heap.size+1)) #[] #[]] },W1,gf,
  #[.func (.yield (w.heap.size+1)) #[] #[]]++lb,W1,?_,?_,?_,?_,λ_=>h1,?_⟩
 ·rw[<- d7,a6];exact run_enterLoop_outer _ _ _ _ _
 ·simp only[resolve,hg]
  simp[go_sem]
 ·intro f' g9;simp[Target.leads] at g9;subst g9;exact l7
 ·simp[invoke,go_sem,eg]
 ·have a9:∀(G:Nat->Prop) (A C:q3g),Stp W1.heap.size B G A C->w.heap.size+2<=A.heap.size->C.heap[w.heap.size+1]?=A.heap[w.heap.size+1]?/\C.heap[w.heap.size]?=A.heap[w.heap.size]?:=λG A C h hA =>
   ⟨h.keep _ (by omega) (.inl ⟨by omega,by omega⟩),h.keep _ (by omega) (.inl ⟨by omega,by omega⟩)⟩
  refine(g5 (w.heap.size+1)
   (λpre G W=>(I pre G W/\w.heap.size+2<=W.heap.size/\¬ G w.heap.size/\¬ G (w.heap.size+1))/\W.heap[w.heap.size+1]?=some (.loop (Z .ready none))/\W.heap[w.heap.size]?=some (.deferred (some [])))
   (λpre G W=>∃c,(Ix c pre G W/\w.heap.size+2<=W.heap.size/\¬ G w.heap.size/\¬ G (w.heap.size+1))/\W.heap[w.heap.size+1]?=some (.loop (Z .done (some c)))/\W.heap[w.heap.size]?=some (.deferred (some [])))
   G0 W1 hb1 hB (λs G A hs=>d8 s G A hs.1.1)
   (λs G A C hs h=>⟨⟨hI s G A C hs.1.1 (h.mono (by omega)),q87 hs.1.2.1 h.size,hs.1.2.2.1,hs.1.2.2.2⟩,(a9 G A C h hs.1.2.1).1.trans hs.2.1,(a9 G A C h hs.1.2.1).2.trans hs.2.2⟩)
   (λs G A C hs h=>by
    obtain⟨c,hc,hl,hk⟩:=hs;exact⟨c,⟨e4 c s G A C hc.1 (h.mono (by omega)),q87 hc.2.1 h.size,hc.2.2.1,hc.2.2.2⟩,(a9 G A C h hc.2.1).1.trans hl,(a9 G A C h hc.2.1).2.trans hk⟩)
   ?_ ⟨⟨l6,by omega,k7,k6⟩,hL1,l5⟩).mono ?_
  ·-- ONE ROUND
   rintro pre G x W ⟨⟨hi,hsz,d5,b0⟩,hl,hk⟩ hx hsp;have hlt:w.heap.size+1<W.heap.size:=(q45.1 hl).1;have hy:=run_yield (P:=P) (args:=c9 x) hl (by rw[a6];exact hps x);rw[a6] at hy;refine⟨fn,_,assign,body,hy,roundIn_of_wpIn hfn (d9 _ x W _ ⟨_,run_beginRound hl (by rw[a6]),?_⟩)⟩;obtain⟨Wb,d6⟩:∃Wb,W.putObj (w.heap.size+1) (.loop { Z .ready none with state:=.busy })=Wb:=⟨_,rfl⟩
   have hl2:Wb.heap[w.heap.size+1]?=some (.loop { Z .ready none with state:=.busy }):=by rw[<- d6];exact World.putObj_heap_same hlt
   have k9:Wb.heap[w.heap.size]?=some (.deferred (some [])):=by rw[<- d6];exact(qe9 (by omega)).trans hk
   have e5:Stp w.heap.size B G W Wb:=by rw[<- d6];exact kj _ (by omega) b0
   have hgb:W.grownBy Wb (some (w.heap.size+1)):=by rw[<- d6];exact grownBy_putObj' _ _ _
   have k5:Xp x Wb:=by rw[<- d6];exact hX x W _ _ _ hl rfl hx
   rw[d6];have e8:w.heap.size+2<=Wb.heap.size:=q87 hsz e5.size;refine wpIn_mono (hbody _ pre G x _ (hI _ _ _ _ hi e5) k5 hsp) ?_;have k0:Bod W1.heap.size B G G W Wb:=⟨hgb.tape,hgb.size,λk hk' hn _=>hgb.block k hk' (by intro e;cases e;rcases hn with h | h<;>omega),λk hk'=>.inl hk'⟩
   have fin:∀(jump:Option qcm) (G3:Nat->Prop) (W3:q3g),Bod w.heap.size B G G3 Wb W3 ->
     (qcH (w.heap.size+1) jump).run P W3=.ok (.bool jump.isNone) (W3.putObj (w.heap.size+1) (.loop (Z (if jump.isNone then .ready else .done) jump))) /\
     (W3.putObj (w.heap.size+1) (.loop (Z (if jump.isNone then .ready else .done) jump))).heap[w.heap.size+1]?=some (.loop (Z (if jump.isNone then .ready else .done) jump)) /\
     (W3.putObj (w.heap.size+1) (.loop (Z (if jump.isNone then .ready else .done) jump))).heap[w.heap.size]?=some (.deferred (some [])) /\
     Stp w.heap.size B G3 W3 (W3.putObj (w.heap.size+1) (.loop (Z (if jump.isNone then .ready else .done) jump))) /\
     Bod W1.heap.size B G G3 W (W3.putObj (w.heap.size+1) (.loop (Z (if jump.isNone then .ready else .done) jump))) /\
     w.heap.size+2<=(W3.putObj (w.heap.size+1) (.loop (Z (if jump.isNone then .ready else .done) jump))).heap.size /\
     ¬ G3 w.heap.size/\¬ G3 (w.heap.size+1):=λjump G3 W3 a7=>by
    have g8:=(a7.keep (w.heap.size+1) (by omega) (.inl (by omega)) b0).trans hl2;have k8:=(a7.keep w.heap.size (by omega) (.inl (by omega)) d5).trans k9;have g7:¬ G3 (w.heap.size+1):=λe=>(a7.fp _ e).elim b0 (by omega);have g6:¬ G3 w.heap.size:=λe=>(a7.fp _ e).elim d5 (by omega);have e6:Stp w.heap.size B G3 W3 (W3.putObj (w.heap.size+1) (.loop (Z (if jump.isNone then .ready else .done) jump))):=kj _ (by omega) g7;have e7:W3.grownBy (W3.putObj (w.heap.size+1) (.loop (Z (if jump.isNone then .ready else .done) jump))) (some (w.heap.size+1)):=grownBy_putObj' _ _ _;have h9:Bod W1.heap.size B G3 G3 W3 (W3.putObj (w.heap.size+1) (.loop (Z (if jump.isNone then .ready else .done) jump))):=⟨e7.tape,e7.size,λk hk' hn _=>e7.block k hk' (by intro e;cases e;rcases hn with h | h<;>omega),λk hk'=>.inl hk'⟩
    have:=run_endRound (P:=P) jump g8;rw[a6] at this;refine⟨by rw[a6];exact this,World.putObj_heap_same (q45.1 g8).1,(qe9 (by omega)).trans k8,e6,(k0.trans (a7.mono (by omega))).trans h9,q87 e8 (q87 a7.size e6.size),g6,g7⟩
   rintro e a3 W3 hp;cases e with
   | normal =>
    obtain⟨G3,a7,b8⟩:=hp;obtain⟨hr,b6,b7,hst,c8,a8,c3,b9⟩:=fin none G3 W3 a7;exact⟨_,_,hr,G3,.inl ⟨rfl,⟨⟨hI _ _ _ _ b8 hst,a8,c3,b9⟩,b6,b7⟩,c8⟩⟩
   | ret =>
    obtain⟨G3,a7,b8⟩:=hp;obtain⟨hr,b6,b7,hst,c8,a8,c3,b9⟩:=fin (some .ret) G3 W3 a7;exact⟨_,_,hr,G3,.inr ⟨rfl,⟨.ret,⟨e4 _ _ _ _ _ b8 hst,a8,c3,b9⟩,b6,b7⟩,c8⟩⟩
   | exit id =>
    obtain⟨G3,a7,b8⟩:=hp;obtain⟨hr,b6,b7,hst,c8,a8,c3,b9⟩:=fin (some (.exit id)) G3 W3 a7;exact⟨_,_,hr,G3,.inr ⟨rfl,⟨.exit id,⟨e4 _ _ _ _ _ b8 hst,a8,c3,b9⟩,b6,b7⟩,c8⟩⟩
   | goto t =>
    obtain⟨G3,a7,b8⟩:=hp;obtain⟨hr,b6,b7,hst,c8,a8,c3,b9⟩:=fin (some (.goto t)) G3 W3 a7;exact⟨_,_,hr,G3,.inr ⟨rfl,⟨.goto t,⟨e4 _ _ _ _ _ b8 hst,a8,c3,b9⟩,b6,b7⟩,c8⟩⟩
   | panic ch=>exact hp.elim
   | outgrown=>exact hp.elim
  ·-- BEHIND THE ITERATOR
   rintro e W2 ⟨⟨v,rfl⟩,(⟨xs,G,hS,⟨hi,hsz,d5,b0⟩,hl,hk⟩ | ⟨pre,G,l4,c,⟨hi,hsz,d5,b0⟩,hl,hk⟩)⟩
   ·refine⟨none,_,by have:=run_endLoop (P:=P) hl (by rw[a6];simp);rw[a6] at this;exact this,hdone _ xs G _ (q5m _) hS (hI _ _ _ _ hi (kj _ (by omega) b0)) ((qe9 (by omega)).trans hk) d5⟩
   ·refine⟨some c,_,by have:=run_endLoop (P:=P) hl (by rw[a6];simp);rw[a6] at this;exact this,hstop _ c pre G _ (q5m _) l4 (e4 c _ _ _ _ hi (kj _ (by omega) b0)) ((qe9 (by omega)).trans hk) d5⟩
end
end Go
end
section
namespace Go.Proofs.YtidgnkmjgioapaaGreat
open Go.RowKit
theorem qax:∀m:Fin 32,∀n:Fin 5,m.1.testBit n.1=false->bits .andNot .u8 ((m.1 ||| 2 ^ n.1:Nat):Int) ((2 ^ n.1:Nat):Int)=(m.1:Int):=by decide
theorem q82{m n:Nat}(hm:m<32)(hn:n<5)(h:m.testBit n=false):bits .andNot .u8 ((m ||| 2 ^ n:Nat):Int) ((2 ^ n:Nat):Int)=(m:Int):=qax ⟨m,hm⟩ ⟨n,hn⟩ h
def Popped(Bn Bu:Nat)(g:Option qb9)(k cap m:Nat)(w w':q3g):Prop :=
 w'.os=w.os/\w'.tape=w.tape/\w'.output=w.output/\w'.heap=((w.setCell ⟨Bn,0,none⟩ (.slice g k cap)).setCell ⟨Bu,0,none⟩ (.int .u8 m)).heap
theorem pop_any(Bn Bu Bx:Nat)(g:Option qb9)(k cap m n:Nat)(w:q3g)(a6:n<5)(hm:m<32)(hb:m.testBit n=false)(hk:k<1000000)(b6:k+1<=cap)(hne:Bn≠Bu)(a8:Bn≠Bx)
  (h1:w.heap[Bn]?=some (.cells #[.slice g (k+1) cap] 29 (0,0))) (h2:w.heap[Bu]?=some (.cells #[.int .u8 (m ||| 2 ^ n:Nat)] 130 (0,0))) (h3:w.heap[Bx]?=some (.cells #[.int .i64 n] 3 (0,0))) (u:FrameMode) :
  CallsD Tryp.prog 152 #[.pointer (some ⟨Bn,0,none⟩),.pointer (some ⟨Bu,0,none⟩),.pointer (some ⟨Bx,0,none⟩)] u w λe u' w'=>u'=u/\e=.returned (.tuple #[]) /\
   Popped Bn Bu g k cap m w w':=by
 have c1:w.cell? ⟨Bn,0,none⟩=some (.slice g (k+1) cap):=qa (o:=0) h1 rfl;have c2:w.cell? ⟨Bu,0,none⟩=some (.int .u8 (m ||| 2 ^ n:Nat)):=qa (o:=0) h2 rfl;have c3:w.cell? ⟨Bx,0,none⟩=some (.int .i64 n):=qa (o:=0) h3 rfl;have z1:=qn (o:=0) h1;have z2:=qn (o:=0) h2;have a7:=q82 hm a6 hb;have b7:IntKind.i64.wrap ((k:Int)+1 - 1)=(k:Int):=by rw[show(k:Int)+1 - 1=k by omega];exact qa7 _ (by omega)
 have a9:IntKind.i64.wrap (k:Int)=(k:Int):=qa7 _ (by omega);have b8:(k:Int)<=(cap:Int):=by omega
 have b0:Bu≠Bn:=λe=>hne e.symm;clear h1 h2 h3;refine callsD_of_wp (R:=λe w'=>e=.returned (.tuple #[])/\Popped Bn Bu g k cap m w w') Tryp.func152 rfl ?_;simp only[Tryz.ntmps152,qa0,q8l,q9k,q9F,qbA,qao,qat,qbd,qdi,qae,q9y];generalize hM:((m ||| 2 ^ n:Nat):Int)=M at c2 a7;generalize hN:((2 ^ n:Nat):Int)=N2 at a7;have HN:=q1D hN;have HM:=q1D hM;clear hN hM;have hk:∀(W:q3g) (x:q58),(W.cell? ⟨Bu,0,none⟩=some (.int .u8 M)/\W.cell? ⟨Bx,0,none⟩=some (.int .i64 n))->((W.setCell ⟨Bn,0,none⟩ x).cell? ⟨Bu,0,none⟩=some (.int .u8 M)/\(W.setCell ⟨Bn,0,none⟩ x).cell? ⟨Bx,0,none⟩=some (.int .i64 n)):=λW x h =>
  ⟨by rw[qbG _ _ _ _ (λe=>hne (congrArg Addr.block e))];exact h.1,by rw[qbG _ _ _ _ (λe=>a8 (congrArg Addr.block e))];exact h.2⟩
 have HK:=q1D hk;clear hk;go_wp2_with (fail);refine qR 10 (λw'=>w'.cell? ⟨Bu,0,none⟩=some (.int .u8 M)/\w'.cell? ⟨Bx,0,none⟩=some (.int .i64 n)) (by kernel_rfl) (by kernel_rfl) ⟨c2,c3⟩ (λZ=>?_);simp only[q8l,q9k,q9F,qbA,q9m,qao,qat,qbd,qae,q9y];refine tk 5 ?_;try go_frame
 refine tk 6 ?_;try go_frame
 refine rdy [0,1,7] ?_;refine cns 0 (λK hK=>?_) ?_
 ·skip
  go_simp;refine hK.out _ _ (by first | exact Z | exact HK.out _ _ Z) (λZ=>?_);clear hK K;try go_frame
  refine rdy [1,7] ?_;refine cns 1 (λK hK=>?_) ?_
  ·skip
   go_simp;refine hK.out _ _ (by first | exact Z | exact HK.out _ _ Z) (λZ=>?_);clear hK K;try go_frame
   refine tk 2 ?_;try go_frame
   refine tk 3 ?_;try go_frame
   refine tk 4 ?_;try go_frame
   refine rdy [7] ?_;refine cns 7 (λK hK=>?_) ?_
   ·skip
    go_simp;go_at_call 153;refine(xm n _ a6).mono ?_;rintro e w2 ⟨rfl,rfl⟩;rw[HN.out];refine hK.out _ _ (by first | exact Z | exact HK.out _ _ Z) (λZ=>?_);clear hK K;try go_frame
    refine tk 8 ?_;try go_frame
    refine rdy [9] ?_;refine cns 9 (λK hK=>?_) ?_
    ·skip
     go_simp;refine hK.out _ _ (by first | exact Z | exact HK.out _ _ Z) (λZ=>?_);clear hK K;try go_frame
     refine⟨by kernel_rfl,?_⟩;simp only[qbh,qbH];go_wp2;go_end0;exact⟨rfl,rfl,rfl,rfl,rfl⟩
    exact qm.nil
   exact qm.nil
  refine cns 7 (λK hK=>?_) ?_
  ·skip
   go_simp;go_at_call 153;refine(xm n _ a6).mono ?_;rintro e w2 ⟨rfl,rfl⟩;rw[HN.out];refine hK.out _ _ (by first | exact Z | exact HK.out _ _ Z) (λZ=>?_);clear hK K;try go_frame
   refine tk 8 ?_;try go_frame
   refine rdy [1] ?_;refine cns 1 (λK hK=>?_) ?_
   ·skip
    go_simp;refine hK.out _ _ (by first | exact Z | exact HK.out _ _ Z) (λZ=>?_);clear hK K;try go_frame
    refine tk 2 ?_;try go_frame
    refine tk 3 ?_;try go_frame
    refine tk 4 ?_;try go_frame
    refine rdy [9] ?_;refine cns 9 (λK hK=>?_) ?_
    ·skip
     go_simp;refine hK.out _ _ (by first | exact Z | exact HK.out _ _ Z) (λZ=>?_);clear hK K;try go_frame
     refine⟨by kernel_rfl,?_⟩;simp only[qbh,qbH];go_wp2;go_end0;exact⟨rfl,rfl,rfl,rfl,rfl⟩
    exact qm.nil
   exact qm.nil
  exact qm.nil
 refine cns 1 (λK hK=>?_) ?_
 ·skip
  go_simp;refine hK.out _ _ (by first | exact Z | exact HK.out _ _ Z) (λZ=>?_);clear hK K;try go_frame
  refine tk 2 ?_;try go_frame
  refine tk 3 ?_;try go_frame
  refine rdy [0,7] ?_;refine cns 0 (λK hK=>?_) ?_
  ·skip
   go_simp;refine hK.out _ _ (by first | exact Z | exact HK.out _ _ Z) (λZ=>?_);clear hK K;try go_frame
   refine tk 4 ?_;try go_frame
   refine rdy [7] ?_;refine cns 7 (λK hK=>?_) ?_
   ·skip
    go_simp;go_at_call 153;refine(xm n _ a6).mono ?_;rintro e w2 ⟨rfl,rfl⟩;rw[HN.out];refine hK.out _ _ (by first | exact Z | exact HK.out _ _ Z) (λZ=>?_);clear hK K;try go_frame
    refine tk 8 ?_;try go_frame
    refine rdy [9] ?_;refine cns 9 (λK hK=>?_) ?_
    ·skip
     go_simp;refine hK.out _ _ (by first | exact Z | exact HK.out _ _ Z) (λZ=>?_);clear hK K;try go_frame
     refine⟨by kernel_rfl,?_⟩;simp only[qbh,qbH];go_wp2;go_end0;exact⟨rfl,rfl,rfl,rfl,rfl⟩
    exact qm.nil
   exact qm.nil
  refine cns 7 (λK hK=>?_) ?_
  ·skip
   go_simp;go_at_call 153;refine(xm n _ a6).mono ?_;rintro e w2 ⟨rfl,rfl⟩;rw[HN.out];refine hK.out _ _ (by first | exact Z | exact HK.out _ _ Z) (λZ=>?_);clear hK K;try go_frame
   refine tk 8 ?_;try go_frame
   refine rdy [0] ?_;refine cns 0 (λK hK=>?_) ?_
   ·skip
    go_simp;refine hK.out _ _ (by first | exact Z | exact HK.out _ _ Z) (λZ=>?_);clear hK K;try go_frame
    refine tk 4 ?_;try go_frame
    refine rdy [9] ?_;refine cns 9 (λK hK=>?_) ?_
    ·skip
     go_simp;refine hK.out _ _ (by first | exact Z | exact HK.out _ _ Z) (λZ=>?_);clear hK K;try go_frame
     refine⟨by kernel_rfl,?_⟩;simp only[qbh,qbH];go_wp2;go_end0;exact⟨rfl,rfl,rfl,rfl,rfl⟩
    exact qm.nil
   exact qm.nil
  exact qm.nil
 refine cns 7 (λK hK=>?_) ?_
 ·skip
  go_simp;go_at_call 153;refine(xm n _ a6).mono ?_;rintro e w2 ⟨rfl,rfl⟩;rw[HN.out];refine hK.out _ _ (by first | exact Z | exact HK.out _ _ Z) (λZ=>?_);clear hK K;try go_frame
  refine tk 8 ?_;try go_frame
  refine rdy [0,1] ?_;refine cns 0 (λK hK=>?_) ?_
  ·skip
   go_simp;refine hK.out _ _ (by first | exact Z | exact HK.out _ _ Z) (λZ=>?_);clear hK K;try go_frame
   refine rdy [1] ?_;refine cns 1 (λK hK=>?_) ?_
   ·skip
    go_simp;refine hK.out _ _ (by first | exact Z | exact HK.out _ _ Z) (λZ=>?_);clear hK K;try go_frame
    refine tk 2 ?_;try go_frame
    refine tk 3 ?_;try go_frame
    refine tk 4 ?_;try go_frame
    refine rdy [9] ?_;refine cns 9 (λK hK=>?_) ?_
    ·skip
     go_simp;refine hK.out _ _ (by first | exact Z | exact HK.out _ _ Z) (λZ=>?_);clear hK K;try go_frame
     refine⟨by kernel_rfl,?_⟩;simp only[qbh,qbH];go_wp2;go_end0;exact⟨rfl,rfl,rfl,rfl,rfl⟩
    exact qm.nil
   exact qm.nil
  refine cns 1 (λK hK=>?_) ?_
  ·skip
   go_simp;refine hK.out _ _ (by first | exact Z | exact HK.out _ _ Z) (λZ=>?_);clear hK K;try go_frame
   refine tk 2 ?_;try go_frame
   refine tk 3 ?_;try go_frame
   refine rdy [0] ?_;refine cns 0 (λK hK=>?_) ?_
   ·skip
    go_simp;refine hK.out _ _ (by first | exact Z | exact HK.out _ _ Z) (λZ=>?_);clear hK K;try go_frame
    refine tk 4 ?_;try go_frame
    refine rdy [9] ?_;refine cns 9 (λK hK=>?_) ?_
    ·skip
     go_simp;refine hK.out _ _ (by first | exact Z | exact HK.out _ _ Z) (λZ=>?_);clear hK K;try go_frame
     refine⟨by kernel_rfl,?_⟩;simp only[qbh,qbH];go_wp2;go_end0;exact⟨rfl,rfl,rfl,rfl,rfl⟩
    exact qm.nil
   exact qm.nil
  exact qm.nil
 exact qm.nil
def RowsIn(lo hi:Nat)(w:q3g)(v:q58)(L:List (List Int)):Prop :=
 ∃base cap,v=.slice base L.length cap/\(L.length:Int)<=1000000 /\
  (L≠[]->∃B o cs fr,base=some ⟨B,o,none⟩/\lo<=B/\B<hi/\w.heap[B]?=some (.cells cs 29 fr) /\
   ∀i,i<L.length->∃l x,L[i]?=some l/\cs[o+i]?=some x/\qe lo hi w x l)
theorem RowsIn.kept{lo hi:Nat}{w w':q3g}{v:q58}{L:List (List Int)}{row:Option Nat}(h:RowsIn lo hi w v L)(hg:w.grownBy w' row)(hr:∀R,row=some R->R<lo\/hi<=R):RowsIn lo hi w' v L:=by
 obtain⟨base,cap,rfl,hl,hr'⟩:=h;refine⟨base,cap,rfl,hl,λhne=>?_⟩;obtain⟨B,o,cs,fr,e1,e2,e3,e4,e5⟩:=hr' hne;refine⟨B,o,cs,fr,e1,e2,e3,blk hg (λe=>by have:=hr B e.symm;omega) e4,λi hi=>?_⟩;obtain⟨l,x,h1,h2,h3⟩:=e5 i hi;exact⟨l,x,h1,h2,h3.kept hg hr⟩
theorem RowsIn.mono{lo hi lo' Z:Nat}{w:q3g}{v:q58}{L:List (List Int)}(h:RowsIn lo hi w v L)(h1:lo'<=lo)(h2:hi<=Z):RowsIn lo' Z w v L:=by
 obtain⟨base,cap,rfl,hl,hr⟩:=h;refine⟨base,cap,rfl,hl,λhne=>?_⟩;obtain⟨B,o,cs,fr,e1,e2,e3,e4,e5⟩:=hr hne;refine⟨B,o,cs,fr,e1,by omega,by omega,e4,λi hi=>?_⟩;obtain⟨l,x,h3,h4,h5⟩:=e5 i hi;exact⟨l,x,h3,h4,h5.mono h1 h2⟩
theorem RowsIn.cell{lo hi:Nat}{w:q3g}{v:q58}{L:List (List Int)}(h:RowsIn lo hi w v L):∃base cap,v=.slice base L.length cap/\(L.length:Int)<=1000000 /\
  (L≠[]->∃B o,base=some ⟨B,o,none⟩/\lo<=B/\B<hi/\B<w.heap.size/\∀i,i<L.length->∃l x,L[i]?=some l/\w.cell? ⟨B,o+i,none⟩=some x/\qe lo hi w x l):=by
 obtain⟨base,cap,rfl,hl,hr'⟩:=h;refine⟨base,cap,rfl,hl,λhne=>?_⟩;obtain⟨B,o,cs,fr,e1,e2,e3,e4,e5⟩:=hr' hne;refine⟨B,o,e1,e2,e3,(q45.1 e4).1,λi hi=>?_⟩;obtain⟨l,x,h1,h2,h3⟩:=e5 i hi;exact⟨l,x,h1,by simp[qal,e4,h2],h3⟩
theorem q1b(la ha lb hb:Nat)(va vb:q58)(a b:List (List Int))(w:q3g)(hA:RowsIn la ha w va a)(hB:RowsIn lb hb w vb b) :
  qaD Tryp.prog 65 #[va,vb] w λe w'=>e=.returned (.bool (decide (a=b)))/\w.grownBy w' none:=by
 obtain⟨ba,ca,rfl,c8,h1⟩:=hA.cell;obtain⟨bb,cb,rfl,hl2,h2⟩:=hB.cell;have H1:=q1D h1;have H2:=q1D h2;clear h1 h2 hA hB;by_cases Z:a.length=b.length
 ·have HL:=q1D Z
  have a8:((a.length:Int) != (b.length:Int))=false:=by rw[Z];simp
  clear Z;go_enter Tryp.func65,Tryz.ntmps65;go_wp2;go_loopw [5] (λiv wr=>∃k:Nat,iv=.int .i64 k/\k<=a.length/\(∀i,i<k->a[i]?=b[i]?)/\w.grownBy wr none) (λiv _=>(a.length - qb2 iv).toNat)
  case atStart=>exact⟨0,rfl,by omega,λi hi=>absurd hi (by omega),q8j _ _⟩
  case round =>
   obtain⟨k,rfl,hk,hok,hG⟩:=hrel;have b9:=q1D hok;have HG:=q1D hG;clear hok;by_cases hlt:k<a.length
   ·have a7:k<b.length:=by have:=HL.out;omega
    obtain⟨A1,o1,rfl,e5,e4,d9,b8⟩:=H1.out (by intro e;rw[e] at hlt;simp at hlt);obtain⟨B1,o2,rfl,d8,d7,d6,b7⟩:=H2.out (by intro e;rw[e] at a7;simp at a7);obtain⟨p,x,e1,b6,hx⟩:=b8 k hlt;obtain⟨q,y,e2,b0,hy⟩:=b7 k a7;have x1:=hG.cell b6 (by simp);have y1:=hG.cell b0 (by simp);have c9:(k:Int)<(b.length:Int):=by omega
    have d5:(k:Int)<(a.length:Int):=by omega
    have E1:=q1D e1;have E2:=q1D e2;have HX:=q1D (hx.kept hG (by simp));have HY:=q1D (hy.kept hG (by simp));obtain⟨xb,xc,rfl,-,-⟩:=hx.cell;obtain⟨yb,yc,rfl,-,-⟩:=hy.cell;have SC:=q1D (q8D x1 y1);clear b8 b7 hG e1 e2 b6 b0 hx hy;go_upto_region 6 with(fail)
    go_region_held3 (λw'=>w'.cell? ⟨A1,o1+k,none⟩=some (.slice xb p.length xc)/\w'.cell? ⟨B1,o2+k,none⟩=some (.slice yb q.length yc))
     (first | exact SC.out)
     (first
      | (go_at_call 31;refine(jX _ _ _ _ _ _ p q _ (by first | exact HX.out | exact HX.out.kept (qc _ none) (by simp)) (by first | exact HY.out | exact HY.out.kept (qc _ none) (by simp))).mono ?_;rintro e w5 ⟨rfl,hg⟩;have HT:=q1D (show wr.grownBy w5 none by first | exact hg | exact(qc _ _).trans hg);replace SC:=q1D (q8D (HT.out.cell SC.out.1 (by simp)) (HT.out.cell SC.out.2 (by simp)));clear hg))
    all_goals
     rename_i a9
     clear a9
    all_goals
     by_cases a6:p=q
     ·have hd:decide (p=q)=true:=by simpa using a6
      have c3:=q1D a6;clear a6;rw[hd];clear hd;go_wp2;go_roundw
      case rel =>
       refine⟨k+1,by simp,by omega,λi hi=>?_,HG.out.trans HT.out⟩;by_cases e:i=k
       ·rw[e,E1.out,E2.out,c3.out]
       ·exact b9.out i (by omega)
      case measure=>simp[qb2];omega
     ·have hd:decide (p=q)=false:=by simpa using a6
      have HR:=q1D (show decide (a=b)=false by
       rw[decide_eq_false_iff_not];intro e;have h1:=E1.out;rw[e,E2.out] at h1;exact a6 (by cases h1;rfl))
      clear a6;rw[hd];clear hd;go_wp2;go_ret;exact⟨by rw[HR.out];rfl,HG.out.trans HT.out⟩
   ·obtain rfl:k=a.length:=by omega
    have HR:=q1D (show decide (a=b)=true by
     rw[decide_eq_true_eq];refine List.ext_getElem? λi=>?_;by_cases hi:i<a.length
     ·exact b9.out i hi
     ·rw[qd5 (by omega),qd5 (by have:=HL.out;omega)])
    clear hG;go_wp2;go_ret;exact⟨by rw[HR.out];rfl,HG.out⟩
 ·have HR:=q1D (show decide (a=b)=false by
   rw[decide_eq_false_iff_not];intro e;exact Z (by rw[e]))
  have a8:((a.length:Int) != (b.length:Int))=true:=by simp;omega
  clear Z;go_enter Tryp.func65,Tryz.ntmps65;go_wp2;go_ret;exact⟨by rw[HR.out];rfl,q8j _ _⟩
end Go.Proofs.YtidgnkmjgioapaaGreat
end
section
namespace Go
section
variable{l m:Nat}{P:q8b}{md:qdr}{ops:Array qbz}{Q:Exit->Act->q3g->Prop}
theorem Oper.wpIn_of_wp{o:qbz}{a:Act}{w:q3g}{K:Act->q3g->Prop}(hd:∀c,o.op≠.defer c)(h:o.wp P a w K Q):o.wpIn (Fence.wide.inRound l) m P a w K Q:=by
 refine⟨λf _=>trivial,?_⟩;rw[show o.semAt (Fence.wide.inRound l).round a.eval=execOp a.eval o from Oper.semAt_some l _ _ hd];unfold Oper.wp at h;generalize (execOp a.eval o).run P w=r at h ⊢;cases r with
 | ok x w' =>
  cases x with
  | enter f args=>exact⟨(λe=>(by cases e)),CallsIn.inRound l (qcx.2 h)⟩
  | row r args =>
   refine⟨(λe=>(by cases e)),λc cs _=>?_⟩;obtain⟨v,w2,h1,h2⟩:=h c cs;exact⟨v,w2,h1,stepsIn_wide.2 h2⟩
  | value v=>exact h
  | skip=>exact h
  | defer d=>exact h
  | _=>exact h.elim
 | halt x w'=>cases x<;>first | exact h | exact h.elim
theorem JJ(Z:¬ LetsOut Q)(hd:∀(i:Nat) (o:qbz),ops[i]?=some o->∀c,o.op≠.defer c){i:Nat}{K:Act->q3g->Prop}{a:Act}{w:q3g}(h:wpOp P ops Q i K a w):wpOpIn (Fence.wide.inRound l) m P ops Q i K a w:=by
 unfold wpOp at h;unfold wpOpIn;cases ho:ops[i]? with
 | none=>rw[ho] at h;exact h
 | some o =>
  rw[ho] at h;dsimp only at h ⊢;split
  ·rename_i hw
   rw[if_pos hw] at h;rcases h with h | h
   ·exact Oper.wpIn_of_wp (hd i o ho) h
   ·exact absurd h.2 Z
  ·rename_i hw
   rw[if_neg hw] at h;exact⟨λf _=>trivial,h⟩
theorem ve(Z:¬ LetsOut Q)(hd:∀(i:Nat) (o:qbz),ops[i]?=some o->∀c,o.op≠.defer c):∀(f:Nat) (listed:Array Bool) (a:Act) (w:q3g),wpAny P md ops Q f listed a w->wpAnyIn (Fence.wide.inRound l) m P md ops Q f listed a w
 | 0,listed,a,w,h=>h
 | f+1,listed,a,w,h=>⟨h.1,λi hi=>JJ Z hd (wpOp_mono (λa' w' h'=>ve Z hd f _ a' w' h') (h.2 i hi))⟩
def q64(ops:List qbz):Bool:=ops.all λo=>match o.op with | .defer _=>false | _=>true
theorem q19{ops:List qbz}(h:q64 ops=true)(i:Nat)(o:qbz)(ho:ops.toArray[i]?=some o):∀c,o.op≠.defer c:=by
 intro c;have:=qau.1 h o (by rw[List.getElem?_toArray] at ho;exact q8z ho);intro e;rw[e] at this;cases this
theorem K7{id:Nat}{a:Act}{w:q3g}{os:List qbz}(Z:¬ LetsOut Q)(hd:q64 os=true)(n:Nat)(S:q3g->Prop)(hm:P.follows .mixedOrders=true)(hn:decide (n<=os.length)=true)(hS:S w.drew)
  (h:S w.drew->j5 P .any os.toArray Q S n (λlisted a w=>qeo .any os.toArray (os.length - n) n listed=true/\wpList P os.toArray Q (os.drop n) a w) n (qb4 os.length false) a w.drew) :
  (Code.region id os.toArray true).wpIn (Fence.wide.inRound l) m P Q a w:=by
 have a6:n<=os.length:=by simpa using hn
 refine wpIn_region_any hm ?_;refine ve Z (q19 hd) _ _ _ _ ?_;have:=kc (g:=os.length - n) (λlisted a w hL=>by
  have:=wpAny_of_seq (md:=.any) (Q':=Q) (ops:=os.toArray) (os.drop n) n listed a w (λj=>by simp[List.getElem?_drop]) (by rw[qer];exact hL.1) hL.2
  rwa [qer] at this) _ _ _ _ (h hS)
 rw[show n+(os.length - n)=os.toArray.size by simp;omega] at this;simpa using this
end
end Go
end
section
namespace Go.Proofs.YtidgnkmjgioapaaGreat
open Go Go.Conc.Lib
abbrev link:Go.Conc.Lib.WgLink:={ add:=138,done:=140,wait:=144,relMerge:=166,disable:=167,enable:=168,inBubble:=169,associate:=170,fatal:=171,uOr:=172,uAdd:=173,raceRead:=174,uLoad:=175,uStore:=176,disassociate:=177,semrelease:=178,acquire:=183,isAssociated:=184,uCas:=185,raceWrite:=186,semacquire:=187,orU64:=201,addU64:=202,loadU64:=203,storeU64:=204,casU64:=205,tWgP:=184,tUP:=186,tAssoc:=187,tWg:=166,tAU:=164,tU64:=87,tUint:=177,tU32:=159,tPU32:=191,tPAU:=217,tPU64:=219,tNoCopy:=162,tANoCopy:=155,tAlign64:=156 }
theorem JL:Go.Conc.Lib.WgLib q8v link :=
 ⟨Tryz.func138,Tryz.func140,Tryz.func144,Tryz.func166,Tryz.func167,Tryz.func168,Tryz.func169,Tryz.func170,Tryz.func171,Tryz.func172,Tryz.func173,Tryz.func174,Tryz.func175,Tryz.func176,Tryz.func177,Tryz.func178,Tryz.func183,Tryz.func184,Tryz.func185,Tryz.func186,Tryz.func187,Tryz.func201,Tryz.func202,Tryz.func203,Tryz.func204,Tryz.func205,Tryz.underlying184,Tryz.runUnderlying184,Tryz.sizeOf184,Tryz.isAgg184,Tryz.zeroValue184,Tryz.underlying186,Tryz.runUnderlying186,Tryz.sizeOf186,Tryz.isAgg186,Tryz.zeroValue186,Tryz.underlying187,Tryz.runUnderlying187,Tryz.sizeOf187,Tryz.isAgg187,Tryz.zeroValue187,Tryz.underlying166,Tryz.runUnderlying166,Tryz.sizeOf166,Tryz.isAgg166,Tryz.zeroValue166,Tryz.underlying164,Tryz.runUnderlying164,Tryz.sizeOf164,Tryz.isAgg164,Tryz.zeroValue164,Tryz.underlying87,Tryz.runUnderlying87,Tryz.sizeOf87,Tryz.isAgg87,Tryz.zeroValue87,Tryz.underlying177,Tryz.runUnderlying177,Tryz.sizeOf177,Tryz.isAgg177,Tryz.zeroValue177,Tryz.underlying159,Tryz.runUnderlying159,Tryz.sizeOf159,Tryz.isAgg159,Tryz.zeroValue159,Tryz.underlying191,Tryz.runUnderlying191,Tryz.sizeOf191,Tryz.isAgg191,Tryz.zeroValue191,Tryz.underlying217,Tryz.runUnderlying217,Tryz.sizeOf217,Tryz.isAgg217,Tryz.zeroValue217,Tryz.underlying219,Tryz.runUnderlying219,Tryz.sizeOf219,Tryz.isAgg219,Tryz.zeroValue219,Tryz.underlying0,Tryz.runUnderlying0,Tryz.sizeOf0,Tryz.isAgg0,Tryz.zeroValue0,Tryz.underlying3,Tryz.runUnderlying3,Tryz.sizeOf3,Tryz.isAgg3,Tryz.zeroValue3,Tryz.underlying4,Tryz.runUnderlying4,Tryz.sizeOf4,Tryz.isAgg4,Tryz.zeroValue4,Tryz.underlying9,Tryz.runUnderlying9,Tryz.sizeOf9,Tryz.isAgg9,Tryz.zeroValue9,Tryz.underlying20,Tryz.runUnderlying20,Tryz.sizeOf20,Tryz.isAgg20,Tryz.zeroValue20,Tryz.underlying21,Tryz.runUnderlying21,Tryz.sizeOf21,Tryz.isAgg21,Tryz.zeroValue21,(by kernel_rfl),(by kernel_rfl)⟩
end Go.Proofs.YtidgnkmjgioapaaGreat
end
section
namespace Go.Proofs.YtidgnkmjgioapaaGreat
open Go.RowKit
theorem YOk.be{ps:List Par}{lim:Int}(h:YOk ps lim):∀p∈ps,0<=p.bears/\p.bears<=1000:=λp hp=>by
 have:=h.each p hp;omega
theorem q0b{w:q3g}{R Y o:Nat}{u v x:q58}(hne:Y≠R)(h:w.cell? ⟨Y,o,none⟩=some x):((w.setCell ⟨R,0,none⟩ u).setCell ⟨R,1,none⟩ v).cell? ⟨Y,o,none⟩=some x:=by
 rw[qbG _ _ _ _ (λe=>hne (congrArg Addr.block e).symm),qbG _ _ _ _ (λe=>hne (congrArg Addr.block e).symm)];exact h
def QN(ps:List Par)(l:List Int):q58 :=
 if zP ps (pre Par.mn ps ps.length) l l.length<0\/l.length=0 then .tuple #[.agg #[.int .i64 0,.int .i64 0],.int .i64 11]
 else .tuple #[.agg #[.int .i64 (max (-1) (zP ps (pre Par.mx ps ps.length) l l.length)),.int .i64 (zP ps (pre Par.mn ps ps.length) l l.length)],.int .i64 0]
theorem q70(lo hi:Nat)(pv qv:q58)(ps:List Par)(lim:Int)(l:List Int)(w:q3g)(hP:qr lo hi w pv ps)(hI:qe lo hi w qv l)(hhi:hi<=w.heap.size)(hok:YOk ps lim)(hp:POk ps lim l) :
  qaD Tryp.prog 36 #[.agg #[pv,.int .i64 lim],qv] w λe w'=>e=.returned (QN ps l)/\w.grownBy w' none:=by
 obtain⟨yb,yc,rfl,m7,-⟩:=hP.cell;obtain⟨base,cap,rfl,m8,-⟩:=hI.cell;obtain⟨A,hA⟩:∃A,A=w.heap.size:=⟨_,rfl⟩
 obtain⟨w1,a7⟩:∃w1,w1=(w.alloc (.cells #[.slice yb ps.length yc,.int .i64 lim] 24)).alloc (.cells #[.int .i64 0,.int .i64 0] 26):=⟨_,rfl⟩
 have c3:w.grownBy w1 none:=by rw[a7];exact(q34 _ _ none).trans (q34 _ _ none)
 have e4:w1.heap[A]?=some (.cells #[.slice yb ps.length yc,.int .i64 lim] 24 (0,0)):=by rw[a7,hA];exact qp (q7j w _)
 have g6:w1.heap[A+1]?=some (.cells #[.int .i64 0,.int .i64 0] 26 (0,0)):=by
  rw[a7];have:=q7j (w.alloc (.cells #[.slice yb ps.length yc,.int .i64 lim] 24)) (.cells #[.int .i64 0,.int .i64 0] 26);rw[q8f,<- hA] at this;exact this
 have l5:w1.heap.size=A+2:=by rw[a7,q8f,q8f,hA]
 have h9:=q1D (hI.kept c3 (by simp));have g9:=q1D (hP.kept c3 (by simp));have l7:=q1D a7;have HA:=q1D hA;have m6:=q1D c3;have m3:=q1D g6;have q0:=qa e4 (o:=0) rfl;have q1:=qa e4 (o:=1) rfl;have m9:hi<=A:=by omega
 have HY:=q1D hok;have b7:=q1D hp;clear hP hI hok hp a7 hA c3 e4 g6;go_enter Tryp.func36,Tryz.ntmps36;go_upto_region 1 with(fail)
 rw[<- HA.out,show(w.alloc (.cells #[.slice yb ps.length yc,.int .i64 lim] 24)).alloc (.cells #[.int .i64 0,.int .i64 0] 26)=w1 from l7.out.symm];go_upto_region 2 with(first
  | (go_at_call 81;go_must (refine(vT lo hi _ _ ps lim l _ g9.out h9.out (by omega) HY.out b7.out).mono ?_);rintro e w2 ⟨rfl,g7⟩;have b8:=q1D g7;clear g7))
 have l4:=b8.out.size;obtain⟨Y,b9⟩:∃Y,Y=w2.heap.size:=⟨_,rfl⟩
 obtain⟨w3,b0⟩:∃w3,w3=w2.alloc (.cells #[.slice yb ps.length yc,.int .i64 lim] 91):=⟨_,rfl⟩
 have b6:w2.grownBy w3 none:=by rw[b0];exact q34 _ _ none
 have g8:w3.heap[Y]?=some (.cells #[.slice yb ps.length yc,.int .i64 lim] 91 (0,0)):=by rw[b0,b9];exact q7j _ _
 have k9:w3.heap.size=Y+1:=by rw[b0,q8f,b9]
 rw[<- b9,<- b0];clear q0 q1;have c9:=q1D g8;have k6:=q1D ((m6.out.trans b8.out).trans b6);have Z:=q1D (blk b6 (by simp) (blk b8.out (by simp) m3.out));have m5:=q1D ((h9.out.kept b8.out (by simp)).kept b6 (by simp));have m4:=q1D ((g9.out.kept b8.out (by simp)).kept b6 (by simp));have n2:A+1<Y:=by omega
 have a6:hi<=w3.heap.size:=by omega
 clear b6 g8 b0 b9 l5 l4 k9;have s0:=qa c9.out (o:=0) rfl;have s1:=qa c9.out (o:=1) rfl;have s2:=qa Z.out (o:=0) rfl;have s3:=qa Z.out (o:=1) rfl;have z0:=qn (o:=0) Z.out;have z1:=qn (o:=1) Z.out;go_upto_region 4 with(fail)
 have HT:=q1D (q8j w3 none);have e5:∀W,w3.grownBy W none->jg lo hi W (.agg #[.slice yb ps.length yc,.int .i64 lim]) ps lim:=λW h=>⟨_,rfl,m4.out.kept h (by simp)⟩
 have e7:∀W,w3.grownBy W none->qe lo hi W (.slice base l.length cap) l:=λW h=>m5.out.kept h (by simp);have e6:∀W,w3.grownBy W none->W.cell? ⟨Y,0,none⟩=some (.slice yb ps.length yc)/\W.cell? ⟨Y,1,none⟩=some (.int .i64 lim)/\W.cell? ⟨A+1,0,none⟩=some (.int .i64 0)/\W.cell? ⟨A+1,1,none⟩=some (.int .i64 0)/\W.frozen? ⟨A+1,0,none⟩=false/\W.frozen? ⟨A+1,1,none⟩=false:=λW h =>
  ⟨qa (blk h (by simp) c9.out) rfl,qa (blk h (by simp) c9.out) rfl,qa (blk h (by simp) Z.out) rfl,qa (blk h (by simp) Z.out) rfl,qn (blk h (by simp) Z.out),qn (blk h (by simp) Z.out)⟩
 have c8:=q1D e5;have h8:=q1D e7;have a9:=q1D e6;clear e5 e7 e6;have SC:=q1D (a9.out w3 (q8j w3 none));obtain⟨gm,d8⟩:∃gm,gm=pre Par.mn ps ps.length:=⟨_,rfl⟩
 obtain⟨gx,d7⟩:∃gx,gx=pre Par.mx ps ps.length:=⟨_,rfl⟩
 have e9:∀i,0<=gm i/\gm i<=1000:=by rw[d8];exact HY.out.mn
 have e8:∀i,0<=gx i/\gx i<=1000:=by rw[d7];exact HY.out.mx
 have k5:=q1D d8;have k0:=q1D d7;have k8:=q1D e9;have k7:=q1D e8;clear d8 d7 e9 e8;go_region_held3 (λw'=>w'.cell? ⟨Y,0,none⟩=some (.slice yb ps.length yc)/\w'.cell? ⟨Y,1,none⟩=some (.int .i64 lim)/\w'.cell? ⟨A+1,0,none⟩=some (.int .i64 0)/\w'.cell? ⟨A+1,1,none⟩=some (.int .i64 0)/\w'.frozen? ⟨A+1,0,none⟩=false/\w'.frozen? ⟨A+1,1,none⟩=false)
  (first | exact SC.out)
  (first
   | (go_at_call 93;refine(Qj lo hi _ ps lim _ (c8.out _ (by first | exact HT.out | exact HT.out.trans (qc _ _))) (q87 a6 (by first | exact HT.out.size | exact(HT.out.trans (qc _ none)).size)) HY.out.len).mono ?_;rintro e w5 ⟨rfl,hg⟩;rw[<- k5.out];replace HT:=q1D (show w3.grownBy w5 none by first | exact HT.out.trans hg | exact(HT.out.trans (qc _ _)).trans hg);replace SC:=q1D (a9.out w5 HT.out);clear hg)
   | (go_at_call 94;refine(KN lo hi _ _ ps lim l _ _ (c8.out _ (by first | exact HT.out | exact HT.out.trans (qc _ _))) (h8.out _ (by first | exact HT.out | exact HT.out.trans (qc _ _))) (q87 a6 (by first | exact HT.out.size | exact(HT.out.trans (qc _ none)).size)) HY.out.len b7.out.ok (by have:=b7.out.len;omega) (by first | exact k8.out | exact k7.out) HY.out.be).mono ?_;rintro e w5 ⟨rfl,hg⟩;replace HT:=q1D (show w3.grownBy w5 none by first | exact HT.out.trans hg | exact(HT.out.trans (qc _ _)).trans hg);replace SC:=q1D (a9.out w5 HT.out);clear hg))
 have l9:=q1D (show w5.cell? ⟨Y,0,none⟩=some (.slice yb ps.length yc)/\w5.cell? ⟨Y,1,none⟩=some (.int .i64 lim)/\w5.cell? ⟨A+1,0,none⟩=some (.int .i64 0)/\w5.cell? ⟨A+1,1,none⟩=some (.int .i64 0)/\w5.frozen? ⟨A+1,0,none⟩=false/\w5.frozen? ⟨A+1,1,none⟩=false from SC.out);have HV:=q1D (show QN ps l=if zP ps gm l l.length<0\/l.length=0 then .tuple #[.agg #[.int .i64 0,.int .i64 0],.int .i64 11] else .tuple #[.agg #[.int .i64 (max (-1) (zP ps gx l l.length)),.int .i64 (zP ps gm l l.length)],.int .i64 0] by rw[k5.out,k0.out];rfl);obtain⟨a,ha⟩:∃a,a=zP ps gm l l.length:=⟨_,rfl⟩
 rw[<- ha] at HV ⊢;have n3:=q1D ha;clear ha
 rename_i d9
 clear d9;clear s0 s1 s2 s3 z0 z1;obtain⟨s0,s1,s2,s3,z0,z1⟩:=l9.out;have d5:∀(w':q3g),w5.grownBy w' (some (A+1))->w.grownBy w' none:=λw' h=>(k6.out.trans HT.out).andThen h (λj e=>by cases e;left;rw[<- HA.out];omega);have d6:=q1D d5;clear d5;by_cases h1:a<0
 ·have hv:QN ps l=.tuple #[.agg #[.int .i64 0,.int .i64 0],.int .i64 11]:=by rw[HV.out,if_pos (.inl h1)]
  have a8:=q1D hv;clear hv HV;go_wp2;refine qcG (v:=.tuple #[.agg #[.int .i64 0,.int .i64 0],.int .i64 11]) ?_ rfl ⟨by rw[a8.out],d6.out _ ((qg _ _ _ _).trans (qg _ _ _ _))⟩;rw[results_cell_tmp rfl];go_simp
 ·by_cases h2:l.length=0
  ·have hv:QN ps l=.tuple #[.agg #[.int .i64 0,.int .i64 0],.int .i64 11]:=by rw[HV.out,if_pos (.inr h2)]
   have a8:=q1D hv;have l6:((l.length:Int) == 0)=true:=by simp[h2]
   clear hv HV h2;go_wp2;refine qcG (v:=.tuple #[.agg #[.int .i64 0,.int .i64 0],.int .i64 11]) ?_ rfl ⟨by rw[a8.out],d6.out _ ((qg _ _ _ _).trans (qg _ _ _ _))⟩;rw[results_cell_tmp rfl];go_simp
  ·have hv:QN ps l=.tuple #[.agg #[.int .i64 (max (-1) (zP ps gx l l.length)),.int .i64 a],.int .i64 0]:=by rw[HV.out,if_neg (by rintro(h | h);exact h1 h;exact h2 h)]
   have a8:=q1D hv;have l6:((l.length:Int) == 0)=false:=by rw[beq_eq_false_iff_ne];omega
   have g5:Y≠A+1:=by omega
   clear hv HV h2;go_upto_region 7 with(fail)
   have SC:=q1D (a9.out w5 HT.out);clear s2 s3 z0 z1;go_region_held3 (λw'=>w'.cell? ⟨Y,0,none⟩=some (.slice yb ps.length yc)/\w'.cell? ⟨Y,1,none⟩=some (.int .i64 lim))
    (first | exact⟨SC.out.1,SC.out.2.1⟩ | exact⟨q0b g5 SC.out.1,q0b g5 SC.out.2.1⟩)
    (first
     | (go_at_call 92;refine(xT lo hi _ ps lim _ (c8.out _ (by first | exact HT.out | exact HT.out.trans (qc _ _))) (q87 a6 (by first | exact HT.out.size | exact(HT.out.trans (qc _ none)).size)) HY.out.len).mono ?_;rintro e w6 ⟨rfl,hg⟩;rw[<- k0.out];replace HT:=q1D (show w3.grownBy w6 none by first | exact HT.out.trans hg | exact(HT.out.trans (qc _ _)).trans hg);replace SC:=q1D (a9.out w6 HT.out);clear hg)
     | (go_at_call 94;refine(KN lo hi _ _ ps lim l _ _ (c8.out _ (by first | exact HT.out | exact HT.out.trans (qc _ _))) (h8.out _ (by first | exact HT.out | exact HT.out.trans (qc _ _))) (q87 a6 (by first | exact HT.out.size | exact(HT.out.trans (qc _ none)).size)) HY.out.len b7.out.ok (by have:=b7.out.len;omega) (by first | exact k8.out | exact k7.out) HY.out.be).mono ?_;rintro e w6 ⟨rfl,hg⟩;replace HT:=q1D (show w3.grownBy w6 none by first | exact HT.out.trans hg | exact(HT.out.trans (qc _ _)).trans hg);replace SC:=q1D (a9.out w6 HT.out);clear hg;have r0:=SC.out.2.2.1;have r1:=SC.out.2.2.2.1;have r2:=SC.out.2.2.2.2.1;have r3:=SC.out.2.2.2.2.2))
   generalize hm:(if -1<zP ps gx l l.length then zP ps gx l l.length else -1)=m;have hv:QN ps l=.tuple #[.agg #[.int .i64 m,.int .i64 a],.int .i64 0]:=by
    rw[a8.out,show max (-1) (zP ps gx l l.length)=m by rw[<- hm];omega]
   have l8:=q1D hv;clear hv hm a8;go_wp2;refine qcG (v:=.tuple #[.agg #[.int .i64 m,.int .i64 a],.int .i64 0]) ?_ rfl ⟨by rw[l8.out],(k6.out.trans HT.out).andThen ((qg _ _ _ _).trans (qg _ _ _ _)) (λj e=>by cases e;left;rw[<- HA.out];omega)⟩;rw[results_cell_tmp rfl];go_simp
theorem Tryp.info26p:(Tryp.prog.info? 26).map (λi=>(i.zero,i.size,i.bytes))=some (some (.agg #[.int .i64 0,.int .i64 0]),2,16):=by kernel_rfl
theorem Tryp.und48:Tryp.prog.underlying 48=some (.slice 26):=by rw[Tryp.und];exact Tryz.underlying48
def qM(lo hi:Nat)(w:q3g)(v:q58)(l:List (Int × Int)):Prop :=
 ∃base cap,v=.slice base l.length cap/\(l.length:Int)<=1000000 /\
  (l≠[]->∃B o cs fr,base=some ⟨B,o,none⟩/\lo<=B/\B<hi/\w.heap[B]?=some (.cells cs 26 fr) /\
   ∀i,i<l.length->∃p,l[i]?=some p/\cs[o+i*2]?=some (.int .i64 p.1)/\cs[o+(i*2+1)]?=some (.int .i64 p.2))
theorem qM.kept{lo hi:Nat}{w w':q3g}{v:q58}{ps:List (Int × Int)}{row:Option Nat}(h:qM lo hi w v ps)(hg:w.grownBy w' row)(hr:∀R,row=some R->R<lo\/hi<=R):qM lo hi w' v ps:=by
 obtain⟨base,cap,rfl,hl,hr'⟩:=h;refine⟨base,cap,rfl,hl,λhne=>?_⟩;obtain⟨B,o,cs,fr,e1,e2,e3,e4,e5⟩:=hr' hne;exact⟨B,o,cs,fr,e1,e2,e3,blk hg (λe=>by have:=hr B e.symm;omega) e4,e5⟩
theorem qM.mono{lo hi lo' Z:Nat}{w:q3g}{v:q58}{ps:List (Int × Int)}(h:qM lo hi w v ps)(h1:lo'<=lo)(h2:hi<=Z):qM lo' Z w v ps:=by
 obtain⟨base,cap,rfl,hl,hr⟩:=h;refine⟨base,cap,rfl,hl,λhne=>?_⟩;obtain⟨B,o,cs,fr,e1,e2,e3,e4,e5⟩:=hr hne;exact⟨B,o,cs,fr,e1,by omega,by omega,e4,e5⟩
theorem qM.cell{lo hi:Nat}{w:q3g}{v:q58}{ps:List (Int × Int)}(h:qM lo hi w v ps):∃base cap,v=.slice base ps.length cap/\(ps.length:Int)<=1000000 /\
  (ps≠[]->∃B o,base=some ⟨B,o,none⟩/\lo<=B/\B<hi/\B<w.heap.size/\∀i,i<ps.length->∃p,ps[i]?=some p/\w.cell? ⟨B,o+i*2,none⟩=some (.int .i64 p.1)/\w.cell? ⟨B,o+i*2+1,none⟩=some (.int .i64 p.2)):=by
 obtain⟨base,cap,rfl,hl,hr'⟩:=h;refine⟨base,cap,rfl,hl,λhne=>?_⟩;obtain⟨B,o,cs,fr,e1,e2,e3,e4,e5⟩:=hr' hne;refine⟨B,o,e1,e2,e3,(q45.1 e4).1,λi hi=>?_⟩;obtain⟨p,h0,h1,h2⟩:=e5 i hi;exact⟨p,h0,by simp[qal,e4,h1],by simp[qal,e4,Nat.add_assoc,h2]⟩
def kE(l:List (Int × Int)):List q58:=l.flatMap λp=>[.int .i64 p.1,.int .i64 p.2]
theorem q84(l:List (Int × Int)):(kE l).length=l.length*2:=by
 unfold kE;induction l with
 | nil=>rfl
 | cons p l ih=>simp only[qcv,qb3,ih,q8l,q9k];omega
theorem q5o(l:List (Int × Int))(p:Int × Int):kE (l++[p])=kE l++[.int .i64 p.1,.int .i64 p.2]:=by simp[kE]
theorem q0q:∀(l:List (Int × Int)) (i:Nat),i<l.length->∃p,l[i]?=some p/\(kE l)[i*2]?=some (.int .i64 p.1)/\(kE l)[i*2+1]?=some (.int .i64 p.2)
 | p::l,0,_=>⟨p,rfl,rfl,rfl⟩
 | p::l,i+1,h=>by
  obtain⟨q,h1,h2,h3⟩:=q0q l i (by simpa using h);refine⟨q,by simpa using h1,?_,?_⟩
  ·show([q9q .i64 p.1,.int .i64 p.2]++kE l)[(i+1)*2]?=_
   rw[qco (by simp;omega)];rw[<- h2];congr 1;simp;omega
  ·show([q9q .i64 p.1,.int .i64 p.2]++kE l)[(i+1)*2+1]?=_
   rw[qco (by simp;omega)];rw[<- h3];congr 1;simp;omega
theorem qM.own{lo n:Nat}{w:q3g}{v:q58}{l:List (Int × Int)}(h:w.ownsRow lo 26 2 v n (kE l))(hl:(l.length:Int)<=1000000):qM lo w.heap.size w v l:=by
 obtain⟨h1,h2⟩:=h;have hn:l.length=n:=by rw[q84] at h1;omega
 subst hn;rcases h2 with⟨rfl,h0⟩ | ⟨g,cap,cur,rfl,hb,hg,hc,hm,hs,ht⟩
 ·exact⟨none,0,by rw[h0],hl,λhne=>absurd (qbo h0) hne⟩
 ·refine⟨_,cap,rfl,hl,λ_=>⟨g,0,cur,(0,0),rfl,hb,(q45.1 hg).1,hg,λi hi=>?_⟩⟩
  obtain⟨p,h1,h2,h3⟩:=q0q l i hi;have key:∀j,j<l.length*2->cur[j]?=(kE l)[j]?:=λj hj=>by
   rw[<- ht,List.getElem?_take,if_pos hj];simp
  exact⟨p,h1,by rw[q9m,key _ (by omega),h2],by rw[q9m,key _ (by omega),h3]⟩
theorem q6r(a b c d:Int)(w:q3g):(Op.equalIn 10000 26 (.agg #[.int .i64 a,.int .i64 b]) (.agg #[.int .i64 c,.int .i64 d])).run Tryp.prog w=.ok (decide ((a,b)=(c,d))) w:=by
 have Z:Tryp.prog.underlying 26=Tryz.prog.underlying 26:=Tryp.und 26;have u3:Tryp.prog.underlying 3=some (.int .i64):=by rw[Tryp.und];exact Tryz.underlying3
 have hS:Tryp.prog.underlying 26=some (.struct (Tryp.prog.fieldsOf 26)):=by kernel_rfl
 have hp:Tryp.prog.stoodInHeld 26=false:=by kernel_rfl
 rw[show(10000:Nat)=9999+1 from rfl,run_equalIn_agg w 9999 26 _ _ hS hp];simp only[Program.fieldsOf,Z,Tryz.underlying26];go_simp;by_cases h1:a=c<;>by_cases h2:b=d<;>simp[h1,h2]
theorem qaA(a b c d:Int)(w:q3g):(binOp .neq 26 (.agg #[.int .i64 a,.int .i64 b]) (.agg #[.int .i64 c,.int .i64 d])).run Tryp.prog w=.ok (.bool (!decide ((a,b)=(c,d)))) w:=by
 rw[run_neq_struct,q6r];rfl
theorem qaB(a b c d:Int)(w:q3g):(binOp .eql 26 (.agg #[.int .i64 a,.int .i64 b]) (.agg #[.int .i64 c,.int .i64 d])).run Tryp.prog w=.ok (.bool (decide ((a,b)=(c,d)))) w:=by
 rw[run_eql_struct,q6r];rfl
theorem YZ(op:BinOp)(x y:qaH)(a b:Array q58)(w:q3g):(eqGuard op 26 x y (.agg a) (.agg b)).run Tryp.prog w=.ok () w:=run_eqGuard_agg w op 26 x y a b (by kernel_rfl)
def yy(ps:List Par)(l:List Int):List (Int × Int):=(qa4 l.length).map λi=>(loadAt (pre Par.mn ps ps.length) l i,loadAt (pre Par.mx ps ps.length) l i)
theorem Ki(la ha lb hb:Nat)(va vb:q58)(a b:List (Int × Int))(w:q3g)(hA:qM la ha w va a)(hB:qM lb hb w vb b) :
  qaD Tryp.prog 51 #[va,vb] w λe w'=>e=.returned (.bool (decide (a=b)))/\w.grownBy w' none:=by
 obtain⟨ba,ca,rfl,d5,h1⟩:=hA.cell;obtain⟨bb,cb,rfl,hl2,h2⟩:=hB.cell;have H1:=q1D h1;have H2:=q1D h2;clear h1 h2 hA hB;by_cases Z:a.length=b.length
 ·have HL:=q1D Z
  have a8:((a.length:Int) != (b.length:Int))=false:=by rw[Z];simp
  clear Z;go_enter Tryp.func51,Tryz.ntmps51;go_wp2;go_loopw [5] (λiv wr=>∃k:Nat,iv=.int .i64 k/\k<=a.length/\(∀i,i<k->a[i]?=b[i]?)/\w.grownBy wr none) (λiv _=>(a.length - qb2 iv).toNat)
  case atStart=>exact⟨0,rfl,by omega,λi hi=>absurd hi (by omega),q8j _ _⟩
  case round =>
   obtain⟨k,rfl,hk,hok,hG⟩:=hrel;have c8:=q1D hok;have HG:=q1D hG;clear hok;by_cases hlt:k<a.length
   ·have a7:k<b.length:=by have:=HL.out;omega
    obtain⟨A1,o1,rfl,e7,e6,e5,c3⟩:=H1.out (by intro e;rw[e] at hlt;simp at hlt);obtain⟨B1,o2,rfl,e4,d9,d8,b9⟩:=H2.out (by intro e;rw[e] at a7;simp at a7);obtain⟨p,e1,b7,b6⟩:=c3 k hlt;obtain⟨q,e2,b0,a9⟩:=b9 k a7;have x1:=hG.cell b7 (by simp);have x2:=hG.cell b6 (by simp);have y1:=hG.cell b0 (by simp);have y2:=hG.cell a9 (by simp);obtain⟨p1,p2⟩:=p;obtain⟨q1,q2⟩:=q;have d6:(k:Int)<(b.length:Int):=by omega
    have d7:(k:Int)<(a.length:Int):=by omega
    have E1:=q1D e1;have E2:=q1D e2;clear c3 b9 hG e1 e2 b7 b6 b0 a9;have b8:=qaA p1 p2 q1 q2;have hbg:=YZ .neq (.tmp 20) (.tmp 24) #[.int .i64 p1,.int .i64 p2] #[.int .i64 q1,.int .i64 q2];by_cases a6:(p1,p2)=(q1,q2)
    ·have hd:decide ((p1,p2)=(q1,q2))=true:=by simpa using a6
     rw[hd] at b8;have c9:=q1D a6;clear hd a6;go_upto_region 6 with(fail)
     go_quiet (fail);go_wp2;go_roundw
     case rel =>
      refine⟨k+1,by simp,by omega,λi hi=>?_,HG.out.trans (qi _ _ _)⟩;by_cases e:i=k
      ·rw[e,E1.out,E2.out,c9.out]
      ·exact c8.out i (by omega)
     case measure=>simp[qb2];omega
    ·have hd:decide ((p1,p2)=(q1,q2))=false:=by simpa using a6
     rw[hd] at b8;have HR:=q1D (show decide (a=b)=false by
      rw[decide_eq_false_iff_not];intro e;have h1:=E1.out;rw[e,E2.out] at h1;exact a6 (by cases h1;rfl))
     clear hd a6;go_upto_region 6 with(fail)
     go_quiet (fail);go_wp2;go_ret;exact⟨by rw[HR.out];rfl,HG.out.trans (qi _ _ _)⟩
   ·obtain rfl:k=a.length:=by omega
    have HR:=q1D (show decide (a=b)=true by
     rw[decide_eq_true_eq];refine List.ext_getElem? λi=>?_;by_cases hi:i<a.length
     ·exact c8.out i hi
     ·rw[qd5 (by omega),qd5 (by have:=HL.out;omega)])
    clear hG;go_wp2;go_ret;exact⟨by rw[HR.out];rfl,HG.out⟩
 ·have HR:=q1D (show decide (a=b)=false by
   rw[decide_eq_false_iff_not];intro e;exact Z (by rw[e]))
  have a8:((a.length:Int) != (b.length:Int))=true:=by simp;omega
  clear Z;go_enter Tryp.func51,Tryz.ntmps51;go_wp2;go_ret;exact⟨by rw[HR.out];rfl,q8j _ _⟩
theorem q53(ps:List Par)(l:List Int):(yy ps l).length=l.length:=by simp[yy]
theorem q35(ps:List Par)(l:List Int)(k:Nat)(h:k<l.length):(yy ps l).take (k+1)=(yy ps l).take k++[(loadAt (pre Par.mn ps ps.length) l k,loadAt (pre Par.mx ps ps.length) l k)]:=by
 rw[qbc];simp[yy,h]
theorem q7g(lo hi:Nat)(pv qv:q58)(ps:List Par)(lim:Int)(l:List Int)(w:q3g)(hP:qr lo hi w pv ps)(hI:qe lo hi w qv l)(hhi:hi<=w.heap.size)(hok:YOk ps lim)(hp:POk ps lim l) :
  qaD Tryp.prog 35 #[.agg #[pv,.int .i64 lim],qv] w λe w'=>∃v,e=.returned (.tuple #[v,.int .i64 0])/\w.grownBy w' none/\qM w.heap.size w'.heap.size w' v (yy ps l):=by
 obtain⟨i0,m4,l6,l5,l4⟩:=qch Tryp.info26p;obtain⟨yb,yc,rfl,p3,-⟩:=hP.cell;obtain⟨base,cap,rfl,p6,-⟩:=hI.cell;obtain⟨A,hA⟩:∃A,A=w.heap.size:=⟨_,rfl⟩
 obtain⟨w1,a9⟩:∃w1,w1=w.alloc (.cells #[.slice yb ps.length yc,.int .i64 lim] 24):=⟨_,rfl⟩
 have b9:w.grownBy w1 none:=by rw[a9];exact q34 _ _ none
 have d8:w1.heap[A]?=some (.cells #[.slice yb ps.length yc,.int .i64 lim] 24 (0,0)):=by rw[a9,hA];exact q7j w _
 have l9:w1.heap.size=A+1:=by rw[a9,q8f,hA]
 have h9:=q1D (hI.kept b9 (by simp));have g9:=q1D (hP.kept b9 (by simp));have m6:=q1D a9;have HA:=q1D hA;have n4:=q1D b9;have q0:=qa d8 (o:=0) rfl;have q1:=qa d8 (o:=1) rfl;have p7:hi<=A:=by omega
 have HY:=q1D hok;have m7:=q1D hp;have m3:l.length<=100:=hp.len;have e4:∀x∈l,0<=x/\x<5:=λx hx=>by have h1:=hp.ok x hx;have h2:=hok.len;omega
 have g8:=q1D e4;clear hP hI hok hp a9 hA b9 d8 e4;go_enter Tryp.func35,Tryz.ntmps35;go_upto_region 1 with(fail)
 rw[<- HA.out,show w.alloc (.cells #[.slice yb ps.length yc,.int .i64 lim] 24)=w1 from m6.out.symm];go_upto_region 2 with(first
  | (go_at_call 81;go_must (refine(vT lo hi _ _ ps lim l _ g9.out h9.out (by omega) HY.out m7.out).mono ?_);rintro e w2 ⟨rfl,g5⟩;have c3:=q1D g5;clear g5))
 have l8:=c3.out.size;obtain⟨Y,b7⟩:∃Y,Y=w2.heap.size:=⟨_,rfl⟩
 obtain⟨w3,a8⟩:∃w3,w3=w2.alloc (.cells #[.slice yb ps.length yc,.int .i64 lim] 91):=⟨_,rfl⟩
 have b8:w2.grownBy w3 none:=by rw[a8];exact q34 _ _ none
 have g6:w3.heap[Y]?=some (.cells #[.slice yb ps.length yc,.int .i64 lim] 91 (0,0)):=by rw[a8,b7];exact q7j _ _
 have l7:w3.heap.size=Y+1:=by rw[a8,q8f,b7]
 rw[<- b7,<- a8];clear q0 q1;have c8:=q1D g6;have k7:=q1D ((n4.out.trans c3.out).trans b8);have n2:=q1D ((h9.out.kept c3.out (by simp)).kept b8 (by simp));have m8:=q1D ((g9.out.kept c3.out (by simp)).kept b8 (by simp));have p8:A<Y:=by omega
 have a7:hi<=w3.heap.size:=by omega
 have p4:w.heap.size<=w3.heap.size:=k7.out.size;clear b8 g6 a8 b7 l9 l8 l7;have s0:=qa c8.out (o:=0) rfl;have s1:=qa c8.out (o:=1) rfl;go_upto_region 5 with(fail)
 have HT:=q1D (q8j w3 none);have d9:∀W,w3.grownBy W none->jg lo hi W (.agg #[.slice yb ps.length yc,.int .i64 lim]) ps lim:=λW h=>⟨_,rfl,m8.out.kept h (by simp)⟩
 have e6:∀W,w3.grownBy W none->qe lo hi W (.slice base l.length cap) l:=λW h=>n2.out.kept h (by simp);have e5:∀W,w3.grownBy W none->W.cell? ⟨Y,0,none⟩=some (.slice yb ps.length yc)/\W.cell? ⟨Y,1,none⟩=some (.int .i64 lim):=λW h =>
  ⟨qa (blk h (by simp) c8.out) rfl,qa (blk h (by simp) c8.out) rfl⟩
 have g7:=q1D d9;have h8:=q1D e6;have b6:=q1D e5;clear d9 e6 e5;have SC:=q1D (b6.out w3 (q8j w3 none));obtain⟨gm,d7⟩:∃gm,gm=pre Par.mn ps ps.length:=⟨_,rfl⟩
 obtain⟨gx,d6⟩:∃gx,gx=pre Par.mx ps ps.length:=⟨_,rfl⟩
 have e8:∀i,0<=gm i/\gm i<=1000:=by rw[d7];exact HY.out.mn
 have e7:∀i,0<=gx i/\gx i<=1000:=by rw[d6];exact HY.out.mx
 have k5:=q1D d7;have k0:=q1D d6;have k9:=q1D e8;have k8:=q1D e7;clear d7 d6 e8 e7;go_region_held3 (λw'=>w'.cell? ⟨Y,0,none⟩=some (.slice yb ps.length yc)/\w'.cell? ⟨Y,1,none⟩=some (.int .i64 lim))
  (first | exact SC.out)
  (first
   | (go_at_call 92;refine(xT lo hi _ ps lim _ (g7.out _ (by first | exact HT.out | exact HT.out.trans (qc _ _))) (q87 a7 (by first | exact HT.out.size | exact(HT.out.trans (qc _ none)).size)) HY.out.len).mono ?_;rintro e w5 ⟨rfl,hg⟩;rw[<- k0.out];replace HT:=q1D (show w3.grownBy w5 none by first | exact HT.out.trans hg | exact(HT.out.trans (qc _ _)).trans hg);replace SC:=q1D (b6.out w5 HT.out);clear hg)
   | (go_at_call 91;refine(Qi lo hi _ _ l _ _ (h8.out _ (by first | exact HT.out | exact HT.out.trans (qc _ _))) (q87 a7 (by first | exact HT.out.size | exact(HT.out.trans (qc _ none)).size)) g8.out (by omega) (by first | exact k9.out | exact k8.out) ⟨_,_,rfl⟩).mono ?_;rintro e w5 ⟨lv,rfl,hg,hL⟩;have hc:=hL.cell;rw[yY] at hc;obtain⟨mb,mc,rfl,-,-⟩:=hc;have HM:=q1D hL;replace HT:=q1D (show w3.grownBy w5 none by first | exact HT.out.trans hg | exact(HT.out.trans (qc _ _)).trans hg);replace SC:=q1D (b6.out w5 HT.out);clear hg hL))
 rename_i wa wm a6
 clear a6 s0 s1;have p9:=q1D HT.out;have s0:=SC.out.1;have s1:=SC.out.2;go_upto_region 6 with(fail)
 go_region_held3 (λw'=>w'.cell? ⟨Y,0,none⟩=some (.slice yb ps.length yc)/\w'.cell? ⟨Y,1,none⟩=some (.int .i64 lim))
  (first | exact SC.out)
  (first
   | (go_at_call 93;refine(Qj lo hi _ ps lim _ (g7.out _ (by first | exact HT.out | exact HT.out.trans (qc _ _))) (q87 a7 (by first | exact HT.out.size | exact(HT.out.trans (qc _ none)).size)) HY.out.len).mono ?_;rintro e w6 ⟨rfl,hg⟩;rw[<- k5.out];replace HM:=q1D (HM.out.kept (row:=none) (show World.grownBy _ w6 none by first | exact hg | exact(qc _ _).trans hg) (by simp));replace HT:=q1D (show w3.grownBy w6 none by first | exact HT.out.trans hg | exact(HT.out.trans (qc _ _)).trans hg);replace SC:=q1D (b6.out w6 HT.out);clear hg)
   | (go_at_call 91;refine(Qi lo hi _ _ l _ _ (h8.out _ (by first | exact HT.out | exact HT.out.trans (qc _ _))) (q87 a7 (by first | exact HT.out.size | exact(HT.out.trans (qc _ none)).size)) g8.out (by omega) (by first | exact k9.out | exact k8.out) ⟨_,_,rfl⟩).mono ?_;rintro e w6 ⟨lv,rfl,hg,hL⟩;have hc:=hL.cell;rw[yY] at hc;obtain⟨lb,lc,rfl,-,-⟩:=hc;have HL:=q1D hL;replace HM:=q1D (HM.out.kept (row:=none) (show World.grownBy _ w6 none by first | exact hg | exact(qc _ _).trans hg) (by simp));replace HT:=q1D (show w3.grownBy w6 none by first | exact HT.out.trans hg | exact(HT.out.trans (qc _ _)).trans hg);replace SC:=q1D (b6.out w6 HT.out);clear hg hL))
 rename_i a6
 clear a6 s0 s1;have hcl:=HL.out.cell;have hcm:=HM.out.cell;rw[yY] at hcl hcm;obtain⟨_,_,he,-,hcl⟩:=hcl;cases he;obtain⟨_,_,he,-,hcm⟩:=hcm;cases he;have n7:=q1D hcl;have n6:=q1D hcm;have k6:=q1D (k7.out.trans HT.out);clear hcl hcm;have m5:Hid (∀k,k<l.length->(kE ((yy ps l).take (k+1)))=kE ((yy ps l).take k)++[.int .i64 (loadAt gm l k),.int .i64 (loadAt gx l k)]):=q1D λk hk=>by
  rw[q35 ps l k hk,q5o,k5.out,k0.out]
 go_wp2;go_loopw [8,32] (λov iv wr=>∃k:Nat,iv=.int .i64 k/\k<=l.length/\w6.grownBy wr none/\wr.ownsRow w6.heap.size 26 2 ov k (kE ((yy ps l).take k))) (λ_ iv _=>(l.length - qb2 iv).toNat)
 case atStart=>exact⟨0,rfl,by omega,q8j _ _,by simpa[kE] using qcb _ _ _ _⟩
 case round =>
  obtain⟨k,rfl,hk,hG,hO⟩:=hrel;obtain⟨oa,om,oc,rfl⟩:=zV hO;have HG:=q1D hG;have HO:=q1D hO;have p5:=hG.size;by_cases hlt:k<l.length
  ·have d5:ldL gm l≠[]:=by intro e;have:=yY gm l;rw[e] at this;simp at this;omega
   have c9:ldL gx l≠[]:=by intro e;have:=yY gx l;rw[e] at this;simp at this;omega
   obtain⟨LB,lo',rfl,-,-,-,hL4⟩:=n7.out d5;obtain⟨MB,n9,rfl,-,-,-,e9⟩:=n6.out c9;have x1:=hG.cell (hL4 k hlt) (by simp);have x2:=hG.cell (e9 k hlt) (by simp);rw[JE gm l k hlt] at x1;rw[JE gx l k hlt] at x2;have HS:=q1D (m5.out k hlt);generalize loadAt gm l k=p1 at x1 HS;generalize loadAt gx l k=p2 at x2 HS;have n8:(k:Int)<(l.length:Int):=by omega
   clear hL4 e9 d5 c9 hG hO;go_wp2_with (first
    | (at_builtin;go_must (refine wpList_append_own _ rfl _ _ 48 rfl w6.heap.size 26 i0 _ 2 16 Tryp.und48 m4 l6 l5 l4 rfl (by decide) (.slice oa om oc) k _ rfl (HO.out.alloc _) ⟨wr.heap.size,0,none⟩ 1 1 [.int .i64 p1,.int .i64 p2] rfl rfl (qbg (cs:=#[.int .i64 p1,.int .i64 p2]) (t:=26) (fr:=(0,0)) (q7j wr _)) (by simp[qbD]) (by unfold maxLen;omega) (by omega) (by simp;omega) ?_);intro v' w7 Z b0 _;obtain⟨g',cap',rfl⟩:=ownsRow_succ Z;have m9:=q1D Z;have n3:=q1D b0;clear Z b0))
   go_roundw
   case rel =>
    refine⟨k+1,by simp,by omega,(HG.out.trans (q34 _ _ none)).andThen n3.out (λj e=>.inl (HO.out.lt j e).1),?_⟩;rw[HS.out];exact m9.out
   case measure=>simp[qb2];omega
  ·obtain rfl:k=l.length:=by omega
   clear hG hO;go_wp2;go_ret2;have h0:=HO.out;rw[show(yy ps l).take l.length=yy ps l from List.take_of_length_le (by simp[yy])] at h0;exact⟨_,rfl,k6.out.trans HG.out,(qM.own h0 (by rw[q53];omega)).mono k6.out.size (q5m _)⟩
end Go.Proofs.YtidgnkmjgioapaaGreat
end
