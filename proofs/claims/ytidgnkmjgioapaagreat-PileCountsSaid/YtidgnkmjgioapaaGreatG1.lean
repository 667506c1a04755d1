/-
  Part 1 of the proof. gladstonelaw04.PileCounts answers true for every yard, parcel and list of numbers that the statement takes, and leaves its arguments as they were. No conditions.
-/
import GoSem.Step
import Derived.StepT
import Derived.Laws.Sem
import Derived.Conc.Events
import Derived.Calls
set_option maxRecDepth 100000
set_option maxHeartbeats 8000000
set_option linter.all false
open Array renaming all_eq_true_iff_forall_mem->qju,eq_empty_of_size_eq_zero->qmz,foldl_toList->qo2,forIn_toList->qmf,getD_eq_getD_getElem?->qjg,getElem!_eq_getD->qpE,getElem?_append->qlh,getElem?_eq_getElem->qih,getElem?_eq_none_iff->qpc,getElem?_eq_some_iff->qhs,getElem?_map->qo4,getElem?_modify->qmi,getElem?_push->qm4,getElem?_setIfInBounds->qiC,getElem?_toList->qos,length_toList->qqs,mapM_eq_mapM_toList->qlw,mem_append->ql9,mem_of_getElem?->qjB,mem_toList_iff->qko,range->qlE,swapAt!->qs7,toList_zip->qrs
open Bool renaming and_eq_true->qic,eq_false_iff->qm2,false_eq_true->qiv,not_false->qnn,not_true->qnD,or_eq_true->qkt
open Classical renaming byContradiction->qj6,choose->ql0,choose_spec->qli
open Go renaming Addr->qiG,BoundsCode->qqH,Calls->qis,Code->qkh,CommCase->ql6,CommShape->qkw,Deferred->qjH,Dying->qn8,Event->qjk,FieldStep->qrt,Frame->qhG,FuncId->qj8,GStep->qkq,GoStatus->qkF,Goroutine->qhw,Item->qlG,MapEntry->qlj,Next->qmm,Oper->qjn,Operand->qiy,PanicEntry->qn0,Program->qhF,Question->qk5,Result->qme,TypeId->qi4,TypeInfo->qlD,Value->qhu,World->qhr,asAddr->qro,behindNumber->qkp,boundsPanic->qm8,byteOf->qpD,byteOfCell->qpC,callDeferred->qk3,cellAtBytes->qo8,doReturn->qk7,endFatal->qp0,endThrow->qoh,execOp->qkA,exitTo->qno,gotoIn->qo5,loadCellsFrom->qoD,loadVar->qra,movedNumber->qpk,reportChain->qrA,results->qke,runtimePanic->qlm,stepG->qj5,tryRecover->qik,typeHandle->qpB,typeInfo->qlx,undef->qhx,underlying->qle,unwind->qmj,yielded->qjt,zeroValue->qmy
open Go.Builtin renaming append_->ql7,cap_->qrc,clear_->qof,copy_->qpo,firstCells->qo3,holdsCells->qr0,len_->qrb,max2->qsa,max_->qrd,mayShare->qrp,min_->qp9,unsafeAdd_->qkc,zeroCells->qki
open Go.Frame renaming catches->qpq,enter->qiz,eval->qmu,finish->qpF,pos->qru,raise->qqd
open Go.GStep renaming after->qj9,go->qqe
open Go.GStep.go renaming injEq->qlH
open Go.Instr renaming beginRound->qpw,buildSlice->qrr,checkKey->qlF,deferInRound->qr1,endLoop->qqA,endRound->qkE,enterLoop->qnH,extract->qqx,fieldAt->qs5,fill->qnm,findAsking->qm9,findKey->qmt,findNow->qoF,getLoop->qqz,index->qo9,indexAt->qqy,keyThatStays->qjf,lookup->qnx,makeInterface->qqr,makeMap->qpp,mapUpdate->qjw,panicnil->qog,sameBits->qkv,sameNow->qoE,slice->qqc,sliceAt->qs6,sliceBound->qla,sliceBounds->qpl,storeAt->qs4,sureAddr->qs0,takeDeferred->qpe,typeAssert->qlz
open Go.Region renaming wanted->qip
open Go.Result renaming andThen_ok->qjl,evThen_ok->qpv
open Go.Sem renaming bind->qnk,events_bind->qn7,run->qjd,runT->qmx,runT_eq->qiw,run_bind->qjo,setObj->qrH,store->qrn
open Go.World renaming cell?->qiq,farLoad->qqw,farStore->qnl,freeze->qr9,frozen?->qlt,setCell->qk2,shape?->qpA,viewStore->qrD
open Go.stepG renaming apply->qji,exec->ql5,oper->qow
open List renaming all_eq_true->qiB,cons_append->qi7,dropLast_concat->qp1,dropWhile_cons->qqt,foldlM_cons->qrq,foldl_cons->qln,forIn_cons->qrE,getElem?_append_left->qir,getElem?_eq_some_iff->qi3,mapM_cons->qoe,mem_cons_of_mem->qoH,mem_cons_self->qpd,mem_singleton->ql4,mem_toArray->qlb,nil_append->qii,range_succ->qlo
open List.cons renaming injEq->qkG
open Nat renaming add_assoc->qnb,le_of_eq->qlB,le_refl->qhv,le_succ->qrz,le_trans->qhB,lt_irrefl->qna,lt_of_lt_of_le->qi0,lt_or_ge->qjy,lt_succ_self->qny
open Option renaming bind_some->qnw,getD_some->qhC,map_some->qjh
open Option.some renaming inj->qkD,injEq->qiD
open Std.Legacy.Range renaming forIn_eq_forIn_range'->qk6
namespace Go.Sim
section
abbrev Ren:=List (Option Nat)
def BR(Z:Ren)(i j:Nat):Prop:=Z[i]?=some (some j)
def Inj(Z:Ren):Prop:=∀i c j,BR Z i j->BR Z c j->i=c
def Out(Z:Ren)(j:Nat):Prop:=∀i,¬ BR Z i j
def Le(Z O:Ren):Prop:=(∃V,O=Z++V)/\(Inj Z->Inj O)
def BR.lt{Z:Ren}{i j:Nat}(h:BR Z i j):i<Z.length:=by
 unfold BR at h;exact(qi3.1 h).1
def BR.new(Z:Ren)(j:Nat):BR (Z++[some j]) Z.length j:=by simp[BR]
def BR.fn{Z:Ren}{i j k:Nat}(h:BR Z i j)(c:BR Z i k):j=k:=by
 unfold BR at h c;rw[h] at c;exact qkD (qkD c)
def Le.refl(Z:Ren):Le Z Z:=⟨⟨[],by simp⟩,id⟩
def Le.trans{a b c:Ren}(h:Le a b)(k:Le b c):Le a c:=by
 obtain⟨⟨x,rfl⟩,e⟩:=h;obtain⟨⟨y,rfl⟩,d⟩:=k;exact⟨⟨x++y,by simp⟩,λn=>d (e n)⟩
def BR.snoc_cases{Z:Ren}{x:Option Nat}{i j:Nat}(h:BR (Z++[x]) i j):(i<Z.length/\BR Z i j)\/(i=Z.length/\x=some j):=by
 have d:=h.lt;simp at d;unfold BR at h ⊢;rcases qjy i Z.length with c | c
 ·rw[qir c] at h;exact .inl ⟨c,h⟩
 ·have e:i=Z.length:=by omega
  subst e;simp at h;exact .inr ⟨rfl,h⟩
def Le.snoc(Z:Ren)(j:Nat)(e:Out Z j):Le Z (Z++[some j]):=⟨⟨[some j],rfl⟩,λn i d k h c=>by
 rcases h.snoc_cases with⟨_,h⟩ | ⟨g,f⟩<;>rcases c.snoc_cases with⟨_,c⟩ | ⟨h1',h2'⟩
 ·exact n i d k h c
 ·cases h2';exact absurd h (e i)
 ·cases f;exact absurd c (e d)
 ·rw[g,h1']⟩
def BR.mono{Z O:Ren}{i j:Nat}(h:BR Z i j)(l:Le Z O):BR O i j:=by
 obtain⟨⟨V,rfl⟩,_⟩:=l;have c:=h.lt;unfold BR at h ⊢;rw[qir c];exact h
def qc4:qhu->Bool
 | .bool _ | .int _ _ | .string _ | .pointer none | .slice none _ _ | .map none | .nilFunc | .nilIface | .agg _ | .tuple _ | .func (.method _) _ _=>false
 | _=>true
class JunkSet where
 jk:Nat->Prop
 okf:qj8->Prop
 okm:String->Prop
 okc:qkh->Prop
 okb:Builtin->Array qi4->Prop
 okg:qj8->Prop
section
variable[JunkSet]
inductive FnR (Z:Ren):Fn->Fn->Prop
 | func (f:qj8):JunkSet.okf f->FnR Z (.func f) (.func f)
 | yield {i j:Nat}:BR Z i j->FnR Z (.yield i) (.yield j)
inductive VR (Z:Ren):qhu->qhu->Prop
 | bool (b:Bool):VR Z (.bool b) (.bool b)
 | int (k:IntKind) (n:Int):VR Z (.int k n) (.int k n)
 | string (s:ByteArray):VR Z (.string s) (.string s)
 | ptrNil:VR Z (.pointer none) (.pointer none)
 | ptr {i j:Nat} (off:Nat) (spot:Option Nat):BR Z i j->VR Z (.pointer (some ⟨i,off,spot⟩)) (.pointer (some ⟨j,off,spot⟩))
 | sliceNil (n c:Nat):VR Z (.slice none n c) (.slice none n c)
 | slice {i j:Nat} (off:Nat) (spot:Option Nat) (n c:Nat):BR Z i j->VR Z (.slice (some ⟨i,off,spot⟩) n c) (.slice (some ⟨j,off,spot⟩) n c)
 | mapNil:VR Z (.map none) (.map none)
 | map {i j:Nat}:BR Z i j->VR Z (.map (some i)) (.map (some j))
 | func {f f':Fn} {a a' c c':Array qhu}:FnR Z f f'->a.size=a'.size->(∀(i:Nat) (x y:qhu),a[i]?=some x->a'[i]?=some y->VR Z x y) ->
   c.size=c'.size->(∀(i:Nat) (x y:qhu),c[i]?=some x->c'[i]?=some y->VR Z x y)->VR Z (.func f a c) (.func f' a' c')
 | nilFunc:VR Z .nilFunc .nilFunc
 | iface (t:qi4) {v v':qhu}:VR Z v v'->VR Z (.iface t v) (.iface t v')
 | nilIface:VR Z .nilIface .nilIface
 | agg {a a':Array qhu}:a.size=a'.size->(∀(i:Nat) (x y:qhu),a[i]?=some x->a'[i]?=some y->VR Z x y)->VR Z (.agg a) (.agg a')
 | tuple {a a':Array qhu}:a.size=a'.size->(∀(i:Nat) (x y:qhu),a[i]?=some x->a'[i]?=some y->VR Z x y)->VR Z (.tuple a) (.tuple a')
 | wild (y:qhu):qc4 y=true->VR Z (.chan none) y
 | meth (n:String) (a c:Array qhu):VR Z (.func (.method "") #[.iface 0 .nilIface] #[]) (.func (.method n) a c)
def FnR.mono{Z O:Ren}(l:Le Z O){f c:Fn}(h:FnR Z f c):FnR O f c:=by
 cases h with
 | func f h=>exact .func f h
 | yield h=>exact .yield (h.mono l)
def VR.mono{Z O:Ren}(l:Le Z O){v j:qhu}(h:VR Z v j):VR O v j:=by
 induction h with
 | bool b=>exact .bool b
 | int k n=>exact .int k n
 | string s=>exact .string s
 | ptrNil=>exact .ptrNil
 | ptr e d h=>exact .ptr e d (h.mono l)
 | sliceNil n c=>exact .sliceNil n c
 | slice e d n c h=>exact .slice e d n c (h.mono l)
 | mapNil=>exact .mapNil
 | map h=>exact .map (h.mono l)
 | func o q _ p _ i g=>exact .func (o.mono l) q i p g
 | nilFunc=>exact .nilFunc
 | iface t _ f=>exact .iface t f
 | nilIface=>exact .nilIface
 | agg h _ f=>exact .agg h f
 | tuple h _ f=>exact .tuple h f
 | wild y h=>exact .wild y h
 | meth n a c=>exact .meth n a c
def AsR(Z:Ren)(a b:Array qhu):Prop:=a.size=b.size/\∀(i:Nat) (x y:qhu),a[i]?=some x->b[i]?=some y->VR Z x y
inductive LsR {Y M:Type} (R:Y->M->Prop):List Y->List M->Prop
 | nil:LsR R [] []
 | cons {x:Y} {y:M} {l:List Y} {m:List M}:R x y->LsR R l m->LsR R (x::l) (y::m)
section
variable{Y M:Type}{R:Y->M->Prop}
def LsR.imp{S:Y->M->Prop}(h:∀x y,R x y->S x y){l:List Y}{m:List M}(k:LsR R l m):LsR S l m:=by
 induction k with
 | nil=>exact .nil
 | cons a _ c=>exact .cons (h _ _ a) c
def LsR.length{l:List Y}{m:List M}(h:LsR R l m):l.length=m.length:=by
 induction h with
 | nil=>rfl
 | cons _ _ c=>simp[c]
def LsR.append{l d:List Y}{m c:List M}(h:LsR R l m)(f:LsR R d c):LsR R (l++d) (m++c):=by
 induction h with
 | nil=>exact f
 | cons a _ e=>exact .cons a e
def q7o{l:List Y}{m:List M}:LsR R l m↔l.length=m.length/\∀(i:Nat) (x:Y) (y:M),l[i]?=some x->m[i]?=some y->R x y:=by
 constructor
 ·intro h;refine⟨h.length,?_⟩;induction h with
  | nil=>intro i x y c;simp at c
  | cons a _ d=>
   intro i x y c e;cases i with
   | zero=>simp at c e;subst c;subst e;exact a
   | succ i=>exact d i x y (by simpa using c) (by simpa using e)
 ·rintro⟨f,g⟩;induction l generalizing m with
  | nil=>cases m with
   | nil=>exact .nil
   | cons _ _=>simp at f
  | cons x l d=>cases m with
   | nil=>simp at f
   | cons y m=>exact .cons (g 0 x y rfl rfl) (d (by simpa using f) λi a b k j=>g (i+1) a b (by simpa using k) (by simpa using j))
end
section
variable{Z O:Ren}{a b a' b':Array qhu}
def zm:AsR Z a b↔LsR (VR Z) a.toList b.toList:=by
 rw[q7o];simp[AsR]
def AsR.mono(l:Le Z O)(h:AsR Z a b):AsR O a b:=⟨h.1,λi x y d c=>(h.2 i x y d c).mono l⟩
def AsR.get(h:AsR Z a b){i:Nat}{x:qhu}(c:a[i]?=some x):∃y,b[i]?=some y/\VR Z x y:=by
 have d:i<b.size:=h.1 ▸ (qhs.1 c).1;exact⟨b[i],qih d,h.2 i x _ c (qih d)⟩
def AsR.get_none(h:AsR Z a b){i:Nat}(c:a[i]?=none):b[i]?=none:=by
 rw[qpc] at c ⊢;exact h.1 ▸ c
def AsR.getD(h:AsR Z a b)(i:Nat){d c:qhu}(g:VR Z d c):VR Z (a.getD i d) (b.getD i c):=by
 rw[qjg,qjg];cases ha:a[i]? with
 | none=>rw[h.get_none ha];exact g
 | some x=>have⟨y,e,f⟩:=h.get ha;rw[e];exact f
def AsR.nil:AsR Z #[] #[]:=⟨rfl,λi x y c=>by simp at c⟩
def AsR.append(h:AsR Z a b)(c:AsR Z a' b'):AsR Z (a++a') (b++b'):=by
 rw[zm] at *
 simpa using h.append c
def AsR.push(h:AsR Z a b){x y:qhu}(c:VR Z x y):AsR Z (a.push x) (b.push y):=by
 rw[zm] at *
 simpa using h.append (.cons c .nil)
def AsR.one{x y:qhu}(c:VR Z x y):AsR Z #[x] #[y]:=by
 rw[zm];exact .cons c .nil
def AsR.set(h:AsR Z a b)(i:Nat){x y:qhu}(g:VR Z x y):AsR Z (a.setIfInBounds i x) (b.setIfInBounds i y):=by
 refine⟨by simpa using h.1,λj u v d c=>?_⟩;rw[qiC] at d c;by_cases e:i=j
 ·subst e;by_cases f:i<a.size
  ·rw[if_pos rfl,if_pos f] at d;rw[if_pos rfl,if_pos (h.1 ▸ f)] at c;cases d;cases c;exact g
  ·rw[if_pos rfl,if_neg f] at d;cases d
 ·rw[if_neg e] at d c;exact h.2 j u v d c
def AsR.extract(h:AsR Z a b)(i j:Nat):AsR Z (a.extract i j) (b.extract i j):=by
 refine⟨by simp[h.1],λk x y d c=>?_⟩;rw[Array.getElem?_extract] at d c;split at d
 ·split at c
  ·exact h.2 _ x y d c
  ·cases c
 ·cases d
end
inductive vE:qhu->Prop
 | bool (b:Bool):vE (.bool b)
 | int (k:IntKind) (n:Int):vE (.int k n)
 | string (s:ByteArray):vE (.string s)
 | ptrNil:vE (.pointer none)
 | sliceNil (n c:Nat):vE (.slice none n c)
 | mapNil:vE (.map none)
 | nilFunc:vE .nilFunc
 | nilIface:vE .nilIface
 | agg {a:Array qhu}:(∀(i:Nat) (x:qhu),a[i]?=some x->vE x)->vE (.agg a)
 | tuple {a:Array qhu}:(∀(i:Nat) (x:qhu),a[i]?=some x->vE x)->vE (.tuple a)
def vE.vr(Z:Ren){v:qhu}(h:vE v):VR Z v v:=by
 induction h with
 | bool b=>exact .bool b
 | int k n=>exact .int k n
 | string s=>exact .string s
 | ptrNil=>exact .ptrNil
 | sliceNil n c=>exact .sliceNil n c
 | mapNil=>exact .mapNil
 | nilFunc=>exact .nilFunc
 | nilIface=>exact .nilIface
 | agg _ f=>exact .agg rfl λi x y e d=>by rw[e] at d;cases d;exact f i x e
 | tuple _ f=>exact .tuple rfl λi x y e d=>by rw[e] at d;cases d;exact f i x e
def KQ:qhu->Bool
 | .bool _ | .int _ _ | .string _ | .pointer none | .slice none _ _ | .map none | .nilFunc | .nilIface=>true
 | _=>false
def qcq:qhu->Bool
 | .agg a | .tuple a=>a.toList.all λv=>match v with
   | .agg b | .tuple b=>b.toList.all KQ
   | v=>KQ v
 | v=>KQ v
def KP{v:qhu}(h:KQ v=true):vE v:=by
 cases v with
 | bool b=>exact .bool b
 | int k n=>exact .int k n
 | string s=>exact .string s
 | pointer a=>cases a with
  | none=>exact .ptrNil
  | some _=>cases h
 | slice a n c=>cases a with
  | none=>exact .sliceNil n c
  | some _=>cases h
 | map a=>cases a with
  | none=>exact .mapNil
  | some _=>cases h
 | chan a=>cases h
 | float k b=>cases h
 | complex k a b=>cases h
 | func _ _ _=>cases h
 | nilFunc=>exact .nilFunc
 | iface _ _=>cases h
 | nilIface=>exact .nilIface
 | agg _=>cases h
 | tuple _=>cases h
def q1H{a:Array qhu}(h:a.toList.all KQ=true)(i:Nat)(x:qhu)(c:a[i]?=some x):vE x:=by
 rw[qiB] at h;exact KP (h x (by rw[qko];exact qjB c))
def q32{v:qhu}(h:qcq v=true):vE v:=by
 have c:∀a:Array qhu,(a.toList.all λv=>match v with
   | .agg b | .tuple b=>b.toList.all KQ
   | v=>KQ v)=true->∀(i:Nat) (x:qhu),a[i]?=some x->vE x:=by
  intro a d i x e;rw[qiB] at d;have:=d x (by rw[qko];exact qjB e);cases x with
  | agg b=>exact .agg (q1H this)
  | tuple b=>exact .tuple (q1H this)
  | _=>exact KP this
 cases v with
 | agg a=>exact .agg (c a h)
 | tuple a=>exact .tuple (c a h)
 | _=>exact KP h
structure kw(Z:Ren)(e e':qlj):Prop where
 key:VR Z e.key e'.key
 val:VR Z e.val e'.val
 born:e'.born=e.born
inductive yx (Z:Ren):Target->Target->Prop
 | fn {f f':Fn} {c c':Array qhu}:FnR Z f f'->AsR Z c c'->yx Z (.fn f c) (.fn f' c')
 | meth (n:String):JunkSet.okm n->yx Z (.fn (.method n) #[]) (.fn (.method n) #[])
 | nil:yx Z .nil .nil
 | builtin (b:Builtin) (a:Array qi4) (t:qi4) (c:Array Bool):JunkSet.okb b a->yx Z (.builtin b a t c) (.builtin b a t c)
 | collected {i j:Nat}:BR Z i j->yx Z (.collected i) (.collected j)
inductive kg (Z:Ren) (d d':qjH):Prop
 | mk:yx Z d.target d'.target->AsR Z d.args d'.args->kg Z d d'
 | bound:d.target=.fn (.method "") #[]->d.args[0]?=some (.iface 0 .nilIface)->(∃n c,d'.target=.fn (.method n) c)->kg Z d d'
structure Zb(Z:Ren)(l l':Loop):Prop where
 state:l'.state=l.state
 pending:l'.pending=l.pending
 fn:l'.fn=l.fn
 tmps:AsR Z l.tmps l'.tmps
 params:l'.params=l.params
 assign:l'.assign=l.assign
 body:l'.body=l.body
 defers:BR Z l.defers l'.defers
 okF:JunkSet.okg l.fn
 okA:JunkSet.okc l.assign
 okB:JunkSet.okc l.body
 okP:∀c,l.pending=some c->JunkSet.okc c
inductive ObR (Z:Ren):Obj->Obj->Prop
 | cells {c c':Array qhu} (e:qi4) {f f':Nat × Nat}:AsR Z c c'->(∀o,f'.1<=o->o<f'.2->f.1<=o/\o<f.2)->ObR Z (.cells c e f) (.cells c' e f')
 | map {es es':Array qlj} (clock:Nat):LsR (kw Z) es.toList es'.toList->ObR Z (.map es clock) (.map es' clock)
 | stringIter (s:ByteArray) (p:Nat):ObR Z (.stringIter s p) (.stringIter s p)
 | mapIterNil (a:Nat) (s:Array Nat) (b:Nat):ObR Z (.mapIter none a s b) (.mapIter none a s b)
 | mapIter {i j:Nat} (a:Nat) (s:Array Nat) (b:Nat):BR Z i j->ObR Z (.mapIter (some i) a s b) (.mapIter (some j) a s b)
 | loop {l l':Loop}:Zb Z l l'->ObR Z (.loop l) (.loop l')
 | number {i j:Nat} (o:Nat) (s:Option Nat) (lost:Bool):BR Z i j->ObR Z (.number ⟨i,o,s⟩ lost) (.number ⟨j,o,s⟩ lost)
 | deferredNone:ObR Z (.deferred none) (.deferred none)
 | deferred {l l':List qjH}:LsR (kg Z) l l'->ObR Z (.deferred (some l)) (.deferred (some l'))
section
variable{Z O:Ren}
def kw.mono(l:Le Z O){a b:qlj}(h:kw Z a b):kw O a b:=⟨h.key.mono l,h.val.mono l,h.born⟩
def yx.mono(l:Le Z O){a b:Target}(h:yx Z a b):yx O a b:=by
 cases h with
 | fn e d=>exact .fn (e.mono l) (d.mono l)
 | meth n h=>exact .meth n h
 | nil=>exact .nil
 | builtin b a t c h=>exact .builtin b a t c h
 | collected h=>exact .collected (h.mono l)
def kg.mono(l:Le Z O){a b:qjH}(h:kg Z a b):kg O a b:=by
 cases h with
 | mk d c=>exact .mk (d.mono l) (c.mono l)
 | bound d c e=>exact .bound d c e
def Zb.mono(l:Le Z O){a b:Loop}(h:Zb Z a b):Zb O a b:=⟨h.state,h.pending,h.fn,h.tmps.mono l,h.params,h.assign,h.body,h.defers.mono l,h.okF,h.okA,h.okB,h.okP⟩
def ObR.mono(l:Le Z O){a b:Obj}(h:ObR Z a b):ObR O a b:=by
 cases h with
 | cells e f d=>exact .cells e (f.mono l) d
 | map c h=>exact .map c (h.imp λ_ _ k=>k.mono l)
 | stringIter s p=>exact .stringIter s p
 | mapIterNil a s b=>exact .mapIterNil a s b
 | mapIter a s b h=>exact .mapIter a s b (h.mono l)
 | loop h=>exact .loop (h.mono l)
 | number o s x h=>exact .number o s x (h.mono l)
 | deferredNone=>exact .deferredNone
 | deferred h=>exact .deferred (h.imp λ_ _ k=>k.mono l)
end
end
end
section
abbrev Rel (Y M:Type):=Ren->Y->M->Prop
def odd:Halt->Bool
 | .panic _ | .goexit | .unsupported (.initOrder _)=>true
 | _=>false
def zQ:Obj->Bool
 | .pending ..=>true
 | _=>false
def Bad(Q:qhF){Y:Type}:Sem Y->Prop
 | .pure _=>False
 | .load _ _ k=>∀v,Bad Q (k v)
 | .store _ _ _ k=>Bad Q k
 | .new o k=>zQ o=false/\∀r,Bad Q (k r)
 | .shape _ k=>∀x,Bad Q (k x)
 | .freeze _ _ k=>Bad Q k
 | .frozen _ k=>∀b,Bad Q (k b)
 | .getObj _ k=>∀o,Bad Q (k o)
 | .setObj _ o k=>zQ o=false/\Bad Q k
 | .choose _ k=>∀n,Bad Q (k n)
 | .sys _ k=>∀r,Bad Q (k r)
 | .program k=>Bad Q (k Q)
 | .mark _ k=>Bad Q k
 | .halt h=>odd h=false
def kj(Q:qhF):qi4:=Q.types.size
def ShR[JunkSet](Q:qhF)(r:Nat)(x a:Option (qi4 × Nat)):Prop:=(¬ JunkSet.jk r/\a=x)\/(JunkSet.jk r/\Q.globals.size<=r/\x=some (kj Q,0)/\∃e n,a=some (e,n))
def SR[JunkSet](Q P:qhF){Y M:Type}(R:Rel Y M):Sem Y->Ren->Sem M->Prop
 | .pure a=>λZ e=>∃b,e=.pure b/\R Z a b
 | .load m a k=>λZ e=>Bad Q (.load m a k)\/(m=.plain/\∃j d,e=.load .plain ⟨j,a.off,a.spot⟩ d/\BR Z a.block j/\∀v f,VR Z v f->SR Q P R (k v) Z (d f))
 | .store m a v k=>λZ e=>Bad Q (.store m a v k)\/(m=.plain/\∃j f d,e=.store .plain ⟨j,a.off,a.spot⟩ f d/\BR Z a.block j/\VR Z v f/\SR Q P R k Z d)
 | .new o k=>λZ e=>Bad Q (.new o k)\/∃g d,e=.new g d/\ObR Z o g/\∀j,Out Z j->SR Q P R (k Z.length) (Z++[some j]) (d j)
 | .shape r k=>λZ e=>Bad Q (.shape r k)\/∃j d,e=.shape j d/\BR Z r j/\∀x i,ShR Q r x i->SR Q P R (k x) Z (d i)
 | .getObj r k=>λZ e=>Bad Q (.getObj r k)\/∃j d,e=.getObj j d/\BR Z r j/\∀o g,ObR Z o g->SR Q P R (k o) Z (d g)
 | .setObj r o k=>λZ e=>Bad Q (.setObj r o k)\/∃j g d,e=.setObj j g d/\BR Z r j/\ObR Z o g/\SR Q P R k Z d
 | .choose q k=>λZ e=>Bad Q (.choose q k)\/∃d,e=.choose q d/\∀n,SR Q P R (k n) Z (d n)
 | .sys c k=>λZ e=>Bad Q (.sys c k)\/(c=.env/\∃d,e=.sys .env d/\∀r,SR Q P R (k r) Z (d r))
 | .program k=>λZ e=>Bad Q (.program k)\/∃d,e=.program d/\SR Q P R (k Q) Z (d P)
 | .mark m k=>λZ e=>Bad Q (.mark m k)\/(m=.noRoom/\∃d,e=.mark .noRoom d/\SR Q P R k Z d)
 | .halt (.panic v)=>λZ e=>∃f,e=.halt (.panic f)/\VR Z v f
 | .halt h=>λ_ _=>odd h=false
 | .freeze a n k=>λ_ _=>Bad Q (.freeze a n k)
 | .frozen a k=>λ_ _=>Bad Q (.frozen a k)
def Bad.bind{Q:qhF}{Y W:Type}{s:Sem Y}(h:Bad Q s)(f:Y->Sem W):Bad Q (s.bind f):=by
 induction s with
 | pure a=>exact h.elim
 | load m a k b=>exact λv=>b v (h v)
 | store m a v k b=>exact b h
 | new o k b=>exact⟨h.1,λv=>b v (h.2 v)⟩
 | shape r k b=>exact λv=>b v (h v)
 | freeze a n k b=>exact b h
 | frozen a k b=>exact λv=>b v (h v)
 | getObj r k b=>exact λv=>b v (h v)
 | setObj r o k b=>exact⟨h.1,b h.2⟩
 | choose q k b=>exact λv=>b v (h v)
 | sys c k b=>exact λv=>b v (h v)
 | program k b=>exact b Q h
 | mark m k b=>exact b h
 | halt x=>exact h
def SR.bad[JunkSet]{Q P:qhF}{Y M:Type}{R:Rel Y M}{s:Sem Y}{Z:Ren}{b:Sem M}(h:Bad Q s):SR Q P R s Z b:=by
 cases s with
 | pure a=>exact h.elim
 | load m a k=>exact .inl h
 | store m a v k=>exact .inl h
 | new o k=>exact .inl h
 | shape r k=>exact .inl h
 | freeze a n k=>exact h
 | frozen a k=>exact h
 | getObj r k=>exact .inl h
 | setObj r o k=>exact .inl h
 | choose q k=>exact .inl h
 | sys c k=>exact .inl h
 | program k=>exact .inl h
 | mark m k=>exact .inl h
 | halt x=>
  cases x with
  | panic v=>cases h
  | _=>exact h
section
variable[JunkSet]{Q P:qhF}{Y M W X:Type}{R:Rel Y M}{S:Rel W X}
def SR.bind{s:Sem Y}{Z:Ren}{z:Sem M}{f:Y->Sem W}{B:M->Sem X}(h:SR Q P R s Z z)(i:∀O a b,Le Z O->R O a b->SR Q P S (f a) O (B b)):SR Q P S (s.bind f) Z (z.bind B):=by
 induction s generalizing Z z with
 | pure a=>
  obtain⟨b,rfl,F⟩:=h;exact i Z a b (.refl Z) F
 | load m a k e=>
  rcases h with d | ⟨hm,j,p,rfl,d,g⟩
  ·exact .bad (d.bind f)
  ·exact .inr ⟨hm,j,_,rfl,d,λv t w=>e v (g v t w) i⟩
 | store m a v k e=>
  rcases h with d | ⟨hm,j,t,p,rfl,d,w,g⟩
  ·exact .bad (Bad.bind (s:=.store m a v k) d f)
  ·exact .inr ⟨hm,j,t,_,rfl,d,w,e g i⟩
 | new o k e=>
  rcases h with d | ⟨u,p,rfl,y,g⟩
  ·exact .bad (d.bind f)
  ·exact .inr ⟨u,_,rfl,y,λj A=>e _ (g j A) λO a b l=>i O a b ((Le.snoc Z j A).trans l)⟩
 | shape r k e=>
  rcases h with d | ⟨j,p,rfl,d,g⟩
  ·exact .bad (d.bind f)
  ·exact .inr ⟨j,_,rfl,d,λx C D=>e x (g x C D) i⟩
 | freeze a n k _=>exact .bad (Bad.bind (s:=.freeze a n k) h f)
 | frozen a k _=>exact .bad (Bad.bind (s:=.frozen a k) h f)
 | getObj r k e=>
  rcases h with d | ⟨j,p,rfl,d,g⟩
  ·exact .bad (d.bind f)
  ·exact .inr ⟨j,_,rfl,d,λo u y=>e o (g o u y) i⟩
 | setObj r o k e=>
  rcases h with d | ⟨j,u,p,rfl,d,y,g⟩
  ·exact .bad (Bad.bind (s:=.setObj r o k) d f)
  ·exact .inr ⟨j,u,_,rfl,d,y,e g i⟩
 | choose q k e=>
  rcases h with d | ⟨p,rfl,g⟩
  ·exact .bad (d.bind f)
  ·exact .inr ⟨_,rfl,λn=>e n (g n) i⟩
 | sys c k e=>
  rcases h with d | ⟨G,p,rfl,g⟩
  ·exact .bad (d.bind f)
  ·exact .inr ⟨G,_,rfl,λr=>e r (g r) i⟩
 | program k e=>
  rcases h with d | ⟨p,rfl,g⟩
  ·exact .bad (d.bind f)
  ·exact .inr ⟨_,rfl,e Q g i⟩
 | mark m k e=>
  rcases h with d | ⟨rfl,p,rfl,g⟩
  ·exact .bad (Bad.bind (s:=.mark m k) d f)
  ·exact .inr ⟨rfl,_,rfl,e g i⟩
 | halt x=>
  cases x with
  | panic v=>
   obtain⟨t,rfl,w⟩:=h;exact⟨t,rfl,w⟩
  | _=>exact h
def SR.imp{i:Rel Y M}{s:Sem Y}{Z:Ren}{f:Sem M}(h:SR Q P R s Z f)(j:∀O a b,Le Z O->R O a b->i O a b):SR Q P i s Z f:=by
 have e:∀{Y:Type} (x:Sem Y),x.bind .pure=x:=by
  intro Y x;induction x with
  | pure a=>rfl
  | load m a k d=>simp only[qnk,d]
  | store m a v k d=>simp only[qnk,d]
  | new o k d=>simp only[qnk,d]
  | shape r k d=>simp only[qnk,d]
  | freeze a n k d=>simp only[qnk,d]
  | frozen a k d=>simp only[qnk,d]
  | getObj r k d=>simp only[qnk,d]
  | setObj r o k d=>simp only[qnk,d]
  | choose q k d=>simp only[qnk,d]
  | sys c k d=>simp only[qnk,d]
  | program k d=>simp only[qnk,d]
  | mark m k d=>simp only[qnk,d]
  | halt h=>rfl
 rw[<- e s,<- e f];exact h.bind λO a b l g=>⟨b,rfl,j O a b l g⟩
end
def BR.inj{Z:Ren}(b:Inj Z){i a j:Nat}(h:BR Z i j)(c:BR Z a j):i=a:=b i a j h c
def qfw(Q:qhF):Obj:=.cells #[] (kj Q) (0,0)
structure WR[JunkSet](Q:qhF)(base:Nat)(Z:Ren)(wq w:qhr):Prop where
 len:Z.length=wq.heap.size
 nodup:Inj Z
 lt:∀(i j:Nat),BR Z i j->j<w.heap.size
 obj:∀(i j:Nat) (o:Obj),BR Z i j->wq.heap[i]?=some o->(JunkSet.jk i/\o=qfw Q/\Q.globals.size<=i/\∃c e f,w.heap[j]?=some (.cells c e f))\/(¬ JunkSet.jk i/\∃o',w.heap[j]?=some o'/\ObR Z o o')
 low:∀(i:Nat),i<base->∃c e f,wq.heap[i]?=some (.cells c e f)/\∀o,o<c.size->f.1<=o/\o<f.2
 env:wq.os.env=w.os.env
 below:∀(i:Nat),JunkSet.jk i->i<base
 gar:∀(i:Nat) (o:Obj),wq.heap[i]?=some o->(∃j,BR Z i j)\/zQ o=false
def zF(D:Nat)(a w:qhr):Prop:=∀(n:Nat) (q:qk5),a.drawn+n<D->a.tape (a.drawn+n) q=w.tape (w.drawn+n) q
def rwR{Y:Type}:qme Y->qhr
 | .ok _ w=>w
 | .halt _ w=>w
def xR(p:qhF)(w:qhr)(a:qiG)(u:qi4)(k:qiG)(v:qhu)(b:Bool){r:qhr × List qiG}(h:w.viewStore p a u k v b=.ok r):r.1.drawn=w.drawn:=by
 unfold qrD at h;simp only[bind,Except.bind,pure,Except.pure] at h
 repeat' (split at h)
 all_goals first | (cases h;rfl) | cases h | (cases h;done)
def q9B{Y:Type}(x:Ask Y):∀w:qhr,w.drawn<=(w.ask x).2.drawn:=by
 induction x with
 | done a=>intro w;exact qhv _
 | ask c b k d=>
  intro w;unfold World.ask;dsimp only;split
  ·exact d _ w
  ·refine qhB (qrz _) ?_;exact d ((Question.extern c b).cut (w.tape w.drawn (Question.extern c b))) { w with drawn:=w.drawn+1 }
def q88(w:qhr)(c:Sys):w.drawn<=(w.sys c).2.drawn:=by
 unfold World.sys;have:=q9B (Kernel.perform c w.os) w;split
 ·exact qhv _
 ·rename_i h
  rw[h] at this;exact this
def vS{Y:Type}(p:qhF)(s:Sem Y):∀w:qhr,w.drawn<=(rwR (s.run p w)).drawn:=by
 induction s with
 | pure a=>intro w;exact qhv _
 | load m a k b=>
  intro w;simp only[qjd];split
  ·exact b _ w
  ·split
   ·exact b _ w
   ·exact qhv _
 | store m a v k b=>
  intro w;have e:w.drawn<=(rwR (match w.cell? a with
     | some _=>if w.frozen? a then(.halt (.unsupported (.unsafePointer "a write to bytes that a string shares")) w:qme Y) else k.run p (w.setCell a v)
     | none=>match w.farStore p a v (m == .atomic) with
      | .ok (w,_)=>k.run p w
      | .error h=>.halt h w)).drawn:=by
   split
   ·split
    ·exact qhv _
    ·exact b (w.setCell a v)
   ·split
    ·rename_i i t d
     refine qhB ?_ (b _);unfold qnl at d;split at d
     ·split at d
      ·rename_i r g
       cases d;exact qlB (xR _ _ _ _ _ _ _ g).symm
      ·cases d
     ·cases d
    ·exact qhv _
  cases v<;>first | exact e | exact qhv _
 | new o k b=>intro w;exact b _ { w with heap:=w.heap.push o }
 | shape r k b=>intro w;exact b _ w
 | freeze a n k b=>
  intro w;refine qhB ?_ (b (w.freeze a n));unfold qr9;split<;>exact qhv _
 | frozen a k b=>intro w;exact b _ w
 | getObj r k b=>
  intro w;simp only[qjd];cases ho:w.heap[r]? with
  | none=>exact qhv _
  | some o=>cases o<;>first | exact b _ w | exact qhv _
 | setObj r o k b=>
  intro w;simp only[qjd];cases ho:w.heap[r]? with
  | none=>exact qhv _
  | some f=>cases f<;>first | exact b { w with heap:=w.heap.setIfInBounds r o } | exact qhv _
 | choose q k b=>
  intro w;simp only[qjd];split
  ·exact b _ w
  ·exact qhB (qrz _) (b _ { w with drawn:=w.drawn+1 })
 | sys c k b=>intro w;exact qhB (q88 w c) (b _ _)
 | program k b=>intro w;exact b _ w
 | mark m k b=>intro w;exact b w
 | halt h=>intro w;exact qhv _
inductive kY [JunkSet] (base:Nat) (O:Ren):qjk->Prop
 | cell {i j:Nat} (off:Nat) (spot:Option Nat) (wr:Bool):BR O i j->¬ JunkSet.jk i->(wr=true->base<=i)->kY base O ⟨.cell ⟨j,off,spot⟩,wr,false⟩
 | obj {i j:Nat} (wr:Bool):BR O i j->base<=i->kY base O ⟨.obj j,wr,false⟩
 | noRoom:kY base O ⟨.mark .noRoom,false,true⟩
 | env:kY base O ⟨.output,true,false⟩
structure Eff(base:Nat)(Z O:Ren)(w w':qhr):Prop where
 le:Le Z O
 tape:w'.tape=w.tape
 os:w'.os=w.os
 output:w'.output=w.output
 size:w.heap.size<=w'.heap.size
 keep:∀j,j<w.heap.size->(∀i,BR Z i j->i<base)->w'.heap[j]?=w.heap[j]?
 fresh:∀i j,BR O i j->Z.length<=i->w.heap.size<=j
 mine:∀j,w.heap.size<=j->j<w'.heap.size->∃i,Z.length<=i/\BR O i j
def kY.mono[JunkSet]{base:Nat}{Z O:Ren}(l:Le Z O){e:qjk}(h:kY base Z e):kY base O e:=by
 cases h with
 | cell b a wr d f c=>exact .cell b a wr (d.mono l) f c
 | obj wr d c=>exact .obj wr (d.mono l) c
 | noRoom=>exact .noRoom
 | env=>exact .env
def Eff.refl(base:Nat){Z:Ren}(w:qhr):Eff base Z Z w w :=
 ⟨.refl Z,rfl,rfl,rfl,qhv _,λ_ _ _=>rfl,λi j h a=>absurd h.lt (by omega),λj c b=>by omega⟩
def Le.len{Z O:Ren}(l:Le Z O):Z.length<=O.length:=by
 obtain⟨⟨V,rfl⟩,_⟩:=l;simp
def BR.back{Z O:Ren}(l:Le Z O){i j:Nat}(h:BR O i j)(a:i<Z.length):BR Z i j:=by
 obtain⟨⟨V,rfl⟩,_⟩:=l;unfold BR at h ⊢
 rwa [qir a] at h
def Eff.trans{base:Nat}{Z O V:Ren}{w w₁ w₂:qhr}(n:base<=Z.length)(h:Eff base Z O w w₁)(k:Eff base O V w₁ w₂):Eff base Z V w w₂:=by
 refine⟨h.le.trans k.le,k.tape.trans h.tape,k.os.trans h.os,k.output.trans h.output,qhB h.size k.size,λj f e=>?_,λi j a d=>?_,λj l g=>?_⟩
 ·rw[k.keep j (qi0 f h.size) λi a=>?_,h.keep j f e];rcases qjy i Z.length with c | c
  ·exact e i (a.back h.le c)
  ·have:=h.fresh i j a c;omega
 ·rcases qjy i O.length with c | c
  ·exact h.fresh i j (a.back k.le c) d
  ·exact qhB h.size (k.fresh i j a c)
 ·rcases qjy j w₁.heap.size with c | c
  ·have⟨i,d,a⟩:=h.mine j l c;exact⟨i,d,a.mono k.le⟩
  ·have⟨i,d,a⟩:=k.mine j c g;exact⟨i,qhB h.le.len d,a⟩
def xj{Y:Type}:qme Y->Prop
 | .ok _ _=>True
 | .halt h _=>odd h=true
def zU(w:qhr):Prop:=∀(i:Nat) (o:Obj),w.heap[i]?=some o->zQ o=false
def jS{w:qhr}(b:zU w)(a:qiG)(x:String){Y:Type}(u:qhr):¬ xj (.halt (w.noCell a x) u:qme Y):=by
 unfold World.noCell;split
 ·rename_i h
  have:=b _ _ h;cases this
 ·exact λh=>by cases h
 ·exact λh=>by cases h
def q4y{p:qhF}{w:qhr}(c:zU w){a:qiG}{b:Bool}{h:Halt}(e:w.farLoad p a b=.error h):odd h=false:=by
 unfold qqw at e;split at e
 ·split at e
  ·cases e
  ·cases e;rfl
 ·cases e;have:=jS c a "load: no such cell" (Y:=Unit) w;cases ho:odd (w.noCell a "load: no such cell") with
  | false=>rfl
  | true=>exact absurd ho this
def q2x{p:qhF}{w:qhr}(c:zU w){a:qiG}{v:qhu}{b:Bool}{h:Halt}(e:w.farStore p a v b=.error h):odd h=false:=by
 unfold qnl at e;split at e
 ·split at e
  ·cases e
  ·cases e;rfl
 ·cases e;have:=jS c a "store: no such cell" (Y:=Unit) w;cases ho:odd (w.noCell a "store: no such cell") with
  | false=>rfl
  | true=>exact absurd ho this
def yP{Y:Type}{h:Halt}(a:odd h=false)(w:qhr):¬ xj (.halt h w:qme Y):=λx=>by
 have x:odd h=true:=x;rw[a] at x;cases x
def zU.set{w:qhr}(b:zU w){r:Nat}{o:Obj}(c:zQ o=false):zU { w with heap:=w.heap.setIfInBounds r o }:=λi x a=>by
 simp only[qiC] at a;split at a
 ·split at a
  ·cases a;exact c
  ·cases a
 ·exact b i x a
def zU.push{w:qhr}(b:zU w){o:Obj}(c:zQ o=false):zU { w with heap:=w.heap.push o }:=λi x a=>by
 simp only[qm4] at a;split at a
 ·cases a;exact c
 ·exact b i x a
def zU.modify{w:qhr}(b:zU w)(r:Nat){f:Obj->Obj}(c:∀o,zQ o=false->zQ (f o)=false):zU { w with heap:=w.heap.modify r f }:=λi x a=>by
 simp only[qmi] at a;split at a
 ·cases h:w.heap[i]? with
  | none=>rw[h] at a;cases a
  | some y=>
   rw[h] at a;cases a;exact c y (b i y h)
 ·exact b i x a
def zU.cell{w:qhr}(b:zU w)(a:qiG)(v:qhu):zU (w.setCell a v):=b.modify a.block λo c=>by
 cases o<;>first | rfl | exact c
def zU.freeze{w:qhr}(b:zU w)(a:qiG)(n:Nat):zU (w.freeze a n):=by
 unfold qr9;split
 ·exact b
 ·exact b.modify a.block λo c=>by
   cases o<;>first | rfl | exact c
def KZ{p:qhF}{w:qhr}{a:qiG}{u:qi4}{k:qiG}{v:qhu}{b:Bool}{r:qhr × List qiG}(h:w.viewStore p a u k v b=.ok r):∃x o,zQ o=false/\r.1={ w with heap:=w.heap.setIfInBounds x o }:=by
 unfold qrD at h;simp only[bind,Except.bind,pure,Except.pure] at h
 repeat' (split at h)
 all_goals first | (cases h;exact⟨_,_,rfl,rfl⟩) | cases h | (cases h;done)
def qah(w:qhr)(c:Sys):(w.sys c).2.heap=w.heap:=by
 have d:∀{Y:Type} (x:Ask Y) (w:qhr),(w.ask x).2.heap=w.heap:=by
  intro Y x;induction x with
  | done a=>intro w;rfl
  | ask e b k f=>
   intro w;unfold World.ask;dsimp only;split
   ·exact f _ w
   ·exact f _ { w with drawn:=w.drawn+1 }
 unfold World.sys;have:=d (Kernel.perform c w.os) w;split
 ·rfl
 ·rename_i h
  rw[h] at this;exact this
def Bad.not_fine{Y:Type}{p:qhF}{s:Sem Y}:∀{w:qhr},zU w->Bad p s->¬ xj (s.run p w):=by
 induction s with
 | pure a=>intro w _ h;exact h.elim
 | load m a k d=>
  intro w b h;simp only[qjd];split
  ·exact d _ b (h _)
  ·split
   ·exact d _ b (h _)
   ·rename_i e
    exact yP (q4y b e) w
 | store m a v k d=>
  intro w b h;have g:¬ xj (match w.cell? a with
     | some _=>if w.frozen? a then(.halt (.unsupported (.unsafePointer "a write to bytes that a string shares")) w:qme Y) else k.run p (w.setCell a v)
     | none=>match w.farStore p a v (m == .atomic) with
      | .ok (w,_)=>k.run p w
      | .error h=>.halt h w):=by
   split
   ·split
    ·exact λh=>by cases h
    ·exact d (b.cell a v) h
   ·split
    ·rename_i l t e
     refine d ?_ h;unfold qnl at e;split at e
     ·split at e
      ·rename_i r y
       cases e;have⟨x,o,f,j⟩:=KZ y;have j:l={ w with heap:=w.heap.setIfInBounds x o }:=j;rw[j];exact b.set f
      ·cases e
     ·cases e
    ·rename_i e
     exact yP (q2x b e) w
  cases v<;>first | exact g | exact λh=>by cases h
 | new o k d=>intro w b h;exact d _ (b.push h.1) (h.2 _)
 | shape r k d=>intro w b h;exact d _ b (h _)
 | freeze a n k d=>intro w b h;exact d (w:=w.freeze a n) (b.freeze a n) h
 | frozen a k d=>intro w b h;exact d _ b (h _)
 | getObj r k d=>
  intro w b h;simp only[qjd];cases f:w.heap[r]? with
  | none=>exact λh=>by cases h
  | some o=>cases o<;>first | exact d _ b (h _) | exact λh=>by cases h
 | setObj r o k d=>
  intro w b h;simp only[qjd];cases f:w.heap[r]? with
  | none=>exact λh=>by cases h
  | some u=>cases u<;>first | exact d (b.set h.1) h.2 | exact λh=>by cases h
 | choose q k d=>
  intro w b h;simp only[qjd];split
  ·exact d _ b (h _)
  ·exact d _ (w:={ w with drawn:=w.drawn+1 }) b (h _)
 | sys c k d=>
  intro w b h;refine d _ (w:=(w.sys c).2) (λi o f=>b i o ?_) (h _)
  rwa [qah] at f
 | program k d=>intro w b h;exact d _ b h
 | mark m k d=>intro w b h;exact d b h
 | halt x=>intro w b h;exact yP h w
inductive q6G [JunkSet] {Y M:Type} (R:Rel Y M) (O:Ren):qme Y->qhr->qme M->qhr->Prop
 | ok {a:Y} {b:M} (wq w:qhr):R O a b->q6G R O (.ok a wq) wq (.ok b w) w
 | panic {v v':qhu} (wq w:qhr):VR O v v'->q6G R O (.halt (.panic v) wq) wq (.halt (.panic v') w) w
section
variable[JunkSet]{Q P:qhF}{base:Nat}
def WR.looked{Z:Ren}{d w:qhr}(h:WR Q base Z d w){a:qiG}{j:Nat}(n:BR Z a.block j){v:qhu}(b:d.cell? a=some v):¬ JunkSet.jk a.block:=by
 intro k;unfold qiq at b;split at b
 ·rename_i c e f l
  rcases h.obj _ _ _ n l with⟨_,g,_⟩ | ⟨i,_⟩
  ·cases g;split at b<;>simp at b
  ·exact i k
 ·cases b
def WR.cell{Z:Ren}{o w:qhr}(h:WR Q base Z o w){a:qiG}{j:Nat}(u:BR Z a.block j){v:qhu}(b:o.cell? a=some v) :∃d,w.cell? ⟨j,a.off,a.spot⟩=some d/\VR Z v d:=by
 unfold qiq at b;split at b
 ·rename_i c e f t
  split at b
  ·cases b
  ·rename_i q
   rcases h.obj _ _ _ u t with⟨_,s,_⟩ | ⟨_,x,l,r⟩
   ·cases s;simp at b
   ·cases r with
    | cells e n y=>
     have⟨d,k,g⟩:=n.get b;refine⟨d,?_,g⟩;unfold qiq;simp only[l];rw[if_neg q];exact k
 ·cases b
def WR.nopend{Z:Ren}{a w:qhr}(h:WR Q base Z a w):zU a:=λi o b=>by
 rcases h.gar i o b with⟨j,e⟩ | d
 ·rcases h.obj _ _ _ e b with⟨_,rfl,_⟩ | ⟨_,f,_,c⟩
  ·rfl
  ·cases c<;>rfl
 ·exact d
def WR.shape{Z:Ren}{b w:qhr}(h:WR Q base Z b w){i j:Nat}(n:BR Z i j):ShR Q i (b.shape? i) (w.shape? j):=by
 have p:i<b.heap.size:=by rw[<- h.len];exact n.lt
 have d:b.heap[i]?=some b.heap[i]:=qih p;rcases h.obj _ _ _ n d with⟨a,o,k,c,e,f,q⟩ | ⟨a,s,g,l⟩
 ·rw[o] at d;exact .inr ⟨a,k,by simp[qpA,d,qfw],e,c.size,by simp[qpA,q]⟩
 ·refine .inl ⟨a,?_⟩;unfold qpA;rw[d,g];generalize b.heap[i]=x at l;cases l with
  | cells e r t=>simp[r.1]
  | _=>rfl
def WR.noview{Z:Ren}{b w:qhr}(h:WR Q base Z b w){i j:Nat}(f:BR Z i j)(a:qiG)(t:qi4):b.heap[i]?≠some (.view a t):=by
 intro e;rcases h.obj _ _ _ f e with⟨_,d,_⟩ | ⟨_,g,_,c⟩
 ·cases d
 ·cases c
def WR.set{Z:Ren}{l w:qhr}(h:WR Q base Z l w){a:qiG}{j:Nat}(D:BR Z a.block j){u v t:qhu}(s:l.cell? a=some u)(hf:l.frozen? a=false)(hv:VR Z v t) :base<=a.block/\w.frozen? ⟨j,a.off,a.spot⟩=false/\WR Q base Z (l.setCell a v) (w.setCell ⟨j,a.off,a.spot⟩ t)/\Eff base Z Z w (w.setCell ⟨j,a.off,a.spot⟩ t):=by
 unfold qiq at s;split at s
 ·rename_i c e f d
  split at s
  ·cases s
  ·rename_i U
   have y:a.spot=none:=by
    cases hsp:a.spot with
    | none=>rfl
    | some _=>rw[hsp] at U;exact absurd rfl U
   have A:a.off<c.size:=(qhs.1 s).1;have q:base<=a.block:=by
    rcases qjy a.block base with N | N
    ·have⟨c',e',f',G,F⟩:=h.low _ N;rw[d] at G;cases G;have:=F _ A;simp[qlt,d,this.1,this.2] at hf
    ·exact N
   rcases h.obj _ _ _ D d with⟨_,hj,_⟩ | ⟨_,o',n,hr⟩
   ·cases hj;simp at A
   ·cases hr with
    | @cells _ c' _ _ f' T C=>
     have L:w.frozen? ⟨j,a.off,a.spot⟩=false:=by
      simp only[qlt,n];rw[qm2];intro b;simp only[qic,decide_eq_true_eq] at b;have:=C _ b.1 b.2;simp[qlt,d,this.1,this.2] at hf
     have hi:a.block<l.heap.size:=(qhs.1 d).1;have V:j<w.heap.size:=(qhs.1 n).1;have r:∀i:Nat,(l.setCell a v).heap[i]?=if i=a.block then some (.cells (c.setIfInBounds a.off v) e f) else l.heap[i]?:=by
      intro i;simp only[qk2,qmi];by_cases b:a.block=i
      ·subst b;simp[d,y]
      ·rw[if_neg b,if_neg (λx=>b x.symm)]
     have H:∀i:Nat,(w.setCell ⟨j,a.off,a.spot⟩ t).heap[i]?=if i=j then some (.cells (c'.setIfInBounds a.off t) e f') else w.heap[i]?:=by
      intro i;simp only[qk2,qmi];by_cases b:j=i
      ·subst b;simp[n,y]
      ·rw[if_neg b,if_neg (λx=>b x.symm)]
     refine⟨q,L,⟨by rw[h.len];simp[qk2],h.nodup,λi k I=>by have:=h.lt i k I;simpa[qk2] using this,λi k o g z=>?_,λi B=>?_,h.env,h.below,λi o p=>by
      rw[r] at p;by_cases b:i=a.block
      ·exact .inl ⟨j,b ▸ D⟩
      ·rw[if_neg b] at p;exact h.gar i o p⟩,⟨.refl Z,rfl,rfl,rfl,by simp[qk2],λk I hn=>?_,λi k g B=>absurd g.lt (by omega),λk G F=>by simp[qk2] at F;omega⟩⟩
     ·rw[r] at z;rw[H];by_cases b:i=a.block
      ·subst b;have:k=j:=g.fn D;subst this;rw[if_pos rfl] at z ⊢;cases z;exact .inr ⟨λI=>by have:=h.below _ I;omega,_,rfl,.cells e (T.set _ hv) C⟩
      ·have O:k≠j:=λx=>by
        subst x;exact b (g.inj h.nodup D)
       rw[if_neg b] at z;rw[if_neg O];exact h.obj i k o g z
     ·have⟨c1,e1,f1,G,F⟩:=h.low i B;refine⟨c1,e1,f1,?_,F⟩;rw[r,if_neg (by omega)];exact G
     ·rw[H];by_cases b:k=j
      ·subst b;have:=hn _ D;omega
      ·rw[if_neg b]
 ·cases s
def WR.setO{Z:Ren}{wq w:qhr}(h:WR Q base Z wq w){r j:Nat}(u:BR Z r j){o z y:Obj}(F:wq.heap[r]?=some y)(q:∀c e f,y≠.cells c e f)(H:ObR Z o z) :base<=r/\(∃a,w.heap[j]?=some a/\ObR Z y a)/\WR Q base Z { wq with heap:=wq.heap.setIfInBounds r o } { w with heap:=w.heap.setIfInBounds j z }/\Eff base Z Z w { w with heap:=w.heap.setIfInBounds j z }:=by
 have l:base<=r:=by
  rcases qjy r base with C | C
  ·have⟨c,e,f,v,_⟩:=h.low _ C;rw[F] at v;cases v;exact absurd rfl (q _ _ _)
  ·exact C
 have hrel:∃a,w.heap[j]?=some a/\ObR Z y a:=by
  rcases h.obj _ _ _ u F with⟨_,L,_⟩ | ⟨_,B⟩
  ·exact absurd L (q _ _ _)
  ·exact B
 obtain⟨a,p,B⟩:=hrel;have N:r<wq.heap.size:=(qhs.1 F).1;have s:j<w.heap.size:=(qhs.1 p).1;refine⟨l,⟨a,p,B⟩,⟨by rw[h.len];simp,h.nodup,λi k A=>by have:=h.lt i k A;simpa using this,λi k x b d=>?_,λi t=>?_,h.env,h.below,λi x g=>by
   rw[qiC] at g;by_cases n:r=i
   ·exact .inl ⟨j,n ▸ u⟩
   ·rw[if_neg n] at g;exact h.gar i x g⟩,⟨.refl Z,rfl,rfl,rfl,by simp,λk A I=>?_,λi k b t=>absurd b.lt (by omega),λk v G=>by simp at G;omega⟩⟩
 ·simp only[qiC] at d ⊢;by_cases n:r=i
  ·subst n;have:k=j:=b.fn u;subst this;rw[if_pos rfl,if_pos N] at d;cases d;refine .inr ⟨λA=>by have:=h.below _ A;omega,z,?_,H⟩;rw[if_pos rfl,if_pos s]
  ·have D:j≠k:=λx=>by
    subst x;exact n (u.inj h.nodup b)
   rw[if_neg n] at d;rw[if_neg D];exact h.obj i k x b d
 ·have⟨T,O,f1,v,G⟩:=h.low i t;refine⟨T,O,f1,?_,G⟩;simp only[qiC];rw[if_neg (by omega)];exact v
 ·simp only[qiC];by_cases d:j=k
  ·subst d;have:=I _ u;omega
  ·rw[if_neg d]
def WR.newO{Z:Ren}{wq w:qhr}(h:WR Q base Z wq w)(F:base<=Z.length){o p:Obj}(v:ObR Z o p) :WR Q base (Z++[some w.heap.size]) { wq with heap:=wq.heap.push o } { w with heap:=w.heap.push p }/\Eff base Z (Z++[some w.heap.size]) w { w with heap:=w.heap.push p }:=by
 have c:Le Z (Z++[some w.heap.size]):=.snoc _ _ λi f=>qna _ (h.lt i _ f);have b:∀{i j:Nat},BR (Z++[some w.heap.size]) i j->(i<Z.length/\BR Z i j)\/(i=Z.length/\j=w.heap.size):=by
  intro i j a;rcases a.snoc_cases with z | ⟨n,l⟩
  ·exact .inl z
  ·exact .inr ⟨n,(qkD l).symm⟩
 refine⟨⟨by simp[h.len],?_,λi j a=>?_,λi j x a g=>?_,λi f=>?_,h.env,h.below,λi o f=>?_⟩,⟨c,rfl,rfl,rfl,by simp,λj r D=>?_,λi j a f=>?_,λj n l=>?_⟩⟩
 ·exact c.2 h.nodup
 ·rcases b a with⟨q,d⟩ | ⟨rfl,rfl⟩
  ·have:=h.lt i j d;simp;omega
  ·simp
 ·simp only[qm4] at g ⊢;rcases b a with⟨q,d⟩ | ⟨rfl,rfl⟩
  ·have n:=h.lt i j d;rw[if_neg (by have:=h.len;omega)] at g;rw[if_neg (by omega)];rcases h.obj i j x d g with⟨k,rfl,A⟩ | ⟨k,y,s,t⟩
   ·exact .inl ⟨k,rfl,A⟩
   ·exact .inr ⟨k,y,s,t.mono c⟩
  ·rw[if_pos h.len] at g;cases g;exact .inr ⟨λk=>by have:=h.below _ k;omega,p,by simp,v.mono c⟩
 ·have⟨C,B,f1,n,l⟩:=h.low i f;refine⟨C,B,f1,?_,l⟩;simp only[qm4];have:=h.len;rw[if_neg (by omega)];exact n
 ·simp only[qm4] at f;split at f
  ·rename_i e
   exact .inl ⟨w.heap.size,by rw[e,<- h.len];exact BR.new _ _⟩
  ·rcases h.gar i o f with⟨j,r⟩ | u
   ·exact .inl ⟨j,r.mono c⟩
   ·exact .inr u
 ·simp only[qm4];rw[if_neg (by omega)]
 ·rcases b a with⟨q,_⟩ | ⟨_,rfl⟩
  ·omega
  ·exact qhv _
 ·simp at l;have:j=w.heap.size:=by omega
  subst this;exact⟨Z.length,qhv _,BR.new _ _⟩
def WR.draw{Z:Ren}{wq w:qhr}(h:WR Q base Z wq w):WR Q base Z { wq with drawn:=wq.drawn+1 } { w with drawn:=w.drawn+1 }/\Eff base Z Z w { w with drawn:=w.drawn+1 } :=
 ⟨⟨h.len,h.nodup,h.lt,h.obj,h.low,h.env,h.below,h.gar⟩,⟨.refl Z,rfl,rfl,rfl,qhv _,λ_ _ _=>rfl,λi k a b=>absurd a.lt (by omega),λk d c=>by simp at c;omega⟩⟩
omit [JunkSet] in
def zF.draw{D:Nat}{wq w:qhr}(h:zF D wq w):zF D { wq with drawn:=wq.drawn+1 } { w with drawn:=w.drawn+1 }:=λn q a=>by
 have:=h (n+1) q (by simp only at a;omega);simpa[qnb,Nat.add_comm 1 n] using this
omit [JunkSet] in
def zF.heap{D:Nat}{b w a c:qhr}(h:zF D b w)(i:a.tape=b.tape)(d:a.drawn=b.drawn)(g:c.tape=w.tape)(f:c.drawn=w.drawn):zF D a c:=λn q e=>by
 rw[i,d,g,f];exact h n q (by rw[<- d];exact e)
def yE{Y:Type}{p:qhF}{r:Nat}{k:Obj->Sem Y}{w:qhr}{o:Obj}(h:w.heap[r]?=some o)(a:∀c e f,o≠.cells c e f):(Sem.getObj r k).run p w=(k o).run p w:=by
 rw[qjd,h];cases o<;>first | exact absurd rfl (a _ _ _) | rfl
def q3G{Y:Type}{p:qhF}{r:Nat}{k:Obj->Sem Y}{w:qhr}{o:Obj}(a:Array qjk)(h:w.heap[r]?=some o)(b:∀c e f,o≠.cells c e f):(Sem.getObj r k).runT p w a=(k o).runT p w (a.push ⟨.obj r,false,o.isChan⟩):=by
 rw[qmx,h];cases o<;>first | exact absurd rfl (b _ _ _) | rfl
def yD{Y:Type}{p:qhF}{r:Nat}{x:Obj}{k:Sem Y}{w:qhr}{o:Obj}(h:w.heap[r]?=some o)(a:∀c e f,o≠.cells c e f):(qrH r x k).run p w=k.run p { w with heap:=w.heap.setIfInBounds r x }:=by
 rw[qjd,h];cases o<;>first | exact absurd rfl (a _ _ _) | rfl
def q3F{Y:Type}{p:qhF}{r:Nat}{x:Obj}{k:Sem Y}{w:qhr}{o:Obj}(a:Array qjk)(h:w.heap[r]?=some o)(b:∀c e f,o≠.cells c e f):(qrH r x k).runT p w a=k.runT p { w with heap:=w.heap.setIfInBounds r x } (a.push ⟨.obj r,true,x.isChan⟩):=by
 rw[qmx,h];cases o<;>first | exact absurd rfl (b _ _ _) | rfl
def SR.runs{Y M:Type}{R:Rel Y M}{s:Sem Y}{D:Nat}:∀{Z:Ren} {s':Sem M} {A w:qhr} (es:Array qjk),SR Q P R s Z s'->base<=Z.length->WR Q base Z A w->zF D A w->(rwR (s.run Q A)).drawn<=D->xj (s.run Q A) ->∃O p G t,q6G R O (s.run Q A) p (s'.run P w) G/\(s'.runT P w es).2=es++t/\(∀e∈t,kY base O e)/\WR Q base O p G/\zF D p G/\Eff base Z O w G/\p.drawn+w.drawn=A.drawn+G.drawn:=by
 induction s with
 | pure a=>
  intro Z s' A w es h F l H _ _;obtain⟨b,rfl,hr⟩:=h;exact⟨Z,A,w,#[],.ok A w hr,by simp[qmx],by simp,l,H,.refl base w,rfl⟩
 | load m a k ih=>
  intro Z s' A w es h F l H z d;rcases h with g | ⟨rfl,j,k',rfl,B,T⟩
  ·exact absurd d (Bad.not_fine l.nopend g)
  simp only[qjd] at z d ⊢;cases hc:A.cell? a with
  | none=>
   rw[hc] at d;simp only[qqw] at d;split at d
   ·rename_i hv
    split at hv
    ·rename_i U
     exact absurd U (l.noview B _ _)
    ·cases hv
   ·rename_i hv
    split at hv
    ·rename_i U
     exact absurd U (l.noview B _ _)
    ·cases hv;exact absurd d (jS l.nopend _ _ _)
  | some v=>
   have⟨v',U,hr⟩:=l.cell B hc;rw[hc] at z d;simp only[U] at z d ⊢;have⟨O,p,G,t,L,h2,h3,h4,h5,I,h7⟩:=ih v (es.push ⟨.cell ⟨j,a.off,a.spot⟩,false,false⟩) (T v v' hr) F l H z d;refine⟨O,p,G,#[⟨.cell ⟨j,a.off,a.spot⟩,false,false⟩]++t,L,?_,?_,h4,h5,I,h7⟩
   ·simp only[qmx,U];rw[show((Mode.plain == Mode.atomic)=false) from rfl,h2];simp
   ·intro e y;rw[ql9] at y;rcases y with y | y
    ·simp at y;subst y;exact .cell _ _ _ (B.mono I.le) (l.looked B hc) (by simp)
    ·exact h3 e y
 | store m a v k ih=>
  intro Z s' A w es h F l H z d;rcases h with g | ⟨rfl,j,v',k',rfl,B,hv,T⟩
  ·exact absurd d (Bad.not_fine l.nopend (s:=.store m a v k) g)
  have e7:(∃x,v=.agg x)\/(∃x,v=.tuple x)\/((∀x,v≠.agg x)/\∀x,v≠.tuple x):=by
   cases v<;>simp
  rcases e7 with⟨x,rfl⟩ | ⟨x,rfl⟩ | ⟨g7,g6⟩
  ·simp only[qjd] at d;exact absurd d (λh=>by cases h)
  ·simp only[qjd] at d;exact absurd d (λh=>by cases h)
  ·have e5:∀x,v'≠.agg x:=λx e=>by subst e;cases hv<;>first | exact g7 _ rfl | (rename_i h;cases h)
   have e4:∀x,v'≠.tuple x:=λx e=>by subst e;cases hv<;>first | exact g6 _ rfl | (rename_i h;cases h)
   have e1:(qrn .plain a v k).run Q A=match A.cell? a with
     | some _=>if A.frozen? a then .halt (.unsupported (.unsafePointer "a write to bytes that a string shares")) A else k.run Q (A.setCell a v)
     | none=>match A.farStore Q a v false with
      | .ok (w,_)=>k.run Q w
      | .error h=>.halt h A:=by
    cases v<;>first | rfl | exact absurd rfl (g7 _) | exact absurd rfl (g6 _)
   have e2:(qrn .plain (⟨j,a.off,a.spot⟩:qiG) v' k').run P w=match w.cell? ⟨j,a.off,a.spot⟩ with
     | some _=>if w.frozen? ⟨j,a.off,a.spot⟩ then .halt (.unsupported (.unsafePointer "a write to bytes that a string shares")) w else k'.run P (w.setCell ⟨j,a.off,a.spot⟩ v')
     | none=>match w.farStore P ⟨j,a.off,a.spot⟩ v' false with
      | .ok (w,_)=>k'.run P w
      | .error h=>.halt h w:=by
    cases v'<;>first | rfl | exact absurd rfl (e5 _) | exact absurd rfl (e4 _)
   have e3:((qrn .plain (⟨j,a.off,a.spot⟩:qiG) v' k').runT P w es).2=(match w.cell? ⟨j,a.off,a.spot⟩ with
     | some _=>if w.frozen? ⟨j,a.off,a.spot⟩ then((Result.halt (.unsupported (.unsafePointer "a write to bytes that a string shares")) w:qme M),es) else k'.runT P (w.setCell ⟨j,a.off,a.spot⟩ v') (es.push ⟨.cell ⟨j,a.off,a.spot⟩,true,false⟩)
     | none=>match w.farStore P ⟨j,a.off,a.spot⟩ v' false with
      | .ok (w,d7)=>k'.runT P w (es++d7.toArray.map λx=>(⟨.cell x,true,false⟩:qjk))
      | .error h=>((Result.halt h w:qme M),es)).2:=by
    cases v'<;>first | rfl | exact absurd rfl (e5 _) | exact absurd rfl (e4 _)
   rw[e1] at z d ⊢;rw[e2,e3];cases hc:A.cell? a with
   | none=>
    rw[hc] at d;simp only[qnl] at d;split at d
    ·rename_i hv
     split at hv
     ·rename_i U
      exact absurd U (l.noview B _ _)
     ·cases hv
    ·rename_i hv
     split at hv
     ·rename_i U
      exact absurd U (l.noview B _ _)
     ·cases hv;exact absurd d (jS l.nopend _ _ _)
   | some u=>
    have⟨u',k0,_⟩:=l.cell B hc;rw[hc] at z d;simp only[k0] at z d ⊢;cases hfz:A.frozen? a with
    | true=>
     rw[hfz] at d;exact absurd d (λh=>by cases h)
    | false=>
     have⟨N,g9,c8,c9⟩:=l.set B hc hfz hv;rw[hfz] at z d;simp only[g9,qiv,if_false] at z d ⊢;have⟨O,p,G,t,L,h2,h3,h4,h5,I,h7⟩:=ih (es.push ⟨.cell ⟨j,a.off,a.spot⟩,true,false⟩) T F c8 (H.heap rfl rfl rfl rfl) z d;refine⟨O,p,G,#[⟨.cell ⟨j,a.off,a.spot⟩,true,false⟩]++t,L,by rw[h2];simp,?_,h4,h5,c9.trans F I,h7⟩;intro e y;rw[ql9] at y;rcases y with y | y
     ·simp at y;subst y;exact .cell _ _ _ (B.mono I.le) (λT=>absurd (l.below _ T) (by omega)) (λ_=>N)
     ·exact h3 e y
 | new o k ih=>
  intro Z s' A w es h F l H z d;rcases h with g | ⟨o',k',rfl,ho,T⟩
  ·exact absurd d (Bad.not_fine l.nopend (s:=.new o k) g)
  simp only[qjd] at z d ⊢;have⟨c8,c9⟩:=l.newO F ho;have g8:=T w.heap.size (λi hi=>qna _ (l.lt i _ hi));rw[l.len] at g8;have⟨O,p,G,t,L,h2,h3,h4,h5,I,h7⟩:=ih _ es g8 (by simp;omega) c8 (H.heap rfl rfl rfl rfl) z d;exact⟨O,p,G,t,L,by simp only[qmx];exact h2,h3,h4,h5,c9.trans F I,by simp only at h7;omega⟩
 | shape r k ih=>
  intro Z s' A w es h F l H z d;rcases h with g | ⟨j,k',rfl,B,T⟩
  ·exact absurd d (Bad.not_fine l.nopend (s:=.shape r k) g)
  simp only[qjd] at z d ⊢;have⟨O,p,G,t,L,h2,h3,h4,h5,I,h7⟩:=ih _ es (T _ _ (l.shape B)) F l H z d;exact⟨O,p,G,t,L,by simp only[qmx];exact h2,h3,h4,h5,I,h7⟩
 | freeze a n k _=>intro Z s' A w es h F l H z d;exact absurd d (Bad.not_fine l.nopend (s:=.freeze a n k) h)
 | frozen a k _=>intro Z s' A w es h F l H z d;exact absurd d (Bad.not_fine l.nopend (s:=.frozen a k) h)
 | getObj r k ih=>
  intro Z s' A w es h F l H z d;rcases h with g | ⟨j,k',rfl,B,T⟩
  ·exact absurd d (Bad.not_fine l.nopend (s:=.getObj r k) g)
  cases ho:A.heap[r]? with
  | none=>simp only[qjd,ho] at d;exact absurd d (λh=>by cases h)
  | some o=>
   by_cases C:∃c e f,o=.cells c e f
   ·obtain⟨c,e,f,rfl⟩:=C;simp only[qjd,ho] at d;exact absurd d (λh=>by cases h)
   ·have V:∀c e f,o≠.cells c e f:=λc e f x=>C ⟨c,e,f,x⟩;have N:base<=r:=by
     rcases qjy r base with hl | hl
     ·have⟨c,e,f,L,_⟩:=l.low _ hl;rw[ho] at L;cases L;exact absurd rfl (V _ _ _)
     ·exact hl
    rcases l.obj _ _ _ B ho with⟨_,hj,_⟩ | ⟨_,o',g5,hr⟩
    ·exact absurd hj (V _ _ _)
    ·have b9:∀c e f,o'≠.cells c e f:=λc e f x=>by subst x;cases hr;exact V _ _ _ rfl
     have e6:o'.isChan=false:=by cases hr<;>rfl
     rw[yE ho V] at z d;rw[yE ho V,yE g5 b9,q3G es g5 b9,e6];have⟨O,p,G,t,L,h2,h3,h4,h5,I,h7⟩:=ih o (es.push ⟨.obj j,false,false⟩) (T _ _ hr) F l H z d;refine⟨O,p,G,#[⟨.obj j,false,false⟩]++t,L,by rw[h2];simp,?_,h4,h5,I,h7⟩;intro e y;rw[ql9] at y;rcases y with y | y
     ·simp at y;subst y;exact .obj _ (B.mono I.le) N
     ·exact h3 e y
 | setObj r o k ih=>
  intro Z s' A w es h F l H z d;rcases h with g | ⟨j,o',k',rfl,B,e9,T⟩
  ·exact absurd d (Bad.not_fine l.nopend (s:=.setObj r o k) g)
  cases ho:A.heap[r]? with
  | none=>simp only[qjd,ho] at d;exact absurd d (λh=>by cases h)
  | some ob=>
   by_cases C:∃c e f,ob=.cells c e f
   ·obtain⟨c,e,f,rfl⟩:=C;simp only[qjd,ho] at d;exact absurd d (λh=>by cases h)
   ·have V:∀c e f,ob≠.cells c e f:=λc e f x=>C ⟨c,e,f,x⟩;have⟨N,⟨h9,d9,hr⟩,c8,c9⟩:=l.setO B ho V e9;have b9:∀c e f,h9≠.cells c e f:=λc e f x=>by subst x;cases hr;exact V _ _ _ rfl
    have e6:o'.isChan=false:=by cases e9<;>rfl
    rw[yD ho V] at z d;rw[yD ho V,yD d9 b9,q3F es d9 b9,e6];have⟨O,p,G,t,L,h2,h3,h4,h5,I,h7⟩:=ih (es.push ⟨.obj j,true,false⟩) T F c8 (H.heap rfl rfl rfl rfl) z d;refine⟨O,p,G,#[⟨.obj j,true,false⟩]++t,L,by rw[h2];simp,?_,h4,h5,c9.trans F I,h7⟩;intro e y;rw[ql9] at y;rcases y with y | y
    ·simp at y;subst y;exact .obj _ (B.mono I.le) N
    ·exact h3 e y
 | choose q k ih=>
  intro Z s' A w es h F l H z d;rcases h with g | ⟨k',rfl,T⟩
  ·exact absurd d (Bad.not_fine l.nopend (s:=.choose q k) g)
  simp only[qjd] at z d ⊢;cases hq:q.forced with
  | true=>
   rw[hq] at z d;simp only[if_true] at z d ⊢;have⟨O,p,G,t,L,h2,h3,h4,h5,I,h7⟩:=ih _ es (T _) F l H z d;exact⟨O,p,G,t,L,by simp only[qmx,hq,if_true];exact h2,h3,h4,h5,I,h7⟩
  | false=>
   rw[hq] at z d;simp only[qiv,if_false] at z d ⊢;have k5:A.tape A.drawn q=w.tape w.drawn q:=by
    have:=qhB (vS Q _ _) z;simpa using H 0 q (by simp only at this;omega)
   have⟨c8,c9⟩:=l.draw;rw[k5] at z d ⊢;have⟨O,p,G,t,L,h2,h3,h4,h5,I,h7⟩:=ih _ es (T _) F c8 H.draw z d;exact⟨O,p,G,t,L,by simp only[qmx,hq,qiv,if_false];exact h2,h3,h4,h5,c9.trans F I,by simp only at h7;omega⟩
 | sys c k ih=>
  intro Z s' A w es h F l H z d;rcases h with g | ⟨rfl,k',rfl,T⟩
  ·exact absurd d (Bad.not_fine l.nopend (s:=.sys c k) g)
  have e1:∀u:qhr,u.sys .env=(.strings u.os.env,u):=λu=>rfl;simp only[qjd,e1] at z d ⊢;rw[l.env] at z d ⊢;have⟨O,p,G,t,L,h2,h3,h4,h5,I,h7⟩:=ih _ (es.push ⟨.output,true,false⟩) (T _) F l H z d;refine⟨O,p,G,#[⟨.output,true,false⟩]++t,L,by simp only[qmx,e1];rw[h2];simp,?_,h4,h5,I,h7⟩;intro e y;rw[ql9] at y;rcases y with y | y
  ·simp at y;subst y;exact .env
  ·exact h3 e y
 | program k ih=>
  intro Z s' A w es h F l H z d;rcases h with g | ⟨k',rfl,T⟩
  ·exact absurd d (Bad.not_fine l.nopend (s:=.program k) g)
  simp only[qjd] at z d ⊢;have⟨O,p,G,t,L,h2,h3,h4,h5,I,h7⟩:=ih _ es T F l H z d;exact⟨O,p,G,t,L,by simp only[qmx];exact h2,h3,h4,h5,I,h7⟩
 | mark m k ih=>
  intro Z s' A w es h F l H z d;rcases h with g | ⟨rfl,k',rfl,T⟩
  ·exact absurd d (Bad.not_fine l.nopend (s:=.mark m k) g)
  simp only[qjd] at z d ⊢;have⟨O,p,G,t,L,h2,h3,h4,h5,I,h7⟩:=ih (es.push ⟨.mark .noRoom,false,true⟩) T F l H z d;refine⟨O,p,G,#[⟨.mark .noRoom,false,true⟩]++t,L,by simp only[qmx];rw[h2];simp,?_,h4,h5,I,h7⟩;intro e y;rw[ql9] at y;rcases y with y | y
  ·simp at y;subst y;exact .noRoom
  ·exact h3 e y
 | halt x=>
  intro Z s' A w es h F l H z d;cases x with
  | panic v=>
   obtain⟨v',rfl,hv⟩:=h;exact⟨Z,A,w,#[],.panic A w hv,by simp[qmx],by simp,l,H,.refl base w,rfl⟩
  | _=>exact absurd d (yP h A)
end
end
section
def EqR{Y:Type}:Rel Y Y:=λ_ a b=>b=a
def Gl(P:qhF)(Z:Ren):Prop:=∀i,i<=P.globals.size->BR Z i i
def Gl.mono{P:qhF}{Z O:Ren}(l:Le Z O)(h:Gl P Z):Gl P O:=λi a=>(h i a).mono l
section
variable[JunkSet]{Q P:qhF}{Y M W X:Type}{R:Rel Y M}{S:Rel W X}{Z:Ren}
def qf{a:Y}{b:M}(h:R Z a b):SR Q P R (pure a) Z (pure b):=⟨b,rfl,h⟩
def SR.bnd{s:Sem Y}{c:Sem M}{f:Y->Sem W}{f':M->Sem X}(h:SR Q P R s Z c)(d:∀O a b,Le Z O->R O a b->SR Q P S (f a) O (f' b)) :SR Q P S (s>>=f) Z (c>>=f'):=SR.bind h d
def SR.bndE{s c:Sem Y}{f:Y->Sem W}{f':Y->Sem X}(h:SR Q P EqR s Z c)(d:∀O a,Le Z O->SR Q P S (f a) O (f' a)) :SR Q P S (s>>=f) Z (c>>=f'):=SR.bind h λO a b l e=>by cases e;exact d O a l
def qj{w:String}{a:Sem M}:SR Q P R (stuck w) Z a:=rfl
def qu{w:Unsupported}{a:Sem M}(h:odd (.unsupported w)=false:=by rfl):SR Q P R (unsupported w) Z a:=by
 cases w<;>first | rfl | cases h
def zv{w:String}{f:Y->Sem W}{a:Sem X}:SR Q P S ((stuck w:Sem Y)>>=f) Z a:=rfl
def jd{w:Unsupported}{f:Y->Sem W}{a:Sem X}(h:odd (.unsupported w)=false:=by rfl):SR Q P S ((unsupported w:Sem Y)>>=f) Z a:=by
 cases w<;>first | rfl | cases h
def qat{w:String}{a:Sem M}:SR Q P R (throw w) Z a:=rfl
def zK{f:qhF->Sem Y}{a:qhF->Sem M}(h:SR Q P R (f Q) Z (a P)):SR Q P R (program>>=f) Z (program>>=a):=.inr ⟨_,rfl,h⟩
def q3w{a:Y}{f:Y->Sem W}{b:Sem X}(h:SR Q P S (f a) Z b):SR Q P S (pure a>>=f) Z b:=h
def vP{q:qk5}:SR Q P EqR (choose q) Z (choose q):=.inr ⟨_,rfl,λn=>⟨n,rfl,rfl⟩⟩
def qaw{f:Y->W}{s b:Sem Y}(h:SR Q P EqR s Z b):SR Q P EqR (Functor.map f s) Z (Functor.map f b):=SR.bndE (S:=EqR) (f:=λx=>pure (f x)) (f':=λx=>pure (f x)) h λO a _=>qf rfl
def q2f{f:Y->Sem W}{c:Y->Sem W}(h:∀O a,SR Q P EqR (f a) O (c a)):∀(l:List Y) (Z:Ren),SR Q P EqR (l.mapM f) Z (l.mapM c):=by
 intro l;induction l with
 | nil=>intro Z;exact qf rfl
 | cons a l d=>
  intro Z;rw[qoe,qoe];exact .bndE (h Z a) λO b _=>.bndE (d O) λV e _=>qf rfl
def qdd{f:Y->Sem W}{c:Y->Sem W}(h:∀O a,SR Q P EqR (f a) O (c a)){b:Array Y}:SR Q P EqR (b.mapM f) Z (b.mapM c):=by
 rw[qlw,qlw];exact qaw (q2f h b.toList Z)
def q79{i j:Nat}{b:Nat}{a:Option Nat}(h:BR Z i j):SR Q P VR (load ⟨i,b,a⟩) Z (load ⟨j,b,a⟩):=.inr ⟨rfl,j,_,rfl,h,λv c d=>⟨c,rfl,d⟩⟩
def qau{i j:Nat}{b:Nat}{a:Option Nat}{v c:qhu}(h:BR Z i j)(d:VR Z v c):SR Q P (λ_ _ _=>True) (store ⟨i,b,a⟩ v) Z (store ⟨j,b,a⟩ c):=.inr ⟨rfl,j,c,_,rfl,h,d,(),rfl,trivial⟩
def YL{o a:Obj}(h:ObR Z o a):SR Q P BR (newObj o) Z (newObj a):=.inr ⟨a,_,rfl,h,λj _=>⟨j,rfl,BR.new Z j⟩⟩
def Qg{i j:Nat}(h:BR Z i j):SR Q P (λ_=>ShR Q i) (shape i) Z (shape j):=.inr ⟨j,_,rfl,h,λx a b=>⟨a,rfl,b⟩⟩
def jP{i j:Nat}(h:BR Z i j):SR Q P ObR (getObj i) Z (getObj j):=.inr ⟨j,_,rfl,h,λo a b=>⟨a,rfl,b⟩⟩
def jO{i j:Nat}{o a:Obj}(h:BR Z i j)(b:ObR Z o a):SR Q P (λ_ _ _=>True) (setObj i o) Z (setObj j a):=.inr ⟨j,a,_,rfl,h,b,(),rfl,trivial⟩
def ye{v a:qhu}(h:VR Z v a):SR Q P R (goPanic v) Z (goPanic a):=⟨a,rfl,h⟩
def qF{c:Prop}[Decidable c]{a b:Sem Y}{e d:Sem M}(g:c->SR Q P R a Z e)(f:¬ c->SR Q P R b Z d):SR Q P R (if c then a else b) Z (if c then e else d):=by
 by_cases h:c
 ·rw[if_pos h,if_pos h];exact g h
 ·rw[if_neg h,if_neg h];exact f h
end
section
variable[JunkSet]{Q P:qhF}(hT:P.toTables=Q.toTables){Z:Ren}{Y M:Type}{R:Rel Y M}
include hT
theorem Ys(t:qi4):P.info? t=Q.info? t:=by rw[hT]
theorem kB(t:qi4):P.underlying t=Q.underlying t:=by unfold Program.underlying;rw[hT]
theorem zu(t:qi4):SR Q P EqR (qlx t) Z (qlx t):=by
 refine zK ?_;rw[Ys hT];cases Q.info? t with
 | some i=>exact qf rfl
 | none=>exact qj
theorem qD(t:qi4):SR Q P EqR (qle t) Z (qle t):=by
 refine zK ?_;rw[kB hT];cases Q.underlying t with
 | some i=>exact qf rfl
 | none=>exact qj
theorem qV(t:qi4):SR Q P EqR (sizeOf t) Z (sizeOf t):=.bndE (zu hT t) λO i _=>qf rfl
theorem q3z(t:qi4):SR Q P EqR (isAgg t) Z (isAgg t):=.bndE (qD hT t) λO i _=>by
 cases i<;>exact qf rfl
def kZ(P:qhF)(t:qi4):Bool :=
 match (P.info? t).bind (·.zero) with
 | some v=>qcq v
 | none=>true
omit hT in
theorem q3u{i:qlD}(h:∀v,i.zero=some v->vE v):SR Q P VR (match i.zero with
  | some v=>pure v
  | none=>unsupported (.resourceLimit "a value of more than 2^22 cells")) Z (match i.zero with
  | some v=>pure v
  | none=>unsupported (.resourceLimit "a value of more than 2^22 cells")):=by
 cases hz:i.zero with
 | some v=>exact qf ((h v hz).vr _)
 | none=>exact qu
theorem xq(t:qi4):SR Q P (λ_ a b=>b=a/\Q.info? t=some a) (qlx t) Z (qlx t):=by
 refine zK ?_;rw[Ys hT];cases Q.info? t with
 | some i=>exact qf ⟨rfl,rfl⟩
 | none=>exact qj
theorem zq{t:qi4}(h:kZ Q t=true):SR Q P VR (qmy t) Z (qmy t):=by
 refine .bnd (xq hT t) λO i c l a=>?_;obtain⟨rfl,a⟩:=a;refine q3u λv b=>?_;unfold kZ at h;rw[a] at h;simp only[qnw,b] at h;exact q32 h
omit hT in
theorem VR.cells{v f:qhu}(h:VR Z v f):AsR Z v.cells f.cells:=by
 cases h with
 | agg j i=>exact⟨j,i⟩
 | bool b=>exact .one (.bool b)
 | int k n=>exact .one (.int k n)
 | string s=>exact .one (.string s)
 | ptrNil=>exact .one .ptrNil
 | ptr o s h=>exact .one (.ptr o s h)
 | sliceNil a b=>exact .one (.sliceNil a b)
 | slice o s a b h=>exact .one (.slice o s a b h)
 | mapNil=>exact .one .mapNil
 | map h=>exact .one (.map h)
 | func a b c d e=>exact .one (.func a b c d e)
 | nilFunc=>exact .one .nilFunc
 | iface t h=>exact .one (.iface t h)
 | nilIface=>exact .one .nilIface
 | tuple j i=>exact .one (.tuple j i)
 | meth n a c=>exact .one (.meth n a c)
 | wild _ h=>
  have e:f.cells=#[f]:=by cases f<;>first | rfl | (cases h;done)
  rw[e];exact .one (.wild _ h)
omit hT in
theorem AsR.agg{a b:Array qhu}(h:AsR Z a b):VR Z (.agg a) (.agg b):=.agg h.1 h.2
omit hT in
theorem AsR.tuple{a b:Array qhu}(h:AsR Z a b):VR Z (.tuple a) (.tuple b):=.tuple h.1 h.2
omit hT in
theorem addr_add(i j b n:Nat)(a:Option Nat):∃o s,(⟨i,b,a⟩:qiG).add n=⟨i,o,s⟩/\(⟨j,b,a⟩:qiG).add n=⟨j,o,s⟩:=by
 unfold Addr.add;split
 ·exact⟨b,a,rfl,rfl⟩
 ·exact⟨b+n,none,rfl,rfl⟩
omit hT in
theorem Jh{i j:Nat}{c:Nat}{a:Option Nat}(n:Nat):∀{Z:Ren} (k:Nat) (d b:Array qhu),BR Z i j->AsR Z d b ->SR Q P AsR (qoD ⟨i,c,a⟩ k n d) Z (qoD ⟨j,c,a⟩ k n b):=by
 induction n with
 | zero=>intro Z k d b h e;exact qf e
 | succ n f=>
  intro Z k d b h e;have⟨o,s,q,p⟩:=addr_add i j c k a;show SR Q P AsR (load ((⟨i,c,a⟩:qiG).add k)>>=λv=>qoD ⟨i,c,a⟩ (k+1) n (d.push v)) Z (load ((⟨j,c,a⟩:qiG).add k)>>=λv=>qoD ⟨j,c,a⟩ (k+1) n (b.push v));rw[q,p];exact .bnd (q79 h) λO v r l g=>f (k+1) _ _ (h.mono l) ((e.mono l).push g)
omit hT in
theorem ZF{i j:Nat}{b:Nat}{a:Option Nat}(n:Nat)(h:BR Z i j):SR Q P AsR (loadCells ⟨i,b,a⟩ n) Z (loadCells ⟨j,b,a⟩ n):=Jh n 0 _ _ h .nil
omit hT in
theorem jG{i j:Nat}{b:Nat}{a:Option Nat}{d c:List qhu}(g:LsR (VR Z) d c):∀(k:Nat),BR Z i j ->SR Q P (λ_ _ _=>True) (storeCells ⟨i,b,a⟩ d k) Z (storeCells ⟨j,b,a⟩ c k):=by
 have n:∀(d c:List qhu) (Z:Ren) (k:Nat),LsR (VR Z) d c->BR Z i j->SR Q P (λ_ _ _=>True) (storeCells ⟨i,b,a⟩ d k) Z (storeCells ⟨j,b,a⟩ c k):=by
  intro d;induction d with
  | nil=>intro c Z k h e;cases h;exact qf trivial
  | cons v l q=>
   intro c Z k h e;cases h with
   | @cons _ p _ f g r=>
    have⟨o,s,u,t⟩:=addr_add i j b k a;show SR Q P _ (store ((⟨i,b,a⟩:qiG).add k) v>>=λ_=>storeCells ⟨i,b,a⟩ l (k+1)) Z (store ((⟨j,b,a⟩:qiG).add k) p>>=λ_=>storeCells ⟨j,b,a⟩ f (k+1));rw[u,t];exact .bnd (qau e g) λO _ _ f _=>q _ O (k+1) (r.imp λ_ _ x=>x.mono f) (e.mono f)
 exact λk e=>n d c Z k g e
theorem YM{t:qi4}{i j:Nat}{d:Nat}{c:Option Nat}(h:BR Z i j):SR Q P VR (qra t ⟨i,d,c⟩) Z (qra t ⟨j,d,c⟩):=by
 refine .bndE (q3z hT t) λO b l=>?_;cases b with
 | true=>exact .bndE (qV hT t) λV n g=>.bnd (ZF n (h.mono (l.trans g))) λU a b _ e=>qf e.agg
 | false=>exact q79 (h.mono l)
theorem q3v{t:qi4}{i j:Nat}{b:Nat}{a:Option Nat}{v c:qhu}(h:BR Z i j)(d:VR Z v c) :SR Q P (λ_ _ _=>True) (storeVar t ⟨i,b,a⟩ v) Z (storeVar t ⟨j,b,a⟩ c):=by
 refine .bndE (qV hT t) λO n l=>?_;dsimp only;rw[<- (d.mono l).cells.1];split
 ·exact zv
 ·refine q3w ?_;exact jG (zm.1 (d.mono l).cells) 0 (h.mono l)
omit hT in
theorem vN{e:qi4}{c d:Array qhu}(h:AsR Z c d):SR Q P (λO a b=>∃i j,a=⟨i,0,none⟩/\b=⟨j,0,none⟩/\BR O i j) (newRow e c) Z (newRow e d) :=
 .bnd (YL (.cells e h λo k g=>absurd g (by simp))) λO i j l f=>qf ⟨i,j,rfl,rfl,f⟩
omit hT in
theorem QF{e:qi4}{v c:qhu}(h:VR Z v c):SR Q P (λO a b=>∃i j,a=⟨i,0,none⟩/\b=⟨j,0,none⟩/\BR O i j) (newVar e v) Z (newVar e c):=vN h.cells
theorem q12(t:qi4):SR Q P EqR (elemOf t) Z (elemOf t):=.bndE (qD hT t) λO d _=>by
 cases d with
 | pointer e=>exact qf rfl
 | _=>exact qj
theorem jJ{t:qi4}{c e:Array qhu}(h:AsR Z c e)(a:Nat):SR Q P VR (part t c a) Z (part t e a):=by
 refine .bndE (q3z hT t) λO b l=>?_;cases b with
 | true=>exact .bndE (qV hT t) λV n f=>qf (((h.mono (l.trans f)).extract _ _).agg)
 | false=>
  simp only[qiv,if_false];cases hc:c[a]? with
  | some v=>
   have⟨i,d,g⟩:=h.get hc;simp only[d];exact qf (g.mono l)
  | none=>exact qj
theorem qy(p:Gl P Z)(e:RuntimeError):SR Q P R (qlm e) Z (qlm e):=by
 have d:P.rt=Q.rt:=by rw[hT]
 refine zK ?_;dsimp only;rw[d];have k:∀(O:Ren) (l:Le Z O) (t:qi4),VR O (qpB Q t) (qpB P t):=λO l t=>by
  unfold qpB;have:P.globals.size=Q.globals.size:=by rw[hT]
  rw[<- this];exact .ptr _ _ ((p _ (qhv _)).mono l)
 cases e with
 | bounds x y s c=>exact ye (vE.vr _ (q32 rfl) |> λh=>.iface _ h)
 | error m=>exact ye (.iface _ (.string _))
 | plain m=>exact ye (.iface _ (.string _))
 | nilDeref=>exact ye (.iface _ (.string _))
 | typeAssertion i c a m=>
  refine .bndE (q12 hT _) λO q l=>.bnd (QF (AsR.agg ?_)) λV x y n b=>?_
  ·have f:∀o:Option qi4,VR O (match o with | some t=>qpB Q t | none=>.pointer none) (match o with | some t=>qpB P t | none=>.pointer none):=λo=>by
    cases o with
    | none=>exact .ptrNil
    | some t=>exact k O l t
   rw[zm];exact .cons (f i) (.cons (f c) (.cons (f (some a)) (.cons (.string _) .nil)))
  ·obtain⟨i,j,rfl,rfl,g⟩:=b;exact ye (.iface _ (.ptr _ _ g))
 | panicNil=>
  refine .bndE (q12 hT _) λO q l=>.bnd (QF (AsR.agg .nil)) λV x y n b=>?_;obtain⟨i,j,rfl,rfl,g⟩:=b;exact ye (.iface _ (.ptr _ _ g))
 | unhashable t=>exact ye (.iface _ (AsR.agg (.one (k Z (.refl Z) t))))
theorem jo(a:Gl P Z)(k:IntKind)(x y:Int)(c:qqH):SR Q P R (qm8 k x y c) Z (qm8 k x y c):=by
 unfold qm8;dsimp only;refine qF (λ_=>?_) λ_=>?_
 ·exact .bndE (qaw vP) λO n l=>qy hT (a.mono l) _
 ·exact(qy hT a (.bounds (IntKind.i64.wrap x) y (k != IntKind.u64) c):SR Q P R _ Z _)
omit hT in
theorem xw{v a:qhu}(h:VR Z v a):SR Q P EqR (asIntOf v) Z (asIntOf a):=by
 cases h<;>first | exact qf rfl | exact qj | exact qu
omit hT in
theorem ZH{v b:qhu}(h:VR Z v b):SR Q P EqR (asInt v) Z (asInt b):=.bndE (xw h) λO a _=>qf rfl
omit hT in
theorem q8h{v a:qhu}(h:VR Z v a):SR Q P EqR (asBool v) Z (asBool a):=by
 cases h<;>first | exact qf rfl | exact qj
omit hT in
theorem qaC{v a:qhu}(h:VR Z v a):SR Q P AsR (asAgg v) Z (asAgg a):=by
 cases h with
 | agg c b=>exact qf ⟨c,b⟩
 | _=>exact qj
def AdR:Rel qiG qiG:=λZ a b=>∃i j o s,a=⟨i,o,s⟩/\b=⟨j,o,s⟩/\BR Z i j
theorem q13(b:Gl P Z){v a:qhu}(h:VR Z v a):SR Q P AdR (qro v) Z (qro a):=by
 cases h with
 | ptr o s h=>exact qf ⟨_,_,o,s,rfl,rfl,h⟩
 | ptrNil=>
  show SR Q P AdR (qlm .nilDeref) Z (qlm .nilDeref);exact qy hT b _
 | _=>exact qj
end
section
variable[JunkSet]{Q P:qhF}(hT:P.toTables=Q.toTables){Z:Ren}
def yT{v a:qhu}(h:VR Z v a):SR Q P AdR (qs0 v) Z (qs0 a):=by
 cases h with
 | ptr o s h=>exact qf ⟨_,_,o,s,rfl,rfl,h⟩
 | _=>exact qj
include hT
theorem q8g(t:qi4){v d:qhu}(h:VR Z v d):SR Q P VR (Instr.loadAt t v) Z (Instr.loadAt t d) :=
 .bnd (yT h) λO a b l c=>by obtain⟨i,j,o,s,rfl,rfl,e⟩:=c;exact YM hT e
theorem q5w(t:qi4){v e x d:qhu}(h:VR Z v e)(f:VR Z x d):SR Q P (λ_ _ _=>True) (qs4 t v x) Z (qs4 t e d) :=
 .bnd (yT h) λO a b l c=>by obtain⟨i,j,o,s,rfl,rfl,g⟩:=c;exact q3v hT g (f.mono l)
theorem qaE{t:qi4}(f:kZ Q t=true):SR Q P VR (Instr.alloc t true (.tuple #[])) Z (Instr.alloc t true (.tuple #[])):=by
 refine .bnd (zq hT f) λO z e l c=>?_;show SR Q P VR (newVar t z>>=λa=>pure (.pointer (some a))) O (newVar t e>>=λa=>pure (.pointer (some a)));exact .bnd (QF c) λV a b l d=>by obtain⟨i,j,rfl,rfl,g⟩:=d;exact qf (.ptr _ _ g)
omit hT in
theorem qfj(t:qi4){v d:qhu}(h:VR Z v d):SR Q P VR (Instr.box t v) Z (Instr.box t d) :=
 .bnd (QF h) λV a b l c=>by obtain⟨i,j,rfl,rfl,e⟩:=c;exact qf (.ptr _ _ e)
def q21(Z:Ren)(a b:Nat × qhu):Prop:=b.1=a.1/\VR Z a.2 b.2
omit hT in
theorem q4w(b:Nat->Option (Nat × Nat)):∀(l n:List (Nat × qhu)) (c j:Array qhu),LsR (q21 Z) l n->AsR Z c j ->(qnm b c l=none/\qnm b j n=none)\/∃r F,qnm b c l=some r/\qnm b j n=some F/\AsR Z r F:=by
 intro l;induction l with
 | nil=>intro n c j h s;cases h;exact .inr ⟨c,j,rfl,rfl,s⟩
 | cons x l L=>
  intro n c j h s;cases h with
  | @cons _ y _ n z O=>
   obtain⟨i,v⟩:=x;obtain⟨N,u⟩:=y;obtain⟨rfl,G⟩:=z;simp only[qnm];cases hp:b N with
   | none=>exact .inl ⟨rfl,rfl⟩
   | some I=>
    obtain⟨f,q⟩:=I;dsimp only;have U:u.cells.size=v.cells.size:=G.cells.1.symm;rw[U,<- s.1];by_cases e:(decide (v.cells.size≠q) || decide (f+v.cells.size > c.size))=true
    ·rw[if_pos e,if_pos e];exact .inl ⟨rfl,rfl⟩
    ·rw[if_neg e,if_neg e];refine L n _ _ O ?_;have D:∀(p g:List qhu) (k:Nat) (d t:Array qhu),LsR (VR Z) p g->AsR Z d t ->
       AsR Z ((p.zipIdx k).foldl (λo (x:qhu × Nat)=>o.setIfInBounds (f+x.2) x.1) d) ((g.zipIdx k).foldl (λo (x:qhu × Nat)=>o.setIfInBounds (f+x.2) x.1) t):=by
      intro p;induction p with
      | nil=>intro g k d t B C;cases B;exact C
      | cons a p w=>
       intro g k d t B C;cases B with
       | cons T A=>exact w _ (k+1) _ _ A (C.set _ T)
     have:=D v.cells.toList u.cells.toList 0 c j (zm.1 G.cells) s;have H:∀(a d:Array qhu),a.zipIdx.foldl (λo (x:qhu × Nat)=>o.setIfInBounds (f+x.2) x.1) d=(a.toList.zipIdx 0).foldl (λo (x:qhu × Nat)=>o.setIfInBounds (f+x.2) x.1) d:=λa d=>by
      rw[<- qo2,Array.toList_zipIdx]
     exact(H v.cells c ▸ H u.cells j ▸ this :)
theorem qaB{t:qi4}(v:kZ Q t=true){g a:Array (Nat × qhu)}(h:LsR (q21 Z) g.toList a.toList):SR Q P VR (Instr.build t g) Z (Instr.build t a):=by
 refine .bnd (zq hT v) λO z q l k=>.bndE (qD hT t) λV d u=>?_;have y:LsR (q21 V) g.toList a.toList:=h.imp λ_ _ x=>⟨x.1,x.2.mono (l.trans u)⟩;have A:AsR V z.cells q.cells:=k.cells.mono u;have fin:∀(j:Nat->Option (Nat × Nat)) (U:Ren) (b:String),Le V U->SR Q P VR
   (match qnm j z.cells g.toList with | some cells=>pure (.agg cells) | _=>stuck b) U (match qnm j q.cells a.toList with | some cells=>pure (.agg cells) | _=>stuck b):=λj U b c=>by
  rcases q4w (Z:=U) j _ _ _ _ (y.imp λ_ _ x=>⟨x.1,x.2.mono c⟩) (A.mono c) with⟨p,o⟩ | ⟨r,B,p,o,w⟩
  ·rw[p,o];exact qj
  ·rw[p,o];exact qf w.agg
 cases d with
 | struct C=>
  refine .bndE (qdd λO f=>?_) λU i c=>fin _ U _ c;exact .bndE (qV hT _) λ_ n _=>qf rfl
 | array n e=>exact .bndE (qV hT _) λU s c=>fin _ U _ c
 | _=>exact qj
end
end
section
def PVR[JunkSet]:Rel qhu qhu:=λZ a b=>VR Z a b/\a≠.tuple #[]/\∀r,a≠.chan r
section
variable[JunkSet]{Q P:qhF}(hT:P.toTables=Q.toTables)
include hT
theorem yM(t:qi4):P.cellsOf t=Q.cellsOf t:=by unfold Program.cellsOf;rw[hT]
theorem kT(t:qi4):P.bytesOf t=Q.bytesOf t:=by unfold Program.bytesOf;rw[hT]
theorem QC:P.depth=Q.depth:=by unfold Program.depth;rw[hT]
theorem Zs:P.globals=Q.globals:=by rw[hT]
theorem vC:∀d t a,qpC P d t a=qpC Q d t a:=by
 intro d;induction d with
 | zero=>intro t a;rfl
 | succ d b=>intro t a;simp only[qpC,kB hT,yM hT,kT hT,b]
theorem q0q:∀d t a,cellOfByte P d t a=cellOfByte Q d t a:=by
 intro d;induction d with
 | zero=>intro t a;rfl
 | succ d b=>intro t a;simp only[cellOfByte,kB hT,yM hT,kT hT,b]
theorem KI(d:Nat)(e:qi4)(c o:Nat)(b:Int):qo8 P d e c o b=qo8 Q d e c o b:=by
 simp only[qo8,yM hT,kT hT,vC hT,q0q hT]
theorem qcx:∀d t u,P.alikeButTags d t u=Q.alikeButTags d t u:=by
 intro d;induction d with
 | zero=>intro t u;rfl
 | succ d a=>intro t u;simp only[Program.alikeButTags,Ys hT,a]
theorem q5p(t:qi4):P.underlyingId t=Q.underlyingId t:=by unfold Program.underlyingId;rw[hT]
theorem qao(t:qi4):P.stoodInHeld t=Q.stoodInHeld t:=by
 unfold Program.stoodInHeld Program.stoodInAs;simp only[kB hT,qcx hT,q5p hT,Ys hT,QC hT];rw[show P.cutTypes=Q.cutTypes by rw[hT]]
theorem q2t:∀d t,P.eqGuardType d t=Q.eqGuardType d t:=by
 intro d;induction d with
 | zero=>intro t;rfl
 | succ d a=>intro t;simp only[Program.eqGuardType,kB hT,a]
omit hT in
theorem qbj:Q.info? (kj Q)=none:=by
 unfold kj Tables.info?;rw[if_neg (qna _)];have e:∀(f:Nat) (t:qi4),Made.infoAt Q.toTables (f+1) t=if t<Q.types.size then Q.types[t]? else(Made.decode (t - Q.types.size)).bind (Made.reckon (Made.infoAt Q.toTables f)):=λ_ _=>rfl;show Made.infoAt Q.toTables (99+1) Q.types.size=none;rw[e,if_neg (qna _),Nat.sub_self];rfl
omit hT in
theorem q6A:Q.cellsOf (kj Q)=0:=by unfold Program.cellsOf;rw[qbj];rfl
variable{Z:Ren}{Y M:Type}{R:Rel Y M}
omit hT in
theorem q0G{i j:Nat}(h:BR Z i j):SR Q P (λ_ a b=>a=none/\b=none) (viewAt i) Z (viewAt j):=by
 refine .bnd (Qg h) λO x c l d=>?_;have e:c.isSome=x.isSome:=by
  rcases d with⟨_,rfl⟩ | ⟨_,_,rfl,e,n,rfl⟩<;>rfl
 rw[e];cases x.isSome with
 | true=>exact qf ⟨rfl,rfl⟩
 | false=>
  refine .bnd (jP (h.mono l)) λV o g k f=>?_;cases f<;>exact qf ⟨rfl,rfl⟩
omit hT in
theorem q3y{i j:Nat}(h:BR Z i j):SR Q P (λO a b=>(a=none/\b=none)\/∃i j o s x,a=some (⟨i,o,s⟩,x)/\b=some (⟨j,o,s⟩,x)/\BR O i j) (numberAt i) Z (numberAt j):=by
 refine .bnd (Qg h) λO x c l d=>?_;have e:c.isSome=x.isSome:=by
  rcases d with⟨_,rfl⟩ | ⟨_,_,rfl,e,n,rfl⟩<;>rfl
 rw[e];cases x.isSome with
 | true=>exact qf (.inl ⟨rfl,rfl⟩)
 | false=>
  refine .bnd (jP (h.mono l)) λV o g k f=>?_;cases f with
  | number o s x h=>exact qf (.inr ⟨_,_,o,s,x,rfl,rfl,h⟩)
  | _=>exact qf (.inl ⟨rfl,rfl⟩)
omit hT in
theorem q0H{i j:Nat}{o e:Nat}{s d:Option Nat}(h:BR Z i j):SR Q P (λ_ _ _=>True) (noView ⟨i,o,s⟩) Z (noView ⟨j,e,d⟩) :=
 .bnd (q0G h) λO a b l c=>by obtain⟨rfl,rfl⟩:=c;exact qf trivial
omit hT in
theorem jQ{i j:Nat}{o:Nat}{s:Option Nat}(h:BR Z i j):SR Q P (λO a b=>∃i j o s x,a=(⟨i,o,s⟩,x)/\b=(⟨j,o,s⟩,x)/\BR O i j) (qkp ⟨i,o,s⟩) Z (qkp ⟨j,o,s⟩) :=
 .bnd (q3y h) λO a b l c=>by
  rcases c with⟨rfl,rfl⟩ | ⟨k,g,f,e,x,rfl,rfl,d⟩
  ·exact qf ⟨_,_,_,_,_,rfl,rfl,h.mono l⟩
  ·exact qf ⟨_,_,_,_,_,rfl,rfl,d⟩
theorem QG{i j:Nat}{o:Nat}{s:Option Nat}(h:BR Z i j)(k:i<Q.globals.size):SR Q P EqR (qpD ⟨i,o,s⟩) Z (qpD ⟨j,o,s⟩):=by
 unfold qpD;cases s with
 | some s=>exact qf rfl
 | none=>
  dsimp only;refine zK ?_;refine .bnd (q0H h) λO _ _ l _=>.bnd (Qg (h.mono l)) λV x a g c=>?_;have e:a=x:=by
   rcases c with⟨_,h⟩ | ⟨_,d,_⟩
   ·exact h
   ·omega
  subst e;cases a with
  | none=>exact qj
  | some f=>
   obtain⟨e,n⟩:=f;dsimp only;rw[yM hT];refine qF (λ_=>qf rfl) λ_=>?_;rw[QC hT,vC hT,kT hT];cases qpC Q Q.depth e (o % Q.cellsOf e) with
   | none=>exact qj
   | some b=>exact qf rfl
theorem ZE{i j c e:Nat}{o k:Nat}{s g:Option Nat}(h:BR Z i j)(n:BR Z c e)(p:Gl P Z) :SR Q P EqR (Op.twoPlaces ⟨i,o,s⟩ ⟨c,k,g⟩) Z (Op.twoPlaces ⟨j,o,s⟩ ⟨e,k,g⟩):=by
 unfold Op.twoPlaces;refine zK ?_;dsimp only;by_cases f:i<Q.globals.size
 ·have t:P.globals.size=Q.globals.size:=by rw[Zs hT]
  have r:j=i:=(p i (by omega)).fn h |>.symm;by_cases d:c=i
  ·subst d;have q:e=j:=n.fn h;subst q;subst r;simp only[bne_self_eq_false,Bool.false_or,Zs hT];rw[if_neg (by simpa using f)];exact .bndE (QG hT h f) λO a l=>.bndE (QG hT (n.mono l) f) λV b _=>qf rfl
  ·have:(i != c || decide (i>=Q.globals.size))=true:=by
    simp[Ne.symm d]
   rw[if_pos this];exact jd
 ·have:(i != c || decide (i>=Q.globals.size))=true:=by
   have:i>=Q.globals.size:=by omega
   simp[this]
  rw[if_pos this];exact jd
theorem q5H{i j e d:Nat}{o c:Nat}{s b:Option Nat}(k:IntKind)(h:BR Z i j)(g:BR Z e d)(f:Gl P Z) :SR Q P VR (Op.addrSub k ⟨i,o,s⟩ ⟨e,c,b⟩) Z (Op.addrSub k ⟨j,o,s⟩ ⟨d,c,b⟩) :=
 .bndE (ZE hT h g f) λO a l=>qf (.int _ _)
theorem q61{i j f e:Nat}{o d:Nat}{s c:Option Nat}(b:BinOp)(h:BR Z i j)(k:BR Z f e)(g:Gl P Z) :SR Q P VR (Op.addrCmp b ⟨i,o,s⟩ ⟨f,d,c⟩) Z (Op.addrCmp b ⟨j,o,s⟩ ⟨e,d,c⟩) :=
 .bndE (ZE hT h k g) λO a l=>by
  obtain⟨x,y⟩:=a;cases b<;>first | exact qf (.bool _) | exact qu
omit hT in
theorem xr{i j:Nat}(h:BR Z i j)(b:¬ JunkSet.jk i):SR Q P EqR (shape i) Z (shape j) :=
 (Qg h).imp λO x c _ a=>by
  rcases a with⟨_,e⟩ | ⟨h,_⟩
  ·exact e
  ·exact absurd h b
omit hT in
theorem QY{i j:Nat}(h:BR Z i j)(c:JunkSet.jk i):SR Q P (λ_ x a=>x=some (kj Q,0)/\∃e n,a=some (e,n)) (shape i) Z (shape j) :=
 (Qg h).imp λO x a _ b=>by
  rcases b with⟨h,_⟩ | ⟨_,_,h⟩
  ·exact absurd c h
  ·exact h
omit hT in
theorem q5z{f:qlD->Sem Y}{a:Sem M}:SR Q P R (qlx (kj Q)>>=f) Z a:=by
 refine .bad ?_;refine Bad.bind (f:=f) ?_;show Bad Q (match Q.info? (kj Q) with
  | some i=>(pure i:Sem qlD)
  | none=>stuck "no such type")
 rw[qbj];trivial
theorem q5F{i j:Nat}{o:Nat}{s:Option Nat}(h:BR Z i j)(a:¬ JunkSet.jk i):SR Q P EqR (qpD ⟨i,o,s⟩) Z (qpD ⟨j,o,s⟩):=by
 unfold qpD;cases s with
 | some s=>exact qf rfl
 | none=>
  dsimp only;refine zK ?_;refine .bnd (q0H h) λO _ _ l _=>.bndE (xr (h.mono l) a) λV x d=>?_;cases x with
  | none=>exact qj
  | some c=>
   obtain⟨e,n⟩:=c;dsimp only;rw[yM hT];refine qF (λ_=>qf rfl) λ_=>?_;rw[QC hT,vC hT,kT hT];cases qpC Q Q.depth e (o % Q.cellsOf e) with
   | none=>exact qj
   | some b=>exact qf rfl
theorem q60{i j:Nat}{o:Nat}{s:Option Nat}(k:IntKind)(n:Int)(h:BR Z i j):SR Q P VR (Op.addrMod k ⟨i,o,s⟩ n) Z (Op.addrMod k ⟨j,o,s⟩ n):=by
 by_cases a:JunkSet.jk i
 ·refine .bnd (QY h a) λO x g l d=>?_;obtain⟨rfl,e,m,rfl⟩:=d;exact q5z
 ·refine .bndE (xr h a) λO x l=>?_;cases x with
  | none=>exact qu
  | some f=>
   obtain⟨e,m⟩:=f;refine .bndE (zu hT e) λV p c=>?_;dsimp only;refine qF (λ_=>jd) λ_=>?_;exact .bndE (q5F hT (h.mono (l.trans c)) a) λU b _=>qf (.int _ _)
theorem QX{t z:qi4}{y c:Array qi4}{v w x g:qhu}(h:VR Z v w)(C:VR Z x g) :SR Q P PVR (qkc y t #[v,x]) Z (qkc c z #[w,g]):=by
 have f:∀(p q:Option qiG),VR Z (.pointer p) (.pointer q)->SR Q P PVR (qkc y t #[.pointer p,x]) Z (qkc c z #[.pointer q,g]):=by
  intro p q A;unfold qkc;dsimp only;refine .bndE (ZH C) λO n l=>?_;refine qF (λ_=>?_) λ_=>?_
  ·cases A with
   | ptrNil=>exact qu
   | ptr o s h=>
    dsimp only;refine .bnd (q0G (h.mono l)) λV a b k u=>?_;obtain⟨rfl,rfl⟩:=u;exact qf ⟨.ptr _ _ (h.mono (l.trans k)),by simp⟩
  ·refine qF (λ_=>jd) λ_=>?_;cases A with
   | ptrNil=>exact qu
   | @ptr i j o s h=>
    dsimp only;by_cases B:JunkSet.jk i
    ·refine .bnd (QY (h.mono l) B) λV x g k r=>?_;obtain⟨rfl,e,m,rfl⟩:=r;refine .bad ?_;show Bad Q (match qo8 Q Q.depth (kj Q) (0 / Q.cellsOf (kj Q)) o n with
      | some d=>(pure (.pointer (some ⟨i,d,s⟩)):Sem qhu)
      | none=>unsupported (.unsafePointer "Add"))
     have:qo8 Q Q.depth (kj Q) (0 / Q.cellsOf (kj Q)) o n=none:=by
      unfold qo8;simp[q6A]
     rw[this];trivial
    ·refine .bndE (xr (h.mono l) B) λV x k=>?_;cases x with
     | none=>exact qu
     | some D=>
      obtain⟨e,m⟩:=D;dsimp only;refine zK ?_;rw[KI hT,QC hT,yM hT];cases qo8 Q Q.depth e (m / Q.cellsOf e) o n with
      | none=>exact qu
      | some d=>exact qf ⟨.ptr _ _ (h.mono (l.trans k)),by simp⟩
 cases h with
 | ptrNil=>exact f _ _ .ptrNil
 | ptr o s h=>exact f _ _ (.ptr o s h)
 | _=>exact qj
theorem q2e{t e:qi4}{d a:Array qi4}{v c x b:qhu}(h:VR Z v c)(f:VR Z x b) :SR Q P VR (qkc d t #[v,x]) Z (qkc a e #[c,b]):=(QX hT h f).imp λ_ _ _ _ h=>h.1
theorem jn{t:qi4}{v g x f:qhu}(h:VR Z v g)(G:VR Z x f):SR Q P VR (qpk t v x) Z (qpk t g f):=by
 have p:∀O,Le Z O->SR Q P VR (do
   let .pointer (some n):=v | qkc #[] t #[v,x]
   let (a,c) <- qkp n
   match <- qkc #[] t #[.pointer (some a),x] with
    | .pointer (some b)=>asNumber b c
    | v=>pure v) O (do
   let .pointer (some n):=g | qkc #[] t #[g,f]
   let (a,c) <- qkp n
   match <- qkc #[] t #[.pointer (some a),f] with
    | .pointer (some b)=>asNumber b c
    | v=>pure v):=by
  intro O l;have q:=G.mono l;have e:SR Q P VR (qkc #[] t #[v,x]) O (qkc #[] t #[g,f]):=q2e hT (h.mono l) q;cases h with
  | ptr o s h=>
   dsimp only;refine .bnd (jQ (h.mono l)) λV a b F z=>?_;obtain⟨S,N,B,A,c,rfl,rfl,H⟩:=z;dsimp only;refine .bnd (QX hT (.ptr B A H) (q.mono F)) λU y D L r=>?_;obtain⟨C,u⟩:=r;have k:SR Q P VR (pure y) U (pure D):=qf C;cases C with
   | ptr B A I=>exact .bnd (YL (.number _ _ _ I)) λX i j _ w=>qf (.ptr _ _ w)
   | wild _ _=>exact absurd rfl (u.2 _)
   | _=>exact k
  | _=>exact e
 unfold qpk;refine .bndE (qD hT t) λO d l=>?_;cases d<;>first | exact p O l | exact qu
def q2m(Q:qhF)(t:qi4):Bool :=
 match Q.underlying t with
 | some .unsafePointer=>false
 | _=>true
theorem qR(t:qi4):SR Q P (λ_ a b=>b=a/\Q.underlying t=some a) (qle t) Z (qle t):=by
 refine zK ?_;rw[kB hT];cases Q.underlying t with
 | some i=>exact qf ⟨rfl,rfl⟩
 | none=>exact qj
def q0e:BinOp->Bool
 | .eql | .neq=>true
 | _=>false
theorem qaD{c:BinOp}(f:q0e c=false){t:qi4}(X:q2m Q t=true){v v' x x':qhu}(h:VR Z v v')(N:VR Z x x')(W:Gl P Z) :SR Q P VR (binOp c t v x) Z (binOp c t v' x'):=by
 have L:∀(k:IntKind) (a:Int) (D:IntKind) (b:Int),SR Q P VR (binOp c t (.int k a) (.int D b)) Z (binOp c t (.int k a) (.int D b)):=by
  intro k a D b;have T:∀c,SR Q P VR (Op.intDiv c k a b) Z (Op.intDiv c k a b):=λc=>by
   unfold Op.intDiv;refine qF (λ_=>qy hT W _) λ_=>?_;cases c<;>first | exact qf (.int _ _) | exact qj
  have q:∀c,SR Q P VR (Op.shift c k a D b) Z (Op.shift c k a D b):=λc=>by
   unfold Op.shift;refine qF (λ_=>qy hT W _) λ_=>?_;dsimp only;cases c<;>first | exact qf (.int _ _) | exact qj
  cases c<;>first
   | exact q .shl
   | exact q .shr
   | (refine qF (λ_=>qj) λ_=>?_;first | exact T .quo | exact T .rem | exact qf (.int _ _) | exact qf (.bool _))
   | exact absurd f (by decide)
 have r:c=.add->∀(p U:Option qiG) (k:IntKind) (b:Int),VR Z (.pointer p) (.pointer U)->SR Q P VR (binOp .add t (.pointer p) (.int k b)) Z (binOp .add t (.pointer U) (.int k b)):=by
  intro _ p U k b hp;refine .bnd (qR hT t) λO d d' l hd=>?_;obtain⟨rfl,hd⟩:=hd;have:SR Q P VR (qpk t (.pointer p) (.int k b)) O (qpk t (.pointer U) (.int k b)):=jn hT (hp.mono l) (.int k b);unfold q2m at X;rw[hd] at X;cases d'<;>first | exact this | cases X
 have z:∀(y:BinOp) {i j G F o s B A},BR Z i j->BR Z G F->SR Q P VR (do Op.addrCmp y (<- qkp ⟨i,o,s⟩).1 (<- qkp ⟨G,B,A⟩).1) Z (do Op.addrCmp y (<- qkp ⟨j,o,s⟩).1 (<- qkp ⟨F,B,A⟩).1):=by
  intro y i j G F o s B A S h2;refine .bnd (jQ S) λO a b l e=>?_;obtain⟨_,_,_,_,_,rfl,rfl,u⟩:=e;refine .bnd (jQ (h2.mono l)) λV a b I e=>?_;obtain⟨_,_,_,_,_,rfl,rfl,H⟩:=e;exact q61 hT y (u.mono I) H (W.mono (l.trans I))
 have sub:∀{i j G F o s B A},BR Z i j->BR Z G F->SR Q P VR (do Op.addrSub .u64 (<- qkp ⟨i,o,s⟩).1 (<- qkp ⟨G,B,A⟩).1) Z (do Op.addrSub .u64 (<- qkp ⟨j,o,s⟩).1 (<- qkp ⟨F,B,A⟩).1):=by
  intro i j G F o s B A S h2;refine .bnd (jQ S) λO a b l e=>?_;obtain⟨_,_,_,_,_,rfl,rfl,u⟩:=e;refine .bnd (jQ (h2.mono l)) λV a b I e=>?_;obtain⟨_,_,_,_,_,rfl,rfl,H⟩:=e;exact q5H hT .u64 (u.mono I) H (W.mono (l.trans I))
 have C:∀{i j o s} (k:IntKind) (n:Int),BR Z i j->SR Q P VR (do Op.addrMod k (<- qkp ⟨i,o,s⟩).1 n) Z (do Op.addrMod k (<- qkp ⟨j,o,s⟩).1 n):=by
  intro i j o s k n S;refine .bnd (jQ S) λO a b l e=>?_;obtain⟨_,_,_,_,_,rfl,rfl,u⟩:=e;exact q60 hT k n u
 cases h with
 | int k a=>
  cases N with
  | int D b=>exact L k a D b
  | ptr o s g=>cases c<;>first | exact jn hT (.ptr o s g) (.int k a) | exact C k (a+1) g | exact qu | exact absurd f (by decide)
  | ptrNil=>cases c<;>first | exact jn hT .ptrNil (.int k a) | exact qu | exact absurd f (by decide)
  | _=>cases c<;>first | exact qj | exact absurd f (by decide)
 | string a=>
  cases N with
  | string b=>
   cases c<;>first
    | exact qf (.bool _)
    | exact qj
    | (refine qF (λ_=>qu) λ_=>?_;exact qf (.string _))
    | exact absurd f (by decide)
  | ptr o s g=>cases c<;>first | exact qu | exact qj | exact absurd f (by decide)
  | ptrNil=>cases c<;>first | exact qu | exact qj | exact absurd f (by decide)
  | _=>cases c<;>first | exact qj | exact absurd f (by decide)
 | ptr o s g=>
  cases N with
  | int k b=>cases c<;>first | exact r rfl _ _ k b (.ptr o s g) | exact jn hT (.ptr o s g) (.int k (-b)) | exact C k b g | exact C k (b+1) g | exact qu | exact absurd f (by decide)
  | ptr B A w=>cases c<;>first | exact sub g w | exact z .lss g w | exact z .leq g w | exact z .gtr g w | exact z .geq g w | exact qu | exact absurd f (by decide)
  | ptrNil=>cases c<;>first | exact qu | exact absurd f (by decide)
  | _=>cases c<;>first | exact qu | exact qj | exact absurd f (by decide)
 | ptrNil=>
  cases N with
  | int k b=>cases c<;>first | exact r rfl _ _ k b .ptrNil | exact jn hT .ptrNil (.int k (-b)) | exact qu | exact absurd f (by decide)
  | _=>cases c<;>first | exact qu | exact qj | exact absurd f (by decide)
 | _=>
  cases N with
  | ptr o s g=>cases c<;>first | exact qu | exact qj | exact absurd f (by decide)
  | ptrNil=>cases c<;>first | exact qu | exact qj | exact absurd f (by decide)
  | _=>cases c<;>first | exact qj | exact absurd f (by decide)
end
end
section
def q7h(Q:qhF)(t:qi4):Bool :=
 match Q.info? t with
 | some i=>match i.desc with | .named n _=>n != "sync.copyChecker" | _=>true
 | none=>true
def eqB(Q:qhF):Nat->qi4->Bool
 | 0,_=>false
 | n+1,t=>
  match Q.underlying t with
  | some .bool | some .string | some (.slice _) | some (.map ..) | some (.func ..)=>true
  | some (.int _)=>q7h Q t
  | some (.struct a)=>a.all λf=>f.name == "_" || eqB Q n f.type
  | some (.array _ e)=>eqB Q n e
  | _=>false
def j4{Q:qhF}{v:qhu}(e:v=.tuple #[]\/∃r,v=.chan r)(d:Nat){t:qi4}(f:∀a b,Q.underlying t≠some (.chan a b))(x:qhu):Bad Q (Op.equalIn d t v x):=by
 cases d with
 | zero=>exact rfl
 | succ d=>
  unfold Op.equalIn;show Bad Q ((match Q.underlying t with | some i=>(pure i:Sem TypeDesc) | none=>stuck "no such type").bind _);cases hu:Q.underlying t with
  | none=>exact rfl
  | some c=>
   rcases e with rfl | ⟨r,rfl⟩
   ·cases c<;>cases x<;>first | exact rfl | (rename_i p;cases p<;>exact rfl)
   ·cases c<;>first | exact absurd hu (f _ _) | (cases x<;>first | exact rfl | (rename_i p;cases p<;>exact rfl))
def j3{Q:qhF}{v:qhu}(e:v=.tuple #[]\/∃r,v=.chan r)(d:Nat){t:qi4}(f:∀a b,Q.underlying t≠some (.chan a b))(x:qhu):Bad Q (Op.equalIn d t x v):=by
 cases d with
 | zero=>exact rfl
 | succ d=>
  unfold Op.equalIn;show Bad Q ((match Q.underlying t with | some i=>(pure i:Sem TypeDesc) | none=>stuck "no such type").bind _);cases hu:Q.underlying t with
  | none=>exact rfl
  | some c=>
   rcases e with rfl | ⟨r,rfl⟩
   ·cases c<;>cases x<;>first | exact rfl | (rename_i p;cases p<;>exact rfl) | (rename_i p _;cases p<;>exact rfl) | (rename_i p _ _;cases p<;>exact rfl)
   ·cases c<;>first | exact absurd hu (f _ _) | (cases x<;>first | exact rfl | (rename_i p;cases p<;>exact rfl) | (rename_i p _;cases p<;>exact rfl) | (rename_i p _ _;cases p<;>exact rfl))
def ym{Q:qhF}{n:Nat}{t:qi4}(h:eqB Q n t=true):∀a b,Q.underlying t≠some (.chan a b):=by
 intro a b e;cases n with
 | zero=>cases h
 | succ n=>
  unfold eqB at h;rw[e] at h;cases h
section
variable[JunkSet]{Q P:qhF}(hT:P.toTables=Q.toTables){Z:Ren}{Y M W:Type}{R:Rel Y M}
def zO{σT:Type}{K:Ren->Prop}(g:∀Z O,Le Z O->K Z->K O){f c:Y->σT->Sem (ForInStep σT)}(l:List Y)(h:∀a∈l,∀Z b,K Z->SR Q P EqR (f a b) Z (c a b)):∀(Z:Ren) (b:σT),K Z->SR Q P EqR (forIn l b f) Z (forIn l b c):=by
 induction l with
 | nil=>intro Z b _;exact qf rfl
 | cons a l d=>
  intro Z b k;rw[qrE,qrE];refine .bndE (h a (qpd ..) Z b k) λO s lσ=>?_;cases s with
  | done b=>exact qf rfl
  | yield b=>exact d (λa e=>h a (qoH _ e)) O b (g _ _ lσ k)
include hT
theorem Zi:∀(n d:Nat) {Z:Ren} {t:qi4} {x x' y y':qhu},eqB Q n t=true->VR Z x x'->VR Z y y'->Gl P Z ->SR Q P EqR (Op.equalIn d t x y) Z (Op.equalIn d t x' y'):=by
 intro n;induction n with
 | zero=>intro d Z t x x' y y' h;cases h
 | succ n ih=>
  intro d Z t x x' y y' h z g hG;cases d with
  | zero=>exact qu
  | succ d=>
   unfold Op.equalIn;refine .bnd (qR hT t) λO ty b9 l v=>?_;obtain⟨rfl,v⟩:=v;replace z:=z.mono l;replace g:=g.mono l;replace hG:=hG.mono l;unfold eqB at h;rw[v] at h;cases b9 with
   | bool=>cases z<;>first | exact qj | (cases g<;>first | exact qj | exact qf rfl)
   | string=>cases z<;>first | exact qj | (cases g<;>first | exact qj | exact qf rfl)
   | slice e=>cases z<;>first | exact qj | (cases g<;>first | exact qj | exact qf rfl)
   | map k e=>cases z<;>first | exact qj | (cases g<;>first | exact qj | exact qf rfl)
   | func a b c=>cases z<;>first | exact qj | (cases g<;>first | exact qj | exact qf rfl)
   | int k=>
    have c3:∀{i j i' j' o s o' s'},BR O i j->BR O i' j'->SR Q P EqR (do
      let (a,b):=((<- qkp ⟨i,o,s⟩).1,(<- qkp ⟨i',o',s'⟩).1)
      if a.block == b.block && a.block<(<- program).globals.size then return (<- qpD a) == (<- qpD b)
      let .named "sync.copyChecker" _:=(<- qlx t).desc | unsupported .addressObserved
      if a == b then pure true else unsupported .addressObserved) O (do
      let (a,b):=((<- qkp ⟨j,o,s⟩).1,(<- qkp ⟨j',o',s'⟩).1)
      if a.block == b.block && a.block<(<- program).globals.size then return (<- qpD a) == (<- qpD b)
      let .named "sync.copyChecker" _:=(<- qlx t).desc | unsupported .addressObserved
      if a == b then pure true else unsupported .addressObserved):=by
     intro i j i' j' o s o' s' h1 h2;refine .bnd (jQ h1) λO a b l D=>?_;obtain⟨_,_,_,_,_,rfl,rfl,T⟩:=D;refine .bnd (jQ (h2.mono l)) λV a b I D=>?_;obtain⟨_,_,_,_,_,rfl,rfl,C⟩:=D;dsimp only;refine zK ?_
     rename_i L j1 o1 s1 x1 i2 j2 o2 s2 x2
     have hP:P.globals.size=Q.globals.size:=by rw[Zs hT]
     by_cases hc:(L == i2 && decide (L<Q.globals.size))=true
     ·rw[if_pos hc];simp only[qic,beq_iff_eq,decide_eq_true_eq] at hc;obtain⟨rfl,A⟩:=hc;have e:j2=j1:=C.fn (T.mono I);subst e;have e1:j2=L:=(((hG.mono l).mono I) L (by omega)).fn C |>.symm;rw[if_pos (by simp[e1,hP,A])];exact .bndE (QG hT (T.mono I) A) λU a w=>.bndE (QG hT (C.mono w) A) λX b _=>qf rfl
     ·rw[if_neg hc];refine .bad ?_;show Bad Q ((qlx t).bind _);have B:∃F,Q.info? t=some F:=by
       unfold Program.underlying at v;cases S:Q.info? t with
       | none=>rw[S] at v;cases v
       | some F=>exact⟨F,rfl⟩
      obtain⟨F,N⟩:=B;unfold q7h at h;simp only[N] at h;show Bad Q ((match Q.info? t with
       | some i=>(pure i:Sem qlD)
       | none=>stuck "no such type").bind _)
      rw[N];show Bad Q (match F.desc with
       | .named "sync.copyChecker" _=>if((⟨L,o1,s1⟩:qiG) == ⟨i2,o2,s2⟩)=true then pure true else unsupported .addressObserved
       | _=>unsupported .addressObserved)
      split
      ·rename_i u hd
       rw[hd] at h;simp at h
      ·trivial
    cases z with
    | int k1 a=>
     cases g with
     | int k2 b=>exact qF (λ_=>qf rfl) λ_=>qj
     | ptr o s hb=>
      cases a with
      | ofNat m=>cases m with
       | zero=>exact qf rfl
       | succ m=>exact qu
      | negSucc m=>exact qu
     | ptrNil=>exact qu
     | _=>exact qj
    | ptr o s hb=>
     cases g with
     | int k2 b=>
      cases b with
      | ofNat m=>cases m with
       | zero=>exact qf rfl
       | succ m=>exact qu
      | negSucc m=>exact qu
     | ptr o' s' d8=>exact c3 hb d8
     | ptrNil=>exact qu
     | _=>exact qu
    | ptrNil=>cases g<;>exact qu
    | _=>cases g<;>first | exact qj | exact qu
   | struct fs=>
    cases z with
    | agg h1 h2=>
     cases g with
     | agg h3 h4=>
      dsimp only;refine zK ?_;rw[qao hT];refine qF (λ_=>jd) λ_=>?_;rw[<- qmf,<- qmf];dsimp only at h;rw[qju] at h;refine .bndE (zO (K:=λX=>Le O X) (λ_ _ l k=>k.trans l) _ (λf hf U b w=>?_) O _ (.refl O)) λU r w=>?_
      ·refine qF (λd6=>?_) λ_=>qf rfl;have d7:eqB Q n f.type=true:=by
        have:=h f (qko.1 hf);simp only[qkt,beq_iff_eq] at this;exact this.resolve_left d6
       exact .bnd (jJ hT (AsR.mono w ⟨h1,h2⟩) _) λω1 p p' H hp=>.bnd (jJ hT (AsR.mono (w.trans H) ⟨h3,h4⟩) _) λω2 q q' G S=>
        .bndE (ih d d7 (hp.mono G) S (hG.mono ((w.trans H).trans G))) λω3 r _=>qF (λ_=>qf rfl) λ_=>qf rfl
      ·obtain⟨r,u⟩:=r;cases r<;>exact qf rfl
     | _=>exact qj
    | _=>exact qj
   | array h9 e=>
    cases z with
    | agg h1 h2=>
     cases g with
     | agg h3 h4=>
      dsimp only;refine .bndE (qV hT e) λV n I=>?_;rw[qk6,qk6];refine .bndE (zO (K:=λX=>Le O X) (λ_ _ l k=>k.trans l) _ (λf hf U b w=>?_) V _ I) λU r w=>?_
      ·exact .bnd (jJ hT (AsR.mono w ⟨h1,h2⟩) _) λω1 p p' H hp=>.bnd (jJ hT (AsR.mono (w.trans H) ⟨h3,h4⟩) _) λω2 q q' G S=>
        .bndE (ih d h (hp.mono G) S (hG.mono ((w.trans H).trans G))) λω3 r _=>qF (λ_=>qf rfl) λ_=>qf rfl
      ·obtain⟨r,u⟩:=r;cases r<;>exact qf rfl
     | _=>exact qj
    | _=>exact qj
   | _=>cases h
theorem YO:∀(n d:Nat) {Z:Ren} {t:qi4} {x j y i:qhu},eqB Q n t=true->VR Z x j->VR Z y i ->SR Q P EqR (Op.eqGuardIn d t x y) Z (Op.eqGuardIn d t j i):=by
 intro n;induction n with
 | zero=>intro d Z t x j y i h;cases h
 | succ n L=>
  intro d Z t x j y i h s o;cases d with
  | zero=>exact qu
  | succ d=>
   unfold Op.eqGuardIn;refine .bnd (qR hT t) λO ty v l c=>?_;obtain⟨rfl,c⟩:=c;replace s:=s.mono l;replace o:=o.mono l;unfold eqB at h;rw[c] at h;cases v with
   | struct fs=>
    cases s with
    | agg I H=>
     cases o with
     | agg G F=>
      dsimp only;rw[<- qmf,<- qmf];dsimp only at h;rw[qju] at h;refine .bndE (zO (K:=λX=>Le O X) (λ_ _ l k=>k.trans l) _ (λf N U b a=>?_) O _ (.refl O)) λU r a=>?_
      ·refine qF (λC=>?_) λ_=>qf rfl;have D:eqB Q n f.type=true:=by
        have:=h f (qko.1 N);simp only[qkt,beq_iff_eq] at this;exact this.resolve_left C
       exact .bnd (jJ hT (AsR.mono a ⟨I,H⟩) _) λω1 p T z B=>.bnd (jJ hT (AsR.mono (a.trans z) ⟨G,F⟩) _) λω2 q S w A=>
        .bndE (L d D (B.mono w) A) λω3 r _=>qF (λ_=>qf rfl) λ_=>qf rfl
      ·obtain⟨r,u⟩:=r;cases r<;>exact qf rfl
     | wild _ g=>cases i<;>first | exact qf rfl | cases g
     | _=>exact qf rfl
    | wild _ g=>cases j<;>first | exact qf rfl | cases g
    | _=>exact qf rfl
   | array a6 e=>
    cases s with
    | agg I H=>
     cases o with
     | agg G F=>
      dsimp only;refine .bndE (qV hT e) λV n l'=>?_;rw[qk6,qk6];refine .bndE (zO (K:=λX=>Le O X) (λ_ _ l k=>k.trans l) _ (λf N U b a=>?_) V _ l') λU r a=>?_
      ·exact .bnd (jJ hT (AsR.mono a ⟨I,H⟩) _) λω1 p T z B=>.bnd (jJ hT (AsR.mono (a.trans z) ⟨G,F⟩) _) λω2 q S w A=>
        .bndE (L d h (B.mono w) A) λω3 r _=>qF (λ_=>qf rfl) λ_=>qf rfl
      ·obtain⟨r,u⟩:=r;cases r<;>exact qf rfl
     | wild _ g=>cases i<;>first | exact qf rfl | cases g
     | _=>exact qf rfl
    | wild _ g=>cases j<;>first | exact qf rfl | cases g
    | _=>exact qf rfl
   | interface ms=>cases h
   | _=>cases s<;>first | exact qf rfl | (cases o<;>exact qf rfl)
def kK:qiy->Bool
 | .const .nilIface=>true
 | _=>false
def q9n(Q:qhF)(t:qi4)(x y:qiy):Bool:=eqB Q 6 t || (kK x || kK y) && (match Q.underlying t with | some (.interface _)=>true | _=>false)
theorem qfg{f:BinOp}(j:q0e f=true){t:qi4}(a:eqB Q 6 t=true){v d x c:qhu}(h:VR Z v d)(g:VR Z x c)(i:Gl P Z) :SR Q P VR (binOp f t v x) Z (binOp f t d c):=by
 have e:SR Q P VR (do pure (.bool (<- Op.equal t v x))) Z (do pure (.bool (<- Op.equal t d c))):=.bndE (Zi hT 6 _ a h g i) λO b _=>qf (.bool _);have n:SR Q P VR (do pure (.bool (!(<- Op.equal t v x)))) Z (do pure (.bool (!(<- Op.equal t d c)))):=.bndE (Zi hT 6 _ a h g i) λO b _=>qf (.bool _);cases f<;>first | exact absurd j (by decide) | skip
 ·cases h<;>first | exact e | exact .bad (Bad.bind (j4 (.inl rfl) _ (ym a) _) _) | exact .bad (Bad.bind (j4 (.inr ⟨_,rfl⟩) _ (ym a) _) _) | (cases g<;>first | exact e | exact .bad (Bad.bind (j3 (.inl rfl) _ (ym a) _) _) | exact .bad (Bad.bind (j3 (.inr ⟨_,rfl⟩) _ (ym a) _) _) | exact qf (.bool _) | exact qF (λ_=>qj) λ_=>qf (.bool _))
 ·cases h<;>first | exact n | exact .bad (Bad.bind (j4 (.inl rfl) _ (ym a) _) _) | exact .bad (Bad.bind (j4 (.inr ⟨_,rfl⟩) _ (ym a) _) _) | (cases g<;>first | exact n | exact .bad (Bad.bind (j3 (.inl rfl) _ (ym a) _) _) | exact .bad (Bad.bind (j3 (.inr ⟨_,rfl⟩) _ (ym a) _) _) | exact qf (.bool _) | exact qF (λ_=>qj) λ_=>qf (.bool _))
end
end
section
section
variable[JunkSet]{Q P:qhF}(hT:P.toTables=Q.toTables){Z:Ren}{Y M W:Type}{R:Rel Y M}
include hT
theorem qaz{o:BinOp}(u:q0e o=true){t:qi4}(s:∃q,Q.underlying t=some (.interface q)){v i x g:qhu}(h:VR Z v i)(f:VR Z x g)(p:v=.nilIface\/x=.nilIface) :SR Q P VR (binOp o t v x) Z (binOp o t i g):=by
 obtain⟨q,k⟩:=s;have c:∀a b,Q.underlying t≠some (.chan a b):=λa b e=>by rw[k] at e;cases e
 have j:SR Q P EqR (Op.equal t v x) Z (Op.equal t i g):=by
  refine .bnd (qR hT t) λO w r l d=>?_;obtain⟨rfl,d⟩:=d;rw[k] at d;cases d;rcases p with rfl | rfl
  ·cases h;cases f<;>first | exact qf rfl | exact qj
  ·cases f;cases h<;>first | exact qf rfl | exact qj
 have e:SR Q P VR (do pure (.bool (<- Op.equal t v x))) Z (do pure (.bool (<- Op.equal t i g))):=.bndE j λO b _=>qf (.bool _);have n:SR Q P VR (do pure (.bool (!(<- Op.equal t v x)))) Z (do pure (.bool (!(<- Op.equal t i g)))):=.bndE j λO b _=>qf (.bool _);cases o<;>first | exact absurd u (by decide) | skip
 ·rcases p with rfl | rfl
  ·cases h;cases f<;>first | exact e | exact .bad (Bad.bind (j3 (.inl rfl) _ c _) _) | exact .bad (Bad.bind (j3 (.inr ⟨_,rfl⟩) _ c _) _)
  ·cases f;cases h<;>first | exact e | exact .bad (Bad.bind (j4 (.inl rfl) _ c _) _) | exact .bad (Bad.bind (j4 (.inr ⟨_,rfl⟩) _ c _) _)
 ·rcases p with rfl | rfl
  ·cases h;cases f<;>first | exact n | exact .bad (Bad.bind (j3 (.inl rfl) _ c _) _) | exact .bad (Bad.bind (j3 (.inr ⟨_,rfl⟩) _ c _) _)
  ·cases f;cases h<;>first | exact n | exact .bad (Bad.bind (j4 (.inl rfl) _ c _) _) | exact .bad (Bad.bind (j4 (.inr ⟨_,rfl⟩) _ c _) _)
theorem YQ{d:BinOp}{t:qi4}{x y:qiy}(c:q0e d=true->q9n Q t x y=true){v f u g:qhu}(h:VR Z v f)(l:VR Z u g)(o:kK x=true->v=.nilIface)(n:kK y=true->u=.nilIface)(k:q0e d=true->∀w,(w=v\/w=u)->w≠.chan none) :SR Q P (λ_ _ _=>True) (eqGuard d t x y v u) Z (eqGuard d t x y f g):=by
 have core:q0e d=true->SR Q P (λ_ _ _=>True) (eqGuard .eql t x y v u) Z (eqGuard .eql t x y f g):=by
  intro j;have c:=c j;have i:=k j v (.inl rfl);have e:=k j u (.inr rfl);unfold q9n at c;simp only[qkt,qic] at c;cases h with
  | wild _ _=>exact absurd rfl i
  | nilIface=>
   cases l with
   | nilIface=>
    refine qF (λh=>absurd h (by decide)) λ_=>?_;refine qF (λ_=>qf trivial) λp=>?_;rcases c with c | ⟨a,_⟩
    ·refine .bndE (YO hT 6 _ c .nilIface .nilIface) λO b _=>?_;exact qF (λ_=>qu) λ_=>qf trivial
    ·exfalso;apply p;rcases a with a | a
     ·cases x<;>first | rfl | (exact absurd a (by simp[kK]))
     ·cases y<;>first | exact absurd a Bool.false_ne_true | (simp;done)
   | wild _ _=>exact absurd rfl e
   | _=>exact qf trivial
  | agg z s=>
   cases l with
   | agg r q=>
    refine qF (λh=>absurd h (by decide)) λ_=>?_;refine zK (zK ?_);rw[q2t hT,QC hT];refine qF (λ_=>qf trivial) λ_=>?_;rcases c with c | ⟨a,_⟩
    ·refine .bndE (YO hT 6 _ c (.agg z s) (.agg r q)) λO b _=>?_;exact qF (λ_=>qu) λ_=>qf trivial
    ·rcases a with a | a
     ·have:=o a;cases this
     ·have:=n a;cases this
   | wild _ _=>exact absurd rfl e
   | _=>exact qf trivial
  | _=>exact qf trivial
 cases d<;>first | exact core rfl | exact qf trivial
theorem qen{c:BinOp}(e:q0e c=true){t:qi4}(d:∀a b,Q.underlying t≠some (.chan a b)){x y:qiy}{v u:qhu}(h:v=.chan none\/u=.chan none):Bad Q (do eqGuard c t x y v u;binOp c t v u):=by
 rcases h with rfl | rfl
 ·cases c<;>first | (cases e;done) | exact Bad.bind (j4 (.inr ⟨_,rfl⟩) _ d _) _
 ·cases c<;>first | (cases e;done) | (cases v<;>exact Bad.bind (j3 (.inr ⟨_,rfl⟩) _ d _) _)
omit hT in
theorem q5D{v b:qhu}(h:VR Z v b)(i:Nat):SR Q P VR (qqx v i) Z (qqx b i):=by
 cases h with
 | @tuple a j g f=>
  have e:AsR Z a j:=⟨g,f⟩;unfold qqx;dsimp only;cases hc:a[i]? with
  | none=>exact qj
  | some x=>
   have⟨y,c,d⟩:=e.get hc;rw[c];exact qf d
 | _=>exact qj
theorem qay(t:qi4){v b:qhu}(h:VR Z v b)(i:Nat):SR Q P VR (Instr.field t v i) Z (Instr.field t b i):=by
 refine .bndE (qD hT t) λO d l=>?_;cases d with
 | struct e=>
  dsimp only;cases e[i]? with
  | none=>exact qj
  | some f=>exact .bnd (qaC (h.mono l)) λV a j g c=>jJ hT c _
 | _=>exact qj
theorem qax(r:Gl P Z)(t:qi4){v c x b:qhu}(h:VR Z v c)(q:VR Z x b):SR Q P VR (qo9 t v x) Z (qo9 t c b):=by
 refine .bndE (xw q) λO p l=>?_;obtain⟨k,i⟩:=p;refine .bndE (qD hT t) λV d f=>?_;have g:=h.mono (l.trans f);have a:=r.mono (l.trans f);cases d with
 | array o e=>
  cases g with
  | agg w u=>
   dsimp only;refine qF (λ_=>?_) λ_=>jo hT a _ _ _ _;exact .bndE (qV hT e) λU n j=>jJ hT (AsR.mono j ⟨w,u⟩) _
  | _=>exact qj
 | string=>
  cases g with
  | string s=>
   dsimp only;split
   ·exact qf (.int _ _)
   ·exact jo hT a _ _ _ _
  | _=>exact qj
 | _=>exact qj
theorem Jg(t:qi4){v a:qhu}(h:VR Z v a):SR Q P VR (qqr t v) Z (qqr t a):=by
 refine .bndE (qD hT t) λO d l=>?_;cases d<;>first | exact qf (.iface t (h.mono l)) | exact qj
theorem qas{a:UnOp}{v b:qhu}(h:VR Z v b):SR Q P VR (Op.unary a v) Z (Op.unary a b):=by
 cases h<;>cases a<;>first | exact qj | exact qu | exact qf (.int _ _) | exact qf (.bool _)
theorem q01(w:Gl P Z){t a:qi4}(r:kZ Q a=true)(c:Bool){v n:qhu}(h:VR Z v n):SR Q P VR (qlz v t a c) Z (qlz n t a c):=by
 have f:∀{O:Ren} {u i:qhu},VR O u i->SR Q P VR (pure (if c then .tuple #[u,.bool true] else u):Sem qhu) O (pure (if c then .tuple #[i,.bool true] else i)):=by
  intro O u i p;cases c with
  | true=>exact qf (AsR.tuple (zm.2 (.cons p (.cons (.bool _) .nil))))
  | false=>exact qf p
 have b:∀{O:Ren} (s d:Option qi4) (m:String),Le Z O->SR Q P VR (if c then do pure (.tuple #[<- qmy a,.bool false]) else qlm (.typeAssertion s d a m):Sem qhu) O (if c then do pure (.tuple #[<- qmy a,.bool false]) else qlm (.typeAssertion s d a m)):=by
  intro O s d m l;cases c with
  | true=>exact .bnd (zq hT r) λV z x _ j=>qf (AsR.tuple (zm.2 (.cons j (.cons (.bool _) .nil))))
  | false=>exact qy hT (w.mono l) (.typeAssertion s d a m)
 unfold qlz;dsimp only;refine .bndE (qD hT a) λO d l=>?_;have q:=h.mono l;cases d with
 | interface A=>
  cases q with
  | nilIface=>exact b none none "" l
  | iface g k=>
   dsimp only;refine .bndE (zu hT g) λV y o=>?_;split
   ·exact f (.iface g (k.mono o))
   ·exact b none (some g) _ (l.trans o)
  | _=>exact qj
 | _=>
  cases q with
  | nilIface=>exact b (some t) none "" l
  | iface g k=>
   dsimp only;by_cases e:g=a
   ·rw[if_pos e,if_pos e];exact f k
   ·rw[if_neg e,if_neg e];exact b (some t) (some g) "" l
  | _=>exact qj
def qaG(Q:qhF)(t:qi4):Bool :=
 match Q.info? t with
 | some i=>i.size != 0
 | none=>true
theorem q5y{t:qi4}(h:qaG Q t=true):SR Q P (λ_ a b=>b=a/\a≠0) (sizeOf t) Z (sizeOf t):=by
 refine .bnd (xq hT t) λO i d l c=>?_;obtain⟨rfl,c⟩:=c;refine qf ⟨rfl,?_⟩;unfold qaG at h;rw[c] at h;simpa using h
def q2w(Q:qhF)(s:qi4)(f:Nat):Bool :=
 match Q.underlying s with
 | some (.struct a)=>match a[f]? with | some f=>qaG Q f.type | none=>true
 | _=>true
theorem q5C{s:qi4}{f:Nat}(c:q2w Q s f=true){v x:qhu}(h:VR Z v x):SR Q P VR (qs5 s v f) Z (qs5 s x f):=by
 refine .bnd (qR hT s) λO d D l r=>?_;obtain⟨rfl,r⟩:=r;unfold q2w at c;rw[r] at c;cases D with
 | struct A=>
  dsimp only at c ⊢;cases hfs:A[f]? with
  | none=>exact qj
  | some w=>
   rw[hfs] at c;dsimp only at c ⊢;refine .bnd (yT (h.mono l)) λV a b N u=>?_;obtain⟨i,j,o,g,rfl,rfl,z⟩:=u;show SR Q P VR (fieldPlace ⟨i,o,g⟩ w>>=λp=>pure (.pointer (some p))) V (fieldPlace ⟨j,o,g⟩ w>>=λp=>pure (.pointer (some p)));refine .bnd (R:=AdR) ?_ λU p q _ k=>by obtain⟨T,S,I,G,rfl,rfl,t⟩:=k;exact qf (.ptr _ _ t)
   refine .bnd (q5y hT c) λU n L y e=>?_;obtain⟨rfl,e⟩:=e;rw[if_neg e,if_neg e];have⟨H,F,C,B⟩:=addr_add i j o w.offset g;rw[C,B];exact qf ⟨_,_,_,_,rfl,rfl,z.mono y⟩
 | _=>exact qj
theorem q5B(I:Gl P Z)(t:qi4){v A x z:qhu}(h:VR Z v A)(H:VR Z x z):SR Q P VR (qqy t v x) Z (qqy t A z):=by
 unfold qqy;refine .bndE (xw H) λO G l=>?_;obtain⟨k,i⟩:=G;dsimp only;refine .bndE (qD hT t) λV d B=>?_;have F:=h.mono (l.trans B);have r:=I.mono (l.trans B);have fin:∀(U:Ren) (b p:Option qiG) (f:Nat) (e:qi4) (g:Bool),Le V U->VR U (.pointer b) (.pointer p) ->
   SR Q P VR (match b with
    | some a=>if 0<=i/\i<f then do pure (.pointer (some (a.add (i.toNat*(<- sizeOf e))))) else if g then unsupported (.noEntry "op/indexAddr.an index out of range at an array of length 0 or 1 (ledger 616)") else qm8 k i f .index
    | none=>qm8 k i 0 .index) U (match p with
    | some a=>if 0<=i/\i<f then do pure (.pointer (some (a.add (i.toNat*(<- sizeOf e))))) else if g then unsupported (.noEntry "op/indexAddr.an index out of range at an array of length 0 or 1 (ledger 616)") else qm8 k i f .index
    | none=>qm8 k i 0 .index):=by
  intro U b p f e g q j;cases j with
  | ptrNil=>exact jo hT (r.mono q) _ _ _ _
  | @ptr D C o s j=>
   dsimp only;refine qF (λ_=>?_) λ_=>qF (λ_=>qu) λ_=>jo hT (r.mono q) _ _ _ _;refine .bndE (qV hT e) λX n u=>?_;have⟨T,S,N,L⟩:=addr_add D C o (i.toNat*n) s;rw[N,L];exact qf (.ptr _ _ (j.mono u))
 have y:∀(U:Ren) (b p:Option qiG) (f:Nat) (e:qi4),Le V U->VR U (.pointer b) (.pointer p)->SR Q P VR (do
    let g:=f<=1 && (match <- qle t with | .array ..=>true | _=>false)
    match b with
    | some a=>if 0<=i/\i<f then do pure (.pointer (some (a.add (i.toNat*(<- sizeOf e))))) else if g then unsupported (.noEntry "op/indexAddr.an index out of range at an array of length 0 or 1 (ledger 616)") else qm8 k i f .index
    | none=>qm8 k i 0 .index) U (do
    let g:=f<=1 && (match <- qle t with | .array ..=>true | _=>false)
    match p with
    | some a=>if 0<=i/\i<f then do pure (.pointer (some (a.add (i.toNat*(<- sizeOf e))))) else if g then unsupported (.noEntry "op/indexAddr.an index out of range at an array of length 0 or 1 (ledger 616)") else qm8 k i f .index
    | none=>qm8 k i 0 .index):=λU b p f e q j=>
   .bndE (qD hT t) λX d u=>fin X b p f e _ (q.trans u) (j.mono u)
 cases d with
 | array f e=>
  refine .bnd (yT F) λU a b q w=>?_;obtain⟨D,C,o,s,rfl,rfl,j⟩:=w;exact y U _ _ f e q (.ptr o s j)
 | slice e=>
  cases F with
  | sliceNil n c=>exact y V none none n e (.refl _) .ptrNil
  | slice o s n c j=>exact y V _ _ n e (.refl _) (.ptr o s j)
  | _=>exact zv
 | _=>exact zv
theorem yN(d:Gl P Z){x a:qhu}(h:VR Z x a)(y:Nat)(c:qqH):SR Q P EqR (qla x y c) Z (qla a y c):=by
 refine .bndE (xw h) λO b l=>?_;obtain⟨k,i⟩:=b;exact qF (λ_=>qf rfl) λ_=>jo hT (d.mono l) _ _ _ _
def Zy(Z:Ren)(a b:Option qhu):Prop:=(a=none/\b=none)\/∃x y,a=some x/\b=some y/\VR Z x y
theorem jm(r:Gl P Z)(b:Bool)(g n:Nat){q f u k o d:Option qhu}(C:Zy Z q f)(B:Zy Z u k)(s:Zy Z o d) :SR Q P EqR (qpl b g n q u o) Z (qpl b g n f k d):=by
 have j:∀(O:Ren) (m h:Nat) (c:qqH),Le Z O->SR Q P EqR (do
   let l <- match q with
    | some v=>qla v h c
    | none=>pure 0
   pure (l,h,m)) O (do
   let l <- match f with
    | some v=>qla v h c
    | none=>pure 0
   pure (l,h,m)):=by
  intro O m h c l;rcases C with⟨rfl,rfl⟩ | ⟨x,y,rfl,rfl,e⟩
  ·exact qf rfl
  ·exact .bndE (yN hT (r.mono l) (e.mono l) _ _) λV a _=>qf rfl
 have i:∀(O:Ren) (m:Nat) (A z w:qqH),Le Z O->SR Q P EqR (do
   let h <- match u,o with
    | some v,some _=>qla v m A
    | some v,none=>qla v m z
    | none,none=>pure g
    | none,some _=>stuck "Slice: max without high"
   let l <- match q with
    | some v=>qla v h w
    | none=>pure 0
   pure (l,h,m)) O (do
   let h <- match k,d with
    | some v,some _=>qla v m A
    | some v,none=>qla v m z
    | none,none=>pure g
    | none,some _=>stuck "Slice: max without high"
   let l <- match f with
    | some v=>qla v h w
    | none=>pure 0
   pure (l,h,m)):=by
  intro O m A z w l;rcases s with⟨rfl,rfl⟩ | ⟨x,y,rfl,rfl,e⟩
  ·rcases B with⟨rfl,rfl⟩ | ⟨x,y,rfl,rfl,e⟩
   ·exact j O _ _ _ l
   ·exact .bndE (yN hT (r.mono l) (e.mono l) _ _) λU a t=>j U _ _ _ (l.trans t)
  ·rcases B with⟨rfl,rfl⟩ | ⟨x,y,rfl,rfl,e⟩
   ·exact zv
   ·exact .bndE (yN hT (r.mono l) (e.mono l) _ _) λU a t=>j U _ _ _ (l.trans t)
 have D:d.isSome=o.isSome:=by rcases s with⟨rfl,rfl⟩ | ⟨x,y,rfl,rfl,_⟩<;>rfl
 unfold qpl;rw[D];rcases h3':o with _ | x
 ·have p:d=none:=by rcases s with⟨_,rfl⟩ | ⟨x,y,rfl,rfl,_⟩<;>first | rfl | cases h3'
  subst h3';subst p;exact i Z n _ _ _ (.refl Z)
 ·obtain⟨y,p,e⟩:∃y,d=some y/\VR Z x y:=by
   rcases s with⟨rfl,_⟩ | ⟨F,y,rfl,p,e⟩
   ·cases h3'
   ·cases h3';exact⟨y,p,e⟩
  subst h3';subst p;exact .bndE (yN hT r e _ _) λV a l=>i V a _ _ _ l
theorem qav(A:Gl P Z)(t:qi4){v v':qhu}(h:VR Z v v'){lo q hi u I i:Option qhu}(H:Zy Z lo q)(G:Zy Z hi u)(F:Zy Z I i) :SR Q P VR (qqc t v lo hi I) Z (qqc t v' q u i):=by
 have f:∀{O:Ren} {a b:Option qhu},Le Z O->Zy Z a b->Zy O a b:=λl h=>h.imp id λ⟨x,y,j,B,hv⟩=>⟨x,y,j,B,hv.mono l⟩;refine .bndE (qD hT t) λO d l=>?_;have h':=h.mono l;cases d with
 | string=>
  cases h' with
  | string s=>
   dsimp only;have e:i.isSome=I.isSome:=by rcases F with⟨rfl,rfl⟩ | ⟨x,y,rfl,rfl,_⟩<;>rfl
   rw[e];refine qF (λ_=>zv) λ_=>?_;exact .bndE (jm hT (A.mono l) false _ _ (f l H) (f l G) (.inl ⟨rfl,rfl⟩)) λV r p=>qf (.string _)
  | _=>exact qj
 | slice e=>
  cases h' with
  | sliceNil n c=>
   refine .bndE (jm hT (A.mono l) true _ _ (f l H) (f l G) (f l F)) λV r p=>?_;obtain⟨a,b,C⟩:=r;refine .bndE (qV hT e) λU z _=>?_;have j:(if C=a then(none:Option qiG) else Option.map (λ(x:qiG)=>x.add (a*z)) none)=none:=by split<;>rfl
   rw[j];exact qf (.sliceNil _ _)
  | @slice N L o s n c w=>
   refine .bndE (jm hT (A.mono l) true _ _ (f l H) (f l G) (f l F)) λV r p=>?_;obtain⟨a,b,C⟩:=r;refine .bndE (qV hT e) λU z k=>?_;have⟨o1,s1,j,B⟩:=addr_add N L o (a*z) s;by_cases g:C=a
   ·rw[if_pos g,if_pos g];exact qf (.slice _ _ _ _ (w.mono (p.trans k)))
   ·rw[if_neg g,if_neg g];simp only[qjh,j,B];exact qf (.slice _ _ _ _ (w.mono (p.trans k)))
  | _=>exact qj
 | pointer a7=>
  refine .bnd (q13 hT (A.mono l) h') λV a b p S=>?_;obtain⟨N,L,o,s,rfl,rfl,w⟩:=S;refine .bndE (qD hT a7) λU d k=>?_;cases d with
  | array n e=>
   dsimp only;have D:=(l.trans p).trans k;refine .bndE (jm hT (A.mono D) false _ _ (f D H) (f D G) (f D F)) λX r l3=>?_;obtain⟨a,b,C⟩:=r;refine .bndE (qV hT e) λT z l4=>?_;dsimp only;have⟨o1,s1,j,B⟩:=addr_add N L o (a*z) s;by_cases g:C=a
   ·rw[if_pos g,if_pos g];exact qf (.slice _ _ _ _ (w.mono ((k.trans l3).trans l4)))
   ·rw[if_neg g,if_neg g,j,B];exact qf (.slice _ _ _ _ (w.mono ((k.trans l3).trans l4)))
  | _=>exact qj
 | _=>exact qj
theorem q5x(I:Gl P Z)(t:qi4){v q:qhu}(h:VR Z v q){w i A j u g:Option qhu}(S:Zy Z w i)(N:Zy Z A j)(L:Zy Z u g) :SR Q P VR (qs6 t v w A u) Z (qs6 t q i j g):=by
 have c:∀{O:Ren} {a b:Option qhu},Le Z O->Zy Z a b->Zy O a b:=λl h=>h.imp id λ⟨x,y,D,C,hv⟩=>⟨x,y,D,C,hv.mono l⟩;refine .bndE (qD hT t) λO d l=>?_;have U:=h.mono l;have f:SR Q P VR (qqc t v w A u) O (qqc t q i j g):=qav hT (I.mono l) t U (c l S) (c l N) (c l L);cases d with
 | array n e=>
  refine .bnd (yT U) λV a b l' B=>?_;obtain⟨i1,j1,o,s,rfl,rfl,H⟩:=B;have k:=l.trans l';refine .bndE (jm hT (I.mono k) false _ _ (c k S) (c k N) (c k L)) λX r G=>?_;obtain⟨a,b,c'⟩:=r;refine .bndE (qV hT e) λT z F=>?_;have⟨o1,s1,D,C⟩:=addr_add i1 j1 o (a*z) s;by_cases p:c'=a
  ·rw[if_pos p,if_pos p];exact qf (.slice _ _ _ _ (H.mono (G.trans F)))
  ·rw[if_neg p,if_neg p,D,C];exact qf (.slice _ _ _ _ (H.mono (G.trans F)))
 | _=>exact f
end
end
section
section
variable[JunkSet]{Q P:qhF}(hT:P.toTables=Q.toTables){Z:Ren}{Y M W:Type}{R:Rel Y M}
def YN{v a:qhu}(h:VR Z v a):SR Q P EqR (Builtin.lenOf v) Z (Builtin.lenOf a):=by
 cases h<;>first | exact qf rfl | exact qj
def zJ(a n:Nat){v e:qhu}(h:VR Z v e):SR Q P AsR (qo3 a n v) Z (qo3 a n e):=by
 cases h with
 | sliceNil=>exact qf .nil
 | slice o s _ _ d=>exact ZF _ d
 | string s=>
  refine qf ⟨rfl,λi x y c f=>?_⟩;rw[c] at f;cases f;rw[qo4] at c;cases d:(s.extract 0 n).data[i]? with
  | none=>rw[d] at c;cases c
  | some b=>rw[d] at c;cases c;exact .int _ _
 | _=>exact qj
def AsR.getBang{a b:Array qhu}(h:AsR Z a b)(i:Nat):VR Z a[i]! b[i]!:=by
 rw[qpE,qpE];exact h.getD i (.bool _)
def vD{n:Nat}{f g:Nat->qhu}(h:∀i,VR Z (f i) (g i)):AsR Z ((qlE n).map f) ((qlE n).map g):=by
 refine⟨by simp,λi x y a b=>?_⟩;simp only[qo4] at a b;cases hr:(qlE n)[i]? with
 | none=>rw[hr] at a;cases a
 | some k=>rw[hr] at a b;cases a;cases b;exact h k
def AsR.zeroCells{z a:Array qhu}(h:AsR Z z a)(n:Nat):AsR Z (qki z n) (qki a n):=by
 unfold qki;rw[<- h.1];exact vD λi=>h.getBang _
def Zj(n:Nat):SR Q P (λ_ _ _=>True) (askRoom n) Z (askRoom n):=by
 unfold askRoom;refine qF (λ_=>?_) λ_=>qf trivial;exact .inr ⟨rfl,_,rfl,(),rfl,trivial⟩
def NP(Q:qhF){Y:Type}:Sem Y->Prop
 | .pure _=>True
 | .load _ _ k=>∀v,NP Q (k v)
 | .store _ _ _ k=>NP Q k
 | .new o k=>zQ o=false/\∀r,NP Q (k r)
 | .shape _ k=>∀x,NP Q (k x)
 | .freeze _ _ k=>NP Q k
 | .frozen _ k=>∀b,NP Q (k b)
 | .getObj _ k=>∀o,NP Q (k o)
 | .setObj _ o k=>zQ o=false/\NP Q k
 | .choose _ k=>∀n,NP Q (k n)
 | .sys _ k=>∀r,NP Q (k r)
 | .program k=>NP Q (k Q)
 | .mark _ k=>NP Q k
 | .halt h=>odd h=false
def NP.bind{s:Sem Y}{f:Y->Sem W}(h:NP Q s)(d:∀a,NP Q (f a)):NP Q (s>>=f):=by
 show NP Q (s.bind f);induction s with
 | pure a=>exact d a
 | load m a k b=>exact λv=>b v (h v)
 | store m a v k b=>exact b h
 | new o k b=>exact⟨h.1,λv=>b v (h.2 v)⟩
 | shape r k b=>exact λv=>b v (h v)
 | freeze a n k b=>exact b h
 | frozen a k b=>exact λv=>b v (h v)
 | getObj r k b=>exact λv=>b v (h v)
 | setObj r o k b=>exact⟨h.1,b h.2⟩
 | choose q k b=>exact λv=>b v (h v)
 | sys c k b=>exact λv=>b v (h v)
 | program k b=>exact b Q h
 | mark m k b=>exact b h
 | halt x=>exact h
def Bad.of_np{s:Sem Y}{f:Y->Sem W}(h:NP Q s)(d:∀a,Bad Q (f a)):Bad Q (s>>=f):=by
 show Bad Q (s.bind f);induction s with
 | pure a=>exact d a
 | load m a k b=>exact λv=>b v (h v)
 | store m a v k b=>exact b h
 | new o k b=>exact⟨h.1,λv=>b v (h.2 v)⟩
 | shape r k b=>exact λv=>b v (h v)
 | freeze a n k b=>exact b h
 | frozen a k b=>exact λv=>b v (h v)
 | getObj r k b=>exact λv=>b v (h v)
 | setObj r o k b=>exact⟨h.1,b h.2⟩
 | choose q k b=>exact λv=>b v (h v)
 | sys c k b=>exact λv=>b v (h v)
 | program k b=>exact b Q h
 | mark m k b=>exact b h
 | halt x=>exact h
theorem np_holds(a:qiG)(c:Nat):NP Q (qr0 a c):=λx=>by
 cases x with
 | none=>trivial
 | some p=>trivial
def JJ(c e n:Nat)(base:Option qiG)(x:qhu):NP Q (qrp c e n base x):=by
 have d:∀b:Bool,NP Q (if(!b)=true then(pure true:Sem Bool) else match x with
   | .slice (some b) _ _=>do pure (!(<- qr0 b (n*c)) || base.any (·.block == b.block))
   | _=>pure false):=λb=>by
  split
  ·trivial
  ·split
   ·exact NP.bind (np_holds _ _) λ_=>trivial
   ·trivial
 unfold qrp;cases base with
 | none=>exact d true
 | some a=>exact NP.bind (np_holds _ _) λp=>NP.bind (s:=frozen _) (λb=>trivial) λq=>d _
def q3B{v a:qhu}(h:VR Z v a):(∃b d n c,v=.slice b n c/\a=.slice d n c/\VR Z (.pointer b) (.pointer d))\/∀b n c,v≠.slice b n c:=by
 cases h with
 | sliceNil n c=>exact .inl ⟨none,none,n,c,rfl,rfl,.ptrNil⟩
 | slice o s n c e=>exact .inl ⟨_,_,n,c,rfl,rfl,.ptr o s e⟩
 | _=>exact .inr λb n c=>by simp
def VR.slice_of{b d:Option qiG}(a:VR Z (.pointer b) (.pointer d))(n c:Nat):VR Z (.slice b n c) (.slice d n c):=by
 cases a with
 | ptrNil=>exact .sliceNil n c
 | ptr o s a=>exact .slice o s n c a
def qg2(Q:qhF)(a:Array qi4):Bool :=
 (match a[0]? with
  | some c=>match Q.underlying c with | some (.slice e)=>kZ Q e | _=>true
  | none=>true) &&
 (match a[1]? with
  | some b=>match Q.underlying b with | some (.int _)=>false | _=>true
  | none=>true)
include hT in
theorem q8i(hG:Gl P Z){L:Array qi4}{t:qi4}{a a':Array qhu}(h:AsR Z a a')(hB:qg2 Q L=true) :SR Q P VR (ql7 L t a) Z (ql7 L t a'):=by
 unfold qg2 at hB;simp only[qic] at hB;obtain⟨p,v⟩:=hB;unfold ql7;cases ht0:L[0]? with
 | none=>exact qj
 | some st=>
  rw[ht0] at p;cases h0:a[0]? with
  | none=>exact qj
  | some s0=>
   have⟨k0,e0,hs⟩:=h.get h0;cases h1:a[1]? with
   | none=>exact qj
   | some x=>
    have⟨x',S,I⟩:=h.get h1;rw[e0,S];dsimp only;refine .bnd (qR hT st) λO d d' l hd=>?_;obtain⟨rfl,hd⟩:=hd;dsimp only at p;rw[hd] at p;cases d' with
    | slice e=>
     dsimp only at p ⊢;rcases q3B (hs.mono l) with⟨b,b',g,w,rfl,rfl,hb⟩ | d6
     ·dsimp only;refine .bndE (qV hT e) λV f l1=>?_;cases ht1:L[1]? with
      | none=>
       dsimp only;simp only[qiv,if_false,qnn,if_true,false_or,pure_bind];have LL:=l.trans l1;have LB:=l1;refine .bndE (YN (I.mono LL)) λU n N=>?_;have H:=LL.trans N;have u:=hb.mono (LB.trans N);refine qF (λ_=>?_) λ_=>?_
       ·refine .bnd (zJ f n (I.mono H)) λX c c' q D=>?_;have F:=u.mono q;cases F with
        | ptrNil=>exact qf (.sliceNil _ _)
        | @ptr i j o s r=>
         dsimp only;have⟨o1,s1,S,e2⟩:=addr_add i j o (g*f) s;rw[S,e2];exact .bnd (jG (zm.1 D) 0 r) λT _ _ y _=>qf (.slice _ _ _ _ (r.mono y))
       ·refine .bndE (zu hT e) λX ti q=>?_;refine qF (λ_=>?_) λ_=>?_
        ·exact .bnd (R:=λ_ _ _=>False) (qy hT (hG.mono (H.trans q)) _) λ_ _ _ _ hf=>hf.elim
        ·refine .bndE (zu hT e) λω2 b0 y=>?_;refine qF (λ_=>?_) λ_=>?_
         ·exact .bad (Bad.bind (Bad.of_np (JJ _ _ _ _ _) λb=>by cases b<;>trivial) _)
         ·refine .bndE vP λω3 nc l4=>?_;refine .bndE (zu hT e) λω4 a9 l5=>?_;refine .bnd (Zj _) λω5 _ _ l6 _=>?_;have L6:=((((q.trans y).trans l4).trans l5).trans l6);refine .bnd (zJ f g ((u.mono L6).slice_of g w)) λω6 c c' l7 D=>?_;refine .bnd (zJ f n (I.mono ((H.trans L6).trans l7))) λω7 d d' l8 C=>?_;refine .bnd (zq hT p) λω8 z z' l9 hz=>?_;refine .bnd (vN ((((D.mono l8).append C).mono l9).append (hz.cells.zeroCells _))) λω9 a b c9 G=>?_;obtain⟨i,j,rfl,rfl,A⟩:=G;exact qf (.slice _ _ _ _ A)
      | some xt=>
       rw[ht1] at v;dsimp only at v ⊢;refine .bnd (qR hT xt) λU dx e5 q B=>?_;obtain⟨rfl,B⟩:=B;rw[B] at v;cases e5 with
       | int k=>cases v
       | _=>
        simp only[qiv,if_false,qnn,if_true,false_or,pure_bind];have LL:=(l.trans l1).trans q;have LB:=l1.trans q;refine .bndE (YN (I.mono LL)) λU n N=>?_;have H:=LL.trans N;have u:=hb.mono (LB.trans N);refine qF (λ_=>?_) λ_=>?_
        ·refine .bnd (zJ f n (I.mono H)) λX c c' q D=>?_;have F:=u.mono q;cases F with
         | ptrNil=>exact qf (.sliceNil _ _)
         | @ptr i j o s r=>
          dsimp only;have⟨o1,s1,S,e2⟩:=addr_add i j o (g*f) s;rw[S,e2];exact .bnd (jG (zm.1 D) 0 r) λT _ _ y _=>qf (.slice _ _ _ _ (r.mono y))
        ·refine .bndE (zu hT e) λX ti q=>?_;refine qF (λ_=>?_) λ_=>?_
         ·exact .bnd (R:=λ_ _ _=>False) (qy hT (hG.mono (H.trans q)) _) λ_ _ _ _ hf=>hf.elim
         ·refine .bndE (zu hT e) λω2 b0 y=>?_;refine qF (λ_=>?_) λ_=>?_
          ·exact .bad (Bad.bind (Bad.of_np (JJ _ _ _ _ _) λb=>by cases b<;>trivial) _)
          ·refine .bndE vP λω3 nc l4=>?_;refine .bndE (zu hT e) λω4 a9 l5=>?_;refine .bnd (Zj _) λω5 _ _ l6 _=>?_;have L6:=((((q.trans y).trans l4).trans l5).trans l6);refine .bnd (zJ f g ((u.mono L6).slice_of g w)) λω6 c c' l7 D=>?_;refine .bnd (zJ f n (I.mono ((H.trans L6).trans l7))) λω7 d d' l8 C=>?_;refine .bnd (zq hT p) λω8 z z' l9 hz=>?_;refine .bnd (vN ((((D.mono l8).append C).mono l9).append (hz.cells.zeroCells _))) λω9 a b c9 G=>?_;obtain⟨i,j,rfl,rfl,A⟩:=G;exact qf (.slice _ _ _ _ A)
     ·split
      ·exact absurd rfl (d6 _ _ _)
      ·exact qj
    | _=>exact qj
end
end
section
def qbu(Q:qhF)(a:Array qi4):Bool:=match a[0]? with | some t=>(match Q.underlying t with | some (.chan _ _)=>false | _=>true) | none=>true
section
variable[JunkSet]{Q P:qhF}(hT:P.toTables=Q.toTables){Z:Ren}{Y M W:Type}{R:Rel Y M}
include hT
theorem qde{g:Array qi4}{t:qi4}{a z:Array qhu}(h:AsR Z a z):SR Q P VR (qpo g t a) Z (qpo g t z):=by
 unfold qpo;cases ht0:g[0]? with
 | none=>exact qj
 | some G=>
  cases h0:a[0]? with
  | none=>exact qj
  | some d=>
   have⟨I,F,A⟩:=h.get h0;cases h1:a[1]? with
   | none=>exact qj
   | some x=>
    have⟨H,D,v⟩:=h.get h1;rw[F,D];dsimp only;refine .bndE (qD hT G) λO u l=>?_;cases u with
    | slice e=>
     dsimp only;rcases q3B (A.mono l) with⟨b,N,w,y,rfl,rfl,C⟩ | i
     ·dsimp only;refine .bndE (YN (v.mono l)) λV n r=>.bndE (qV hT e) λU f q=>?_;refine .bnd (zJ f _ (v.mono ((l.trans r).trans q))) λX c L p B=>?_;have k:=C.mono ((r.trans q).trans p);cases k with
      | ptrNil=>exact qf (.int _ _)
      | ptr o s j=>exact .bnd (jG (zm.1 B) 0 j) λT _ _ p _=>qf (.int _ _)
     ·split
      ·exact absurd rfl (i _ _ _)
      ·exact qj
    | _=>exact qj
theorem qff{i:Array qi4}{t:qi4}{a r:Array qhu}(g:qbu Q i=true)(h:AsR Z a r):SR Q P VR (qrb i t a) Z (qrb i t r):=by
 unfold qrb;cases ht0:i[0]? with
 | none=>exact qj
 | some B=>
  cases h0:a[0]? with
  | none=>exact qj
  | some d=>
   have⟨F,A,x⟩:=h.get h0;rw[A];dsimp only;refine .bnd (qR hT B) λO u s l j=>?_;obtain⟨rfl,j⟩:=j;have f:=x.mono l;cases s with
   | array n e=>exact qf (.int _ _)
   | pointer q=>
    refine .bndE (qD hT q) λV u l=>?_;cases u with
    | array n e=>exact qf (.int _ _)
    | _=>exact qj
   | string=>cases f<;>first | exact qj | exact qf (.int _ _)
   | slice e=>cases f<;>first | exact qj | exact qf (.int _ _)
   | map k e=>
    cases f with
    | mapNil=>exact qf (.int _ _)
    | map y=>
     refine .bnd (jP y) λV o C D v=>?_;cases v with
     | @map z p c w=>
      dsimp only;have:z.size=p.size:=w.length;rw[this];exact qf (.int _ _)
     | _=>exact qj
    | _=>exact qj
   | chan a b=>
    unfold qbu at g;rw[ht0] at g;dsimp only at g;rw[j] at g;cases g
   | _=>exact qj
theorem qfi{f:Array qi4}{t:qi4}{a k:Array qhu}(c:qbu Q f=true)(h:AsR Z a k):SR Q P VR (qrc f t a) Z (qrc f t k):=by
 unfold qrc;cases ht0:f[0]? with
 | none=>exact qj
 | some r=>
  cases h0:a[0]? with
  | none=>exact qj
  | some d=>
   have⟨s,q,p⟩:=h.get h0;rw[q];dsimp only;refine .bnd (qR hT r) λO u o l g=>?_;obtain⟨rfl,g⟩:=g;have i:=p.mono l;cases o with
   | array n e=>exact qf (.int _ _)
   | pointer j=>
    refine .bndE (qD hT j) λV u l=>?_;cases u with
    | array n e=>exact qf (.int _ _)
    | _=>exact qj
   | slice e=>cases i<;>first | exact qj | exact qf (.int _ _)
   | chan a b=>
    unfold qbu at c;rw[ht0] at c;dsimp only at c;rw[g] at c;cases c
   | _=>exact qj
omit hT in
theorem qdb{v c x b:qhu}(h:VR Z v c)(a:VR Z x b):SR Q P VR (Builtin.min2 v x) Z (Builtin.min2 c b):=by
 cases h with
 | int k n=>cases a<;>first | exact qf (.int _ _) | exact qj | exact qu
 | string s=>
  cases a with
  | string u=>exact(qf (VR.string _):SR Q P VR (pure (Value.string _)) Z (pure (Value.string _)))
  | _=>first | exact qj | exact qu
 | ptr o s d=>exact qu
 | _=>cases a<;>first | exact qj | exact qu
omit hT in
theorem qdc{v c x b:qhu}(h:VR Z v c)(a:VR Z x b):SR Q P VR (qsa v x) Z (qsa c b):=by
 cases h with
 | int k n=>cases a<;>first | exact qf (.int _ _) | exact qj | exact qu
 | string s=>
  cases a with
  | string u=>exact(qf (VR.string _):SR Q P VR (pure (Value.string _)) Z (pure (Value.string _)))
  | _=>first | exact qj | exact qu
 | ptr o s d=>exact qu
 | _=>cases a<;>first | exact qj | exact qu
omit hT in
theorem q3A{f g:qhu->qhu->Sem qhu}(o:∀{O:Ren} {v b x d:qhu},VR O v b->VR O x d->SR Q P VR (f v x) O (g b d)):∀{l c:List qhu} {Z:Ren} {v b:qhu},LsR (VR Z) l c->VR Z v b ->SR Q P VR (l.foldlM f v) Z (c.foldlM g b):=by
 intro l;induction l with
 | nil=>intro c Z v b h e;cases h;exact qf e
 | cons a l i=>
  intro c Z v b h e;cases h with
  | cons p n=>
   rw[qrq,qrq];exact .bnd (o e p) λO x d lσ j=>i (n.imp λ_ _ k=>k.mono lσ) j
omit hT in
theorem qfd{e:Array qi4}{t:qi4}{a d:Array qhu}(h:AsR Z a d):SR Q P VR (qp9 e t a) Z (qp9 e t d):=by
 have c:=zm.1 h;unfold qp9;generalize a.toList=l at c ⊢;generalize d.toList=l' at c ⊢;cases c with
 | nil=>exact qj
 | cons b f=>exact q3A (λh b=>qdb h b) f b
omit hT in
theorem qfe{e:Array qi4}{t:qi4}{a d:Array qhu}(h:AsR Z a d):SR Q P VR (qrd e t a) Z (qrd e t d):=by
 have c:=zm.1 h;unfold qrd;generalize a.toList=l at c ⊢;generalize d.toList=l' at c ⊢;cases c with
 | nil=>exact qj
 | cons b f=>exact q3A (λh b=>qdc h b) f b
def Qy(Q:qhF)(t:qi4):Bool:=match Q.underlying t with | some (.slice e)=>kZ Q e | _=>true
theorem qaA{g:Array qi4}{t:qi4}{a v:Array qhu}(h:AsR Z a v)(f:(match g[0]? with | some st=>Qy Q st | none=>true)=true):SR Q P VR (qof g t a) Z (qof g t v):=by
 unfold qof;cases ht0:g[0]? with
 | none=>exact qj
 | some C=>
  rw[ht0] at f;cases h0:a[0]? with
  | none=>exact qj
  | some d=>
   have⟨H,B,y⟩:=h.get h0;rw[B];dsimp only at f ⊢;refine .bnd (qR hT C) λO u b l q=>?_;obtain⟨rfl,q⟩:=q;unfold Qy at f;rw[q] at f;have r:=y.mono l;have fin:∀U,SR Q P VR (pure (.tuple #[]):Sem qhu) U (pure (.tuple #[])):=λU=>qf (AsR.tuple .nil);cases r with
   | mapNil=>cases b<;>exact fin _
   | sliceNil n c=>cases b<;>exact fin _
   | @map i j k=>
    have A:SR Q P VR (do
      let .map _ clock <- getObj i | stuck "clear: map expected"
      setObj i (.map #[] clock)
      pure (.tuple #[])) O (do
      let .map _ clock <- getObj j | stuck "clear: map expected"
      setObj j (.map #[] clock)
      pure (.tuple #[])):=by
     refine .bnd (jP k) λV o F p x=>?_;cases x with
     | map c G=>exact .bnd (jO (k.mono p) (.map c .nil)) λU _ _ _ _=>fin U
     | _=>exact qj
    cases b<;>exact A
   | slice o s n c k=>
    cases n with
    | zero=>cases b<;>exact fin _
    | succ n=>
     cases b with
     | slice e=>
      refine .bnd (zq hT f) λV z D p w=>?_;exact .bnd (jG (zm.1 (w.cells.zeroCells _)) 0 (k.mono p)) λU _ _ _ _=>fin U
     | _=>exact qj
   | _=>cases b<;>exact qj
theorem q2g(hG:Gl P Z){t:qi4}(p:Qy Q t=true){v A x y:qhu}(h:VR Z v A)(S:VR Z x y):SR Q P VR (Instr.makeSlice t v x) Z (Instr.makeSlice t A y):=by
 refine .bnd (qR hT t) λO d d' l s=>?_;obtain⟨rfl,s⟩:=s;unfold Qy at p;rw[s] at p;cases d' with
 | slice e=>
  dsimp only at p ⊢;refine .bndE (ZH (h.mono l)) λV G D=>.bndE (ZH (S.mono (l.trans D))) λU a8 I=>?_;refine .bndE (zu hT e) λX ti H=>?_;have L:=((l.trans D).trans I).trans H;have HG:=hG.mono L;have c:∀(O:Ren) (m:String) {f F:PUnit->Sem qhu},Le X O->SR Q P VR ((qlm (.error m):Sem PUnit)>>=f) O ((qlm (.error m):Sem PUnit)>>=F):=λO m f F lσ=>.bnd (R:=λ_ _ _=>False) (qy hT (HG.mono lσ) _) λ_ _ _ _ T=>T.elim;have g:∀(O:Ren) (n:Nat) {z k:Array qhu} (q w:Nat),AsR O z k->SR Q P VR (do
    let a <- newRow e ((qlE n).map λx=>z[x % z.size]!)
    pure (.slice (some a) q w)) O (do
    let a <- newRow e ((qlE n).map λx=>k[x % k.size]!)
    pure (.slice (some a) q w)):=λO n z k q w o=>by
   refine .bnd (vN (by rw[<- o.1];exact vD λi=>o.getBang _)) λω9 a b N u=>?_;obtain⟨i,j,rfl,rfl,r⟩:=u;exact qf (.slice _ _ _ _ r)
  refine qF (λ_=>?_) λ_=>?_
  ·refine qF (λ_=>c X _ (.refl X)) λ_=>qF (λ_=>c X _ (.refl X)) λ_=>?_;exact .bndE vP λω1 n C=>c ω1 _ C
  ·refine .bnd (Zj _) λω1 _ _ C _=>.bndE (qV hT e) λω2 B l5=>?_;refine qF (λ_=>g ω2 _ _ _ .nil) λ_=>?_;exact .bnd (zq hT p) λω4 z k _ o=>g ω4 _ _ _ o.cells
 | _=>exact qj
theorem q04{t:qi4}(p:Qy Q t=true)(n:Nat){k f:Array (Nat × qhu)}(h:LsR (q21 Z) k.toList f.toList):SR Q P VR (qrr t n k) Z (qrr t n f):=by
 refine .bnd (qR hT t) λO d F l u=>?_;obtain⟨rfl,u⟩:=u;unfold Qy at p;rw[u] at p;cases F with
 | slice e=>
  dsimp only at p ⊢;refine .bndE (qV hT e) λV c A=>?_;refine qF (λ_=>jd) λ_=>?_;have fin:∀(U:Ren) {z g:Array qhu},Le V U->AsR U z g->SR Q P VR (do
    let some cells:=qnm (λi=>some (i*c,c)) ((qlE (n*c)).map (λx=>z[x % z.size]!)) k.toList | stuck "buildSlice: a part of the wrong size"
    pure (.slice (some (<- newRow e cells)) n n)) U (do
    let some cells:=qnm (λi=>some (i*c,c)) ((qlE (n*c)).map (λx=>g[x % g.size]!)) f.toList | stuck "buildSlice: a part of the wrong size"
    pure (.slice (some (<- newRow e cells)) n n)):=by
   intro U z g q o;have C:LsR (q21 U) k.toList f.toList:=h.imp λ_ _ x=>⟨x.1,x.2.mono ((l.trans A).trans q)⟩;have D:AsR U ((qlE (n*c)).map (λx=>z[x % z.size]!)) ((qlE (n*c)).map (λx=>g[x % g.size]!)):=by rw[<- o.1];exact vD λi=>o.getBang _
   rcases q4w (λi=>some (i*c,c)) _ _ _ _ C D with⟨y,w⟩ | ⟨r,G,y,w,B⟩
   ·rw[y,w];exact qj
   ·rw[y,w];refine .bnd (vN B) λX a b _ v=>?_;obtain⟨i,j,rfl,rfl,s⟩:=v;exact qf (.slice _ _ _ _ s)
  refine qF (λ_=>fin V (.refl V) .nil) λ_=>?_;exact .bnd (zq hT p) λU z g q o=>fin U q o.cells
 | _=>exact qj
theorem q5A(t:qi4){r b:Option qhu}(h:Zy Z r b):SR Q P VR (qpp t r) Z (qpp t b):=by
 have fin:∀O,SR Q P VR (do pure (.map (some (<- newObj (.map #[] 0))))) O (do pure (.map (some (<- newObj (.map #[] 0))))):=λO=>.bnd (YL (.map 0 .nil)) λV i j _ a=>qf (.map a);unfold qpp;rcases h with⟨rfl,rfl⟩ | ⟨x,y,rfl,rfl,c⟩
 ·exact fin Z
 ·refine .bndE (qD hT t) λO d l=>?_;cases d with
  | map k e=>exact .bndE (ZH (c.mono l)) λV n _=>fin V
  | _=>exact qj
theorem JC(z:Bool):∀(n d:Nat) {Z:Ren} {t:qi4} {x i:qhu},eqB Q n t=true->VR Z x i->SR Q P (λ_ _ _=>True) (qlF z d t x) Z (qlF z d t i):=by
 intro n;induction n with
 | zero=>intro d Z t x i h;cases h
 | succ n w=>
  intro d Z t x i h g;cases d with
  | zero=>exact qu
  | succ d=>
   unfold qlF;refine .bnd (qR hT t) λO F j l a=>?_;obtain⟨rfl,a⟩:=a;replace g:=g.mono l;unfold eqB at h;rw[a] at h;cases j with
   | interface G=>cases h
   | struct H=>
    cases g with
    | agg v u=>
     dsimp only;rw[<- qmf,<- qmf];dsimp only at h;rw[qju] at h;refine .bndE (zO (K:=λX=>Le O X) (λ_ _ l k=>k.trans l) _ (λf y U b c=>?_) O _ (.refl O)) λU r c=>qf trivial;refine qF (λq=>?_) λ_=>qf rfl;have s:eqB Q n f.type=true:=by
      have:=h f (qko.1 y);simp only[qkt,beq_iff_eq] at this;exact this.resolve_left q
     exact .bnd (jJ hT (AsR.mono c ⟨v,u⟩) _) λω1 p A C o=>.bnd (w d s o) λω3 _ _ _ _=>qf rfl
    | _=>exact qj
   | array B e=>
    cases g with
    | agg v u=>
     dsimp only;rw[qk6,qk6];refine .bndE (zO (K:=λX=>Le O X) (λ_ _ l k=>k.trans l) _ (λf y U b c=>?_) O _ (.refl O)) λU r c=>qf trivial;exact .bndE (qV hT e) λω0 n D=>.bnd (jJ hT (AsR.mono (c.trans D) ⟨v,u⟩) _) λω1 p A C o=>.bnd (w d h o) λω3 _ _ _ _=>qf rfl
    | _=>exact qj
   | _=>cases g<;>exact qf trivial
def q37(Z:Ren)(a b:Option (Nat × qhu)):Prop:=(a=none/\b=none)\/∃i x y,a=some (i,x)/\b=some (i,y)/\VR Z x y
omit hT in
theorem q65(d:TypeDesc){x c y b:qhu}(f:VR Z x c)(e:VR Z y b):qoE d c b=qoE d x y:=by
 have a:∀{u:qhu},qc4 u=true->∀d v,qoE d u v=none/\qoE d v u=none:=by
  intro u g d v;cases u<;>first | (cases g;done) | (cases d<;>cases v<;>exact⟨rfl,rfl⟩)
 cases f with
 | wild _ h=>rw[(a h d _).1,(a (u:=.chan none) rfl d _).1]
 | _=>first
  | (cases d<;>rfl)
  | (
    cases e with
   | wild _ h=>rw[(a h d _).2,(a (u:=.chan none) rfl d _).2]
   | _=>cases d<;>rfl)
omit hT in
theorem q4u(d:TypeDesc){k f:qhu}(o:VR Z k f):∀{c a:List qlj} (i:Nat),LsR (kw Z) c a ->(qoF d k c i=none/\qoF d f a i=none)\/∃r j,qoF d k c i=some r/\qoF d f a i=some j/\q37 Z r j:=by
 intro c;induction c with
 | nil=>intro a i h;cases h;exact .inr ⟨none,none,rfl,rfl,.inl ⟨rfl,rfl⟩⟩
 | cons e c n=>
  intro a i h;cases h with
  | cons l g=>
   simp only[qoF,q65 d o l.key];cases qoE d k e.key with
   | none=>exact .inl ⟨rfl,rfl⟩
   | some b=>
    cases b with
    | true=>exact .inr ⟨_,_,rfl,rfl,.inr ⟨i,_,_,rfl,rfl,l.val⟩⟩
    | false=>exact n (i+1) g
theorem q02{t:qi4}(p:eqB Q 6 t=true){k j:qhu}:∀{c a:List qlj} {Z:Ren} (i:Nat),VR Z k j->Gl P Z->LsR (kw Z) c a ->SR Q P q37 (qm9 t k c i) Z (qm9 t j a i):=by
 intro c;induction c with
 | nil=>intro a Z i d g h;cases h;exact qf (.inl ⟨rfl,rfl⟩)
 | cons e c o=>
  intro a Z i d g h;cases h with
  | cons n f=>
   refine .bndE (Zi hT 6 _ p d n.key g) λO b l=>?_;refine qF (λ_=>qf (.inr ⟨i,_,_,rfl,rfl,n.val.mono l⟩)) λ_=>?_;exact o (i+1) (d.mono l) (g.mono l) (f.imp λ_ _ x=>x.mono l)
theorem YP{t:qi4}(j:eqB Q 6 t=true){k f:qhu}{b a:List qlj}(g:VR Z k f)(o:Gl P Z)(h:LsR (kw Z) b a) :SR Q P q37 (qmt t k b) Z (qmt t f a):=by
 refine .bndE (qD hT t) λO d l=>?_;have i:LsR (kw O) b a:=h.imp λ_ _ x=>x.mono l;rcases q4u d (g.mono l) 0 i with⟨e,c⟩ | ⟨r,p,e,c,n⟩
 ·rw[e,c];exact q02 hT j 0 (g.mono l) (o.mono l) i
 ·rw[e,c];exact qf n
end
end
section
section
variable[JunkSet]{Q P:qhF}(hT:P.toTables=Q.toTables){Z:Ren}{Y M W:Type}{R:Rel Y M}
include hT
def Kd(Q:qhF)(t:qi4):Bool:=match Q.underlying t with | some (.map k e)=>eqB Q 6 k && kZ Q e | _=>true
theorem q8f(I:Gl P Z){t:qi4}(f:Kd Q t=true)(c:Bool){m w k n:qhu}(hm:VR Z m w)(A:VR Z k n):SR Q P VR (qnx t m k c) Z (qnx t w n c):=by
 refine .bnd (qR hT t) λO d L l u=>?_;obtain⟨rfl,u⟩:=u;unfold Kd at f;rw[u] at f;cases L with
 | map kt B=>
  dsimp only at f ⊢;simp only[qic] at f;have fin:∀(V:Ren) {h a:Array qlj},Le Z V->LsR (kw V) h.toList a.toList->SR Q P VR (do
    qlF h.isEmpty 10000 kt k
    let (v,e) <- match <- qmt kt k h.toList with
     | some (_,v)=>pure (v,true)
     | none=>pure (<- qmy B,false)
    pure (if c then .tuple #[v,.bool e] else v)) V (do
    qlF a.isEmpty 10000 kt n
    let (v,e) <- match <- qmt kt n a.toList with
     | some (_,v)=>pure (v,true)
     | none=>pure (<- qmy B,false)
    pure (if c then .tuple #[v,.bool e] else v)):=by
   intro V h a lτ q;have g:a.isEmpty=h.isEmpty:=by
    have:=q.length;simp only[qqs] at this;simp[Array.isEmpty,this]
   rw[g];refine .bnd (JC hT _ 6 _ f.1 (A.mono lτ)) λU _ _ s _=>?_;refine .bnd (YP hT f.1 (A.mono (lτ.trans s)) (I.mono (lτ.trans s)) (q.imp λ_ _ x=>x.mono s)) λX r S l2 F=>?_;have b:∀(T:Ren) {v j:qhu} (e:Bool),VR T v j->SR Q P VR (pure (if c then .tuple #[v,.bool e] else v):Sem qhu) T (pure (if c then .tuple #[j,.bool e] else j)):=by
    intro T v j e p;cases c with
    | true=>exact qf (AsR.tuple (zm.2 (.cons p (.cons (.bool _) .nil))))
    | false=>exact qf p
   rcases F with⟨rfl,rfl⟩ | ⟨i,x,y,rfl,rfl,p⟩
   ·exact .bnd (zq hT f.2) λT z N _ D=>b T false D
   ·exact b X true p
  cases(hm.mono l) with
  | mapNil=>exact fin O l .nil
  | map H=>
   refine .bnd (jP H) λV o o' C G=>?_;cases G with
   | map c q=>exact fin V (l.trans C) q
   | _=>exact zv
  | _=>exact zv
 | _=>exact qj
omit hT in
theorem LsR.get{Y M:Type}{R:Y->M->Prop}{l:List Y}{m:List M}(h:LsR R l m)(i:Nat):(l[i]?=none/\m[i]?=none)\/∃x y,l[i]?=some x/\m[i]?=some y/\R x y:=by
 induction h generalizing i with
 | nil=>exact .inl ⟨by simp,by simp⟩
 | cons b c a=>
  cases i with
  | zero=>exact .inr ⟨_,_,rfl,rfl,b⟩
  | succ i=>simpa using a i
omit hT in
theorem q4C{l k:Array qlj}(h:LsR (kw Z) l.toList k.toList)(i:Nat){f g:qlj->qlj}(o:∀e n,kw Z e n->kw Z (f e) (g n)):LsR (kw Z) (l.modify i f).toList (k.modify i g).toList:=by
 rw[q7o] at h ⊢;simp only[qqs,qos] at h ⊢;refine⟨by simpa using h.1,λj x y d c=>?_⟩;rw[qmi] at d c;by_cases e:i=j
 ·rw[if_pos e] at d c;cases hx':l[j]? with
  | none=>rw[hx'] at d;cases d
  | some a=>
   cases hy':k[j]? with
   | none=>rw[hy'] at c;cases c
   | some b=>
    rw[hx'] at d;rw[hy'] at c;cases d;cases c;exact o _ _ (h.2 j a b hx' hy')
 ·rw[if_neg e] at d c;exact h.2 j x y d c
def q7w(Q:qhF)(s d:qi4):Bool:=match Q.underlying s,Q.underlying d with | some (.int _),some (.int _)=>true | _,_=>false
theorem q5E{s d:qi4}(c:q7w Q s d=true){v g:qhu}(h:VR Z v g):SR Q P VR (convert s d v) Z (convert s d g):=by
 refine .bnd (qR hT s) λO a j l f=>.bnd (qR hT d) λV b i o e=>?_;obtain⟨rfl,f⟩:=f;obtain⟨rfl,e⟩:=e;unfold q7w at c;rw[f,e] at c;cases j with
 | int q=>
  cases i with
  | int p=>
   cases h with
   | int k n=>exact qf (.int _ _)
   | _=>first | exact qu | exact qj
  | _=>cases c
 | _=>cases i<;>cases c
end
end
section
inductive zW [JunkSet] (Z:Ren):qmm->qmm->Prop
 | value {v v':qhu}:VR Z v v'->zW Z (.value v) (.value v')
 | skip:zW Z .skip .skip
 | enter {f:qj8} {a a':Array qhu}:JunkSet.okf f->AsR Z a a'->zW Z (.enter f a) (.enter f a')
 | round {l l':Nat} (f:qj8) {t t':Array qhu} {a b:qkh}:BR Z l l'->AsR Z t t'->JunkSet.okg f->JunkSet.okc a->JunkSet.okc b->zW Z (.round l f t a b) (.round l' f t' a b)
 | defer {d d':qjH}:kg Z d d'->zW Z (.defer d) (.defer d')
 | recover:zW Z .recover .recover
def biB(Q:qhF)(b:Builtin)(a:Array qi4):Bool :=
 match b with
 | .append=>qg2 Q a
 | .len | .cap=>qbu Q a
 | .copy | .min | .max | .recover | .panic=>true
 | .clear=>match a[0]? with | some st=>Qy Q st | none=>true
 | _=>false
structure Pair[JunkSet](Q P:qhF):Prop where
 bis:∀b ts,JunkSet.okb b ts->biB Q b ts=true
 tables:P.toTables=Q.toTables
 funcs:∀f,JunkSet.okf f->∃fq fp,Q.funcs[f]?=some fq/\P.funcs[f]?=some fp/\fq.body.isNone=false/\fp.body.isNone=false/\(fq.name == "runtime.NumGoroutine")=false/\(fp.name == "runtime.NumGoroutine")=false
 meths:∀n,JunkSet.okm n->∀t i m,Q.info? t=some i->i.methods.find? (·.name == n)=some m->m.path=#[]/\∃f b,m.func=some (f,b)/\JunkSet.okf f/\∀e,Q.underlying t=some (.pointer e)->b=true
 nometh:∀i,Q.info? 0=some i->(i.methods.find? (·.name == "")).isNone=true
section
variable[JunkSet]{Q P:qhF}(H:Pair Q P){Z:Ren}{Y M W:Type}{R:Rel Y M}
def yC{l a:Nat}(h:BR Z l a):SR Q P Zb (qqz l) Z (qqz a) :=
 .bnd (jP h) λO o c _ b=>by
  cases b with
  | loop h=>exact qf h
  | _=>exact qj
def q0g:∀{e:List (Tmp × qhu)} {d:List (Tmp × qhu)} {t f:Array qhu},LsR (λa b=>b.1=a.1/\VR Z a.2 b.2) e d->AsR Z t f ->AsR Z (e.foldl (λc (x:Tmp × qhu)=>c.setIfInBounds x.1 x.2) t) (d.foldl (λc (x:Tmp × qhu)=>c.setIfInBounds x.1 x.2) f):=by
 intro e;induction e with
 | nil=>intro d t f h g;cases h;exact g
 | cons p e j=>
  intro d t f h g;cases h with
  | @cons _ q _ n l i=>
   obtain⟨a,x⟩:=p;obtain⟨b,y⟩:=q;obtain⟨rfl,k⟩:=l;simp only[qln];exact j i (g.set _ k)
def qcE{c:List Tmp}:∀{a d:List qhu},LsR (VR Z) a d->LsR (λ(a b:Tmp × qhu)=>b.1=a.1/\VR Z a.2 b.2) (c.zip a) (c.zip d):=by
 induction c with
 | nil=>intro a d h;exact .nil
 | cons p c e=>
  intro a d h;cases h with
  | nil=>exact .nil
  | cons f g=>exact .cons ⟨rfl,f⟩ (e g)
def qar{l c:Nat}(h:BR Z l c){a e:Array qhu}(d:AsR Z a e):SR Q P zW (Instr.yield l a) Z (Instr.yield c e):=by
 refine .bnd (yC h) λO r f lσ b=>?_;dsimp only;rw[b.params,<- d.1,b.fn,b.assign,b.body];refine qF (λ_=>zv) λ_=>q3w ?_;refine qf (.round _ (h.mono lσ) ?_ b.okF b.okA b.okB);rw[<- qo2,<- qo2,qrs,qrs];exact q0g (qcE (zm.1 (d.mono lσ))) b.tmps
include H
theorem JD{f:qj8}(b:JunkSet.okf f){a c:Array qhu}(d:AsR Z a c):SR Q P zW (callFunc f a) Z (callFunc f c):=by
 have⟨l,n,k,j,i,h,g,e⟩:=H.funcs f b;refine zK ?_;rw[k,j];dsimp only;rw[g,e,i,h];exact qf (.enter b d)
theorem q8e(n:String)(B:JunkSet.okm n)(g c:Nat)(C:(g=0↔c=0)){t:qi4}{v j:qhu}(h:VR Z v j) :SR Q P (λO a b=>b.1=a.1/\JunkSet.okf a.1/\VR O a.2 b.2) (method g t v n) Z (method c t j n):=by
 cases g with
 | zero=>exact qu
 | succ k=>
  cases c with
  | zero=>omega
  | succ L=>
   unfold method;refine .bnd (xq H.tables t) λO i w l s=>?_;obtain⟨rfl,s⟩:=s;cases hm:w.methods.find? (·.name == n) with
   | none=>exact qj
   | some m=>
    have⟨A,f,b,D,q,o⟩:=H.meths n B t w m s hm;dsimp only;rw[A,D];have e:(follow (#[]:Array qrt).toList t (.val v))=pure (t,.val v):=rfl;have F:(follow (#[]:Array qrt).toList t (.val j))=pure (t,.val j):=rfl;rw[e,F];have p:SR Q P VR (receiverAt t (.val v) b (if(#[]:Array qrt).isEmpty=true then some ((n.splitOn ".").getLastD n) else none)) O (receiverAt t (.val j) b (if(#[]:Array qrt).isEmpty=true then some ((n.splitOn ".").getLastD n) else none)):=by
     refine .bnd (qR H.tables t) λV d G y u=>?_;obtain⟨rfl,u⟩:=u;have x:=h.mono (l.trans y);cases G with
     | pointer e=>
      have:=o e u;subst this;exact qf x
     | _=>
      cases b with
      | true=>exact qj
      | false=>exact qf x
    exact SR.bnd (S:=λO a b=>b.1=a.1/\JunkSet.okf a.1/\VR O a.2 b.2) (f:=λr=>pure (f,r)) (f':=λr=>pure (f,r)) p λV r I _ z=>qf ⟨rfl,q,z⟩
theorem q03(p:Gl P Z)(n:String)(k:JunkSet.okm n){v e:qhu}(h:VR Z v e){a g:Array qhu}(o:AsR Z a g):SR Q P zW (callMethod v n a) Z (callMethod e n g):=by
 cases h with
 | iface t i=>
  refine zK ?_;have:P.types.size=Q.types.size:=by rw[H.tables]
  rw[this];refine .bnd (q8e H n k _ _ Iff.rfl i) λO a b l d=>?_;obtain⟨f,r⟩:=a;obtain⟨s,q⟩:=b;obtain⟨rfl,c,j⟩:=d;exact JD H c ((AsR.one j).append (o.mono l))
 | nilIface=>exact(qy H.tables p .nilDeref:SR Q P zW (qlm .nilDeref) Z (qlm .nilDeref))
 | _=>exact qj
omit [JunkSet] H in
theorem Z8{Y:Type}(a:∀i,Q.info? 0=some i->(i.methods.find? (·.name == "")).isNone=true)(f:qlD->Sem Y)(b:∀i,i.methods.find? (·.name == "")=none->Bad Q (f i)):Bad Q (qlx 0>>=f):=by
 show Bad Q ((match Q.info? 0 with | some i=>(pure i:Sem qlD) | none=>stuck "no such type").bind f);cases h:Q.info? 0 with
 | none=>exact rfl
 | some i=>exact b i (by simpa using a i h)
theorem KS(a:Array qhu):Bad Q (callMethod (.iface 0 .nilIface) "" a):=by
 show Bad Q ((method (Q.types.size+_) 0 .nilIface "").bind _);refine Bad.bind ?_ _;generalize Q.types.size+_=n;cases n with
 | zero=>exact rfl
 | succ n=>
  unfold method;refine Z8 H.nometh _ λi b=>?_;rw[b];exact rfl
theorem q9A:Bad Q (do
  if(<- nilAhead ((<- program).types.size+Made.depth) 0 .nilIface "") != some false then
   unsupported (.noEntry "op/nilCheck.the method's receiver behind this interface value is a nil pointer, or cannot be seen to be none, and the arguments act or may panic (ledger 612)")
  pure (Next.value (.func (.method "") #[.iface 0 .nilIface] #[]))):=by
 show Bad Q ((nilAhead (Q.types.size+Made.depth) 0 .nilIface "").bind _);cases hn:Q.types.size+Made.depth with
 | zero=>exact rfl
 | succ n=>
  refine Bad.bind ?_ _;unfold nilAhead;refine Z8 H.nometh _ λi a=>?_;rw[a];exact rfl
omit H in
theorem qfh:SR Q P EqR (sys .env) Z (sys .env):=.inr ⟨rfl,_,rfl,λr=>⟨r,rfl,rfl⟩⟩
theorem q3x:SR Q P EqR qog Z qog:=by
 unfold qog;refine .bndE qfh λO r l=>?_;cases r with
 | strings e=>
  dsimp only;refine zK ?_;have:P.godebug=Q.godebug:=by rw[H.tables]
  rw[this];exact qf rfl
 | _=>exact qj
theorem YK{R:Rel qhu qhu}{v a:qhu}(c:Gl P Z)(h:VR Z v a):SR Q P R (Instr.panic v) Z (Instr.panic a):=by
 cases h with
 | iface t b=>exact(ye (.iface t b):SR Q P R (goPanic _) Z (goPanic _))
 | nilIface=>
  show SR Q P R (qog>>=_) Z (qog>>=_);refine .bndE (q3x H) λO n l=>?_;exact qF (λ_=>ye .nilIface) λ_=>qy H.tables (c.mono l) _
 | _=>exact qj
theorem yd{s d:Sem qhu}(h:SR Q P VR s Z d):SR Q P zW (do pure (.value (<- s))) Z (do pure (.value (<- d))):=.bnd h λO a b _ c=>qf (.value c)
theorem sr_u{s c:Sem Unit}(h:SR Q P (λ_ _ _=>True) s Z c):SR Q P zW (do s;pure .skip) Z (do c;pure .skip):=.bnd h λO a b _ _=>qf .skip
theorem q5G(f:Gl P Z){b:Builtin}{e:Array qi4}{t:qi4}{g:Array Bool}(d:biB Q b e=true){a h:Array qhu}(c:AsR Z a h) :SR Q P zW (builtin b e t g a) Z (builtin b e t g h):=by
 cases b<;>first | (cases d;done) | skip
 ·exact yd H (q8i H.tables f c d)
 ·exact yd H (qfi H.tables d c)
 ·exact yd H (qaA H.tables c d)
 ·exact yd H (qde H.tables c)
 ·exact yd H (qff H.tables d c)
 ·exact yd H (qfe c)
 ·exact yd H (qfd c)
 ·exact yd H (YK H f (c.getD 0 .nilIface))
 ·exact qf .recover
theorem Zh{v d:qhu}(h:VR Z v d){a f:Array qhu}(e:AsR Z a f):SR Q P kg (Deferred.ofValue v a) Z (Deferred.ofValue d f):=by
 cases h with
 | func g l k j i=>exact qf (.mk (.fn g ⟨j,i⟩) (AsR.append ⟨l,k⟩ e))
 | nilFunc=>exact qf (.mk .nil e)
 | meth n b c=>exact qf (.bound rfl (by simp[qlh]) ⟨_,_,rfl⟩)
 | _=>exact qj
theorem vO(j:Gl P Z){d g:qjH}(h:kg Z d g):SR Q P zW (invoke d.target d.args) Z (invoke g.target g.args):=by
 obtain⟨t,a⟩:=d;obtain⟨y,B⟩:=g;rcases h with⟨k,c⟩ | ⟨p,o,_⟩
 case bound=>
  dsimp only at p o ⊢;subst p;unfold invoke;dsimp only;rw[o];exact .bad (KS H _)
 dsimp only at k c ⊢;cases k with
 | fn u v=>
  cases u with
  | func f i=>exact JD H i (c.append v)
  | yield l=>exact qar l c
 | meth n s=>
  unfold invoke;dsimp only;cases h0:a[0]? with
  | none=>exact qj
  | some r=>
   have⟨z,e,q⟩:=c.get h0;rw[e,<- c.1];exact q03 H j n s q (c.extract _ _)
 | nil=>exact(qy H.tables j .nilDeref:SR Q P zW (qlm .nilDeref) Z (qlm .nilDeref))
 | builtin b x t A w=>exact q5G H j (H.bis _ _ w) c
 | collected l=>exact qj
end
end
section
inductive qH [JunkSet] (Q:qhF):qiy->Prop
 | tmp (t:Tmp):qH Q (.tmp t)
 | const {v:qhu}:vE v->qH Q (.const v)
 | global {g:Nat}:g<Q.globals.size->qH Q (.global g)
 | func {f:qj8}:JunkSet.okf f->qH Q (.func f)
def jt[JunkSet](Q:qhF)(l:List qiy):Prop:=∀x∈l,qH Q x
inductive km [JunkSet] (Q:qhF):Call->Prop
 | value {f:qiy} {a:Array qiy} {ts:Array qi4}:qH Q f->jt Q a.toList->km Q ⟨.value f,a,ts⟩
 | invoke {r:qiy} {n:String} {a:Array qiy} {ts:Array qi4}:qH Q r->JunkSet.okm n->jt Q a.toList->km Q ⟨.invoke r n,a,ts⟩
 | builtin {b:Builtin} {a:Array qiy} {ts:Array qi4}:JunkSet.okb b ts->jt Q a.toList->km Q ⟨.builtin b,a,ts⟩
inductive qN [JunkSet] (Q:qhF):Op->Prop
 | move {x:qiy}:qH Q x->qN Q (.move x)
 | assign {x:qiy}:qH Q x->qN Q (.assign x)
 | pick {c a b:qiy}:qH Q c->qH Q a->qH Q b->qN Q (.pick c a b)
 | alloc {t:qi4}:kZ Q t=true->qN Q (.alloc t)
 | box {t:qi4} {x:qiy}:qH Q x->qN Q (.box t x)
 | build {t:qi4} {ps:Array (Nat × qiy)}:kZ Q t=true->jt Q (ps.toList.map (·.2))->qN Q (.build t ps)
 | buildSlice {t:qi4} {n:Nat} {ps:Array (Nat × qiy)}:Qy Q t=true->jt Q (ps.toList.map (·.2))->qN Q (.buildSlice t n ps)
 | load {t:qi4} {x:qiy}:qH Q x->qN Q (.load t x)
 | store {t:qi4} {a x:qiy}:qH Q a->qH Q x->qN Q (.store t a x)
 | nilCheck {x:qiy}:qH Q x->qN Q (.nilCheck x)
 | arith {op:BinOp} {t u:qi4} {x y:qiy}:q0e op=false->q2m Q t=true->qH Q x->qH Q y->qN Q (.binOp op t x y u)
 | eql {op:BinOp} {t u:qi4} {x y:qiy}:q0e op=true->q9n Q t x y=true->qH Q x->qH Q y->qN Q (.binOp op t x y u)
 | unOp {op:UnOp} {t:qi4} {x:qiy}:qH Q x->qN Q (.unOp op t x)
 | convert {s d:qi4} {x:qiy}:q7w Q s d=true->qH Q x->qN Q (.convert s d x)
 | makeInterface {t:qi4} {x:qiy}:qH Q x->qN Q (.makeInterface t x)
 | makeFunc {f:qj8} {a b:Array qiy}:JunkSet.okf f->jt Q a.toList->jt Q b.toList->qN Q (.makeFunc (.func f) a b)
 | makeMap {t:qi4} {r:Option qiy}:jt Q r.toList->qN Q (.makeMap t r)
 | makeSlice {t:qi4} {l c:qiy}:Qy Q t=true->qH Q l->qH Q c->qN Q (.makeSlice t l c)
 | slice {t:qi4} {x:qiy} {l h m:Option qiy}:qH Q x->jt Q l.toList->jt Q h.toList->jt Q m.toList->qN Q (.slice t x l h m)
 | fieldAddr {t:qi4} {x:qiy} {f:Nat}:q2w Q t f=true->qH Q x->qN Q (.fieldAddr t x f)
 | field {t:qi4} {x:qiy} {f:Nat}:qH Q x->qN Q (.field t x f)
 | indexAddr {t:qi4} {x i:qiy}:qH Q x->qH Q i->qN Q (.indexAddr t x i)
 | index {t:qi4} {x i:qiy}:qH Q x->qH Q i->qN Q (.index t x i)
 | lookup {t:qi4} {x i:qiy} {c:Bool}:Kd Q t=true->qH Q x->qH Q i->qN Q (.lookup t x i c)
 | mapUpdate {t:qi4} {m k x:qiy}:Kd Q t=true->qH Q m->qH Q k->qH Q x->qN Q (.mapUpdate t m k x)
 | insert {t:qi4} {m k x:qiy}:Kd Q t=true->qH Q m->qH Q k->qH Q x->qN Q (.insert t m k x)
 | typeAssert {x:qiy} {t a:qi4} {c:Bool}:kZ Q a=true->qH Q x->qN Q (.typeAssert x t a c)
 | extract {x:qiy} {i:Nat}:qH Q x->qN Q (.extract x i)
 | call {c:Call}:km Q c->qN Q (.call c)
 | defer {c:Call}:km Q c->qN Q (.defer c)
 | panic {x:qiy}:qH Q x->qN Q (.panic x)
section
variable[JunkSet]{Q P:qhF}(H:Pair Q P){Z:Ren}{e e':qiy->qhu}
def xF(d:∀x,qH Q x->VR Z (e x) (e' x)){a:Array qiy}(f:jt Q a.toList):AsR Z (a.map e) (a.map e'):=by
 refine⟨by simp,λi x y b c=>?_⟩;rw[qo4] at b c;cases h:a[i]? with
 | none=>rw[h] at b;cases b
 | some o=>
  rw[h] at b c;cases b;cases c;exact d o (f o (by rw[qko];exact qjB h))
def q1c(f:∀x,qH Q x->VR Z (e x) (e' x)){a:Array (Nat × qiy)}(b:jt Q (a.toList.map (·.2))) :LsR (q21 Z) (a.map λ(x:Nat × qiy)=>(x.1,e x.2)).toList (a.map λ(x:Nat × qiy)=>(x.1,e' x.2)).toList:=by
 simp only[Array.toList_map];generalize a.toList=l at b;induction l with
 | nil=>exact .nil
 | cons p l c=>exact .cons ⟨rfl,f _ (b _ (qpd ..))⟩ (c λx d=>b x (qoH _ d))
def Yq(b:∀x,qH Q x->VR Z (e x) (e' x)){o:Option qiy}(a:jt Q o.toList):Zy Z (o.map e) (o.map e'):=by
 cases o with
 | none=>exact .inl ⟨rfl,rfl⟩
 | some x=>exact .inr ⟨_,_,rfl,rfl,b x (a x (by simp))⟩
def Jm(a:∀v,e (.const v)=v){x:qiy}(h:kK x=true):e x=.nilIface:=by
 unfold kK at h;split at h
 ·exact a _
 ·cases h
include H
theorem xu(a:∀x,qH Q x->VR Z (e x) (e' x)){c:Call}(h:km Q c)(t:qi4):SR Q P kg (resolve e c t) Z (resolve e' c t):=by
 cases h with
 | value g b=>exact Zh H (a _ g) (xF a b)
 | invoke d f b=>exact qf (.mk (.meth _ f) ((AsR.one (a _ d)).append (xF a b)))
 | builtin i b=>exact qf (.mk (.builtin _ _ _ _ i) (xF a b))
def qbw:Op->Bool
 | .mapUpdate .. | .insert ..=>true
 | _=>false
theorem q11(g:∀x,qH Q x->VR Z (e x) (e' x))(r:Gl P Z)(Y:Inj Z)(B:∀v,e (.const v)=v){o:qjn}(M:qN Q o.op)(A:qbw o.op=false):SR Q P zW (qkA e o) Z (qkA e' o):=by
 have T:=H.tables;obtain⟨V,R,X,N,after,guard⟩:=o;dsimp only at M A;cases M with
 | move h=>exact qf (.value (g _ h))
 | assign h=>exact qf (.value (g _ h))
 | pick j i q=>
  refine .bndE (q8h (g _ j)) λO b l=>?_;refine qf (.value ?_);cases b with
  | true=>exact(g _ i).mono l
  | false=>exact(g _ q).mono l
 | alloc h=>exact yd H (qaE T h)
 | box h=>exact yd H (qfj _ (g _ h))
 | build j i=>exact yd H (qaB T j (q1c g i))
 | buildSlice j i=>exact yd H (q04 T j _ (q1c g i))
 | load h=>exact yd H (q8g T _ (g _ h))
 | store j i=>exact sr_u H (q5w T _ (g _ j) (g _ i))
 | @nilCheck x h=>
  have D:=g _ h;unfold qkA;dsimp only;generalize e x=v at D ⊢;generalize e' x=v' at D ⊢;have k:SR Q P zW (pure (.value v)) Z (pure (.value v')):=qf (.value D);cases D with
  | ptrNil=>exact qy T r .nilDeref
  | nilIface=>exact qy T r .nilDeref
  | nilFunc=>exact qy T r .nilDeref
  | func U j i q s=>
   cases U with
   | func f S=>exact k
   | yield hb=>exact k
  | wild _ h=>cases v'<;>first | exact k | (cases h;done) | (rename_i p;cases p<;>first | exact k | (cases h;done)) | (rename_i p _ _;cases p<;>first | exact k | (cases h;done))
  | meth n a c=>exact .bad (q9A H)
  | _=>exact k
 | arith j i q s=>
  refine yd H (.bnd (YQ T (λh=>by rw[j] at h;cases h) (g _ q) (g _ s) ?_ ?_ ?_) λO _ _ l _=>qaD T j i ((g _ q).mono l) ((g _ s).mono l) (r.mono l))
  ·exact λz=>Jm B z
  ·exact λz=>Jm B z
  ·exact λh=>by rw[j] at h;cases h
 | @eql R t u x y j i q s=>
  have I:∀a b,Q.underlying t≠some (.chan a b):=by
   unfold q9n at i;simp only[qkt,qic] at i;rcases i with i | ⟨_,C⟩
   ·exact ym i
   ·intro a b e;rw[e] at C;cases C
  by_cases L:e x=.chan none\/e y=.chan none
  ·exact .bad (Bad.bind (qen T j I L) _)
  have F:∀w,(w=e x\/w=e y)->w≠.chan none:=λw h e'=>L (by rcases h with rfl | rfl;exact .inl e';exact .inr e');refine yd H (.bnd (YQ T (λ_=>i) (g _ q) (g _ s) (λz=>Jm B z) (λz=>Jm B z) (λ_=>F)) λO _ _ l _=>?_);unfold q9n at i;simp only[qkt,qic] at i;rcases i with i | ⟨i,C⟩
  ·exact qfg T j i ((g _ q).mono l) ((g _ s).mono l) (r.mono l)
  ·refine qaz T j ?_ ((g _ q).mono l) ((g _ s).mono l) (i.imp (Jm B) (Jm B));split at C
   ·exact⟨_,‹_›⟩
   ·cases C
 | unOp h=>exact yd H (qas T (g _ h))
 | convert j i=>exact yd H (q5E T j (g _ i))
 | makeInterface h=>exact yd H (Jg T _ (g _ h))
 | makeFunc j i q=>exact qf (.value (.func (.func _ j) (xF g i).1 (xF g i).2 (xF g q).1 (xF g q).2))
 | makeMap h=>exact yd H (q5A T _ (Yq g h))
 | makeSlice j i q=>exact yd H (q2g T r j (g _ i) (g _ q))
 | slice j i q s=>exact yd H (q5x T r _ (g _ j) (Yq g i) (Yq g q) (Yq g s))
 | fieldAddr j i=>exact yd H (q5C T j (g _ i))
 | field h=>exact yd H (qay T _ (g _ h) _)
 | indexAddr j i=>exact yd H (q5B T r _ (g _ j) (g _ i))
 | index j i=>exact yd H (qax T r _ (g _ j) (g _ i))
 | lookup j i q=>exact yd H (q8f T r j _ (g _ i) (g _ q))
 | mapUpdate j i q s=>cases A
 | insert j i q s=>cases A
 | typeAssert j i=>exact yd H (q01 T r j _ (g _ i))
 | extract h=>exact yd H (q5D (g _ h) _)
 | call h=>exact .bnd (xu H g h _) λO d W l G=>vO H (r.mono l) G
 | defer h=>exact .bnd (xu H g h _) λO d W l G=>qf (.defer G)
 | panic h=>exact yd H (YK H r (g _ h))
end
end
section
inductive qB [JunkSet] (Q:qhF):qkh->Prop
 | skip:qB Q .skip
 | region {id:Nat} {ops:Array qjn} {d:Bool}:(∀o∈ops.toList,qN Q o.op)->qB Q (.region id ops d)
 | seq {a b:qkh}:qB Q a->qB Q b->qB Q (.seq a b)
 | cond {c:qiy} {a b:qkh}:qH Q c->qB Q a->qB Q b->qB Q (.cond c a b)
 | block {id:Nat} {c:qkh}:qB Q c->qB Q (.block id c)
 | loop {c:qkh}:qB Q c->qB Q (.loop c)
 | rangeFunc {f:qiy} {ps:Array Tmp} {a c:qkh}:qH Q f->qB Q a->qB Q c->qB Q (.rangeFunc f ps a c)
 | exit (id:Nat):qB Q (.exit id)
 | scope {c:qkh}:qB Q c->qB Q (.scope c)
 | label (l:Nat):qB Q (.label l)
 | goto (l:Nat):qB Q (.goto l)
 | ret:qB Q .ret
inductive zp [JunkSet] (Q:qhF) (Z:Ren):qlG->qlG->Prop
 | code {c:qkh}:qB Q c->zp Q Z (.code c) (.code c)
 | inBlock (id:Nat):zp Q Z (.inBlock id) (.inBlock id)
 | inLoop {c:qkh}:qB Q c->zp Q Z (.inLoop c) (.inLoop c)
 | inScope {c:qkh}:qB Q c->zp Q Z (.inScope c) (.inScope c)
 | inRegion {ops:Array qjn} (l:List Nat):(∀o∈ops.toList,qN Q o.op)->zp Q Z (.inRegion ops l) (.inRegion ops l)
 | inRangeFunc {l l':Nat}:BR Z l l'->zp Q Z (.inRangeFunc l) (.inRangeFunc l')
 | endRangeFunc {l l':Nat}:BR Z l l'->zp Q Z (.endRangeFunc l) (.endRangeFunc l')
 | beginRound:zp Q Z .beginRound .beginRound
structure J3[JunkSet](Z:Ren)(a b:qn0):Prop where
 v:VR Z a.v b.v
 rcv:b.recovered=a.recovered
 goexit:b.goexit=a.goexit
inductive kU [JunkSet] (Z:Ren):FrameMode->FrameMode->Prop
 | run:kU Z .run .run
 | returning:kU Z .returning .returning
 | panicking {l l':List qn0}:LsR (J3 Z) l l'->kU Z (.panicking l) (.panicking l')
def OBR(Z:Ren)(a b:Option Nat):Prop:=(a=none/\b=none)\/∃i j,a=some i/\b=some j/\BR Z i j
structure qw[JunkSet](Q P:qhF)(Z:Ren)(f f':qhG):Prop where
 fn:f'.fn=f.fn
 same:∃g,Q.funcs[f.fn]?=some g/\P.funcs[f.fn]?=some g
 okf:Q.inits.idxOf? f.fn=none
 tmps:AsR Z f.tmps f'.tmps
 todo:LsR (zp Q Z) f.todo f'.todo
 defers:LsR (kg Z) f.defers f'.defers
 mode:kU Z f.mode f'.mode
 kind:f'.kind=f.kind
 round:OBR Z f.roundOf f'.roundOf
section
variable[JunkSet]{Q P:qhF}{Z O:Ren}
def zp.mono(l:Le Z O){a b:qlG}(h:zp Q Z a b):zp Q O a b:=by
 cases h with
 | code h=>exact .code h
 | inBlock id=>exact .inBlock id
 | inLoop h=>exact .inLoop h
 | inScope h=>exact .inScope h
 | inRegion l h=>exact .inRegion l h
 | inRangeFunc h=>exact .inRangeFunc (h.mono l)
 | endRangeFunc h=>exact .endRangeFunc (h.mono l)
 | beginRound=>exact .beginRound
def J3.mono(l:Le Z O){a b:qn0}(h:J3 Z a b):J3 O a b:=⟨h.v.mono l,h.rcv,h.goexit⟩
def kU.mono(l:Le Z O){a b:FrameMode}(h:kU Z a b):kU O a b:=by
 cases h with
 | run=>exact .run
 | returning=>exact .returning
 | panicking h=>exact .panicking (h.imp λ_ _ k=>k.mono l)
def OBR.mono(l:Le Z O){a b:Option Nat}(h:OBR Z a b):OBR O a b:=h.imp id λ⟨i,j,e,d,c⟩=>⟨i,j,e,d,c.mono l⟩
def qw.mono(l:Le Z O){f a:qhG}(h:qw Q P Z f a):qw Q P O f a :=
 ⟨h.fn,h.same,h.okf,h.tmps.mono l,h.todo.imp λ_ _ k=>k.mono l,h.defers.imp λ_ _ k=>k.mono l,h.mode.mono l,h.kind,h.round.mono l⟩
structure kV[JunkSet](Q P:qhF)(Z:Ren)(g g':qhw):Prop where
 frame:qw Q P Z g.frame g'.frame
 callers:LsR (qw Q P Z) g.callers g'.callers
 st:g.status=.running
 st':g'.status=.running
 dy:g.dying=none
 dy':g'.dying=none
def kC(Z:Ren):VR Z qhx undef:=AsR.tuple .nil
def qw.eval(e:Gl P Z)(k:P.globals.size=Q.globals.size){f b:qhG}(h:qw Q P Z f b){x:qiy}(a:qH Q x):VR Z (f.eval x) (b.eval x):=by
 cases a with
 | tmp t=>exact h.tmps.getD t (kC Z)
 | const c=>exact c.vr Z
 | @global g j=>exact .ptr 0 none (e g (by omega))
 | func d=>exact .func (.func _ d) rfl (λi x y a=>by simp at a) rfl (λi x y a=>by simp at a)
def qw.finish{f f':qhG}(h:qw Q P Z f f'){v n:qhu}(x:VR Z v n):qw Q P Z (f.finish v) (f'.finish n):=by
 obtain⟨B,p,o,c,q,r,A⟩:=f;obtain⟨z,e,d,b,g,j,t⟩:=f';have s:=h.todo;dsimp only at s;unfold qpF;dsimp only;cases s with
 | nil=>exact h
 | cons w k=>
  cases w with
  | @inRegion u l a=>
   cases l with
   | nil=>exact h
   | cons i l=>
    dsimp only;refine⟨h.fn,h.same,h.okf,?_,.cons (.inRegion l a) k,h.defers,h.mode,h.kind,h.round⟩;dsimp only;split
    ·exact h.tmps.set _ x
    ·exact h.tmps
  | inRangeFunc y=>exact⟨h.fn,h.same,h.okf,h.tmps,.cons (.endRangeFunc y) k,h.defers,h.mode,h.kind,h.round⟩
  | beginRound=>exact⟨h.fn,h.same,h.okf,h.tmps,k,h.defers,h.mode,h.kind,h.round⟩
  | _=>exact h
def qw.raise{f j:qhG}(h:qw Q P Z f j){l p:List qn0}(i:LsR (J3 Z) l p):qw Q P Z (f.raise l) (j.raise p):=by
 obtain⟨v,n,k,b,o,q,u⟩:=f;obtain⟨t,d,c,a,e,g,r⟩:=j;have hm:=h.mode;dsimp only at hm;unfold qqd;cases hm with
 | run=>exact⟨h.fn,h.same,h.okf,h.tmps,h.todo,h.defers,.panicking i,h.kind,h.round⟩
 | returning=>exact⟨h.fn,h.same,h.okf,h.tmps,h.todo,h.defers,.panicking i,h.kind,h.round⟩
 | panicking s=>exact⟨h.fn,h.same,h.okf,h.tmps,h.todo,h.defers,.panicking (i.append s),h.kind,h.round⟩
def q6r{id:Nat}:∀{l a:List qlG},LsR (zp Q Z) l a->(qno id l=none/\qno id a=none)\/∃k b,qno id l=some k/\qno id a=some b/\LsR (zp Q Z) k b:=by
 intro l a h;induction h with
 | nil=>exact .inl ⟨rfl,rfl⟩
 | cons d e c=>
  cases d with
  | inBlock j=>
   simp only[qno];split
   ·exact .inr ⟨_,_,rfl,rfl,e⟩
   ·exact c
  | _=>exact c
def q2v{l:Nat}:∀{c r:qkh},qB Q c->findLabel c l=some r->qB Q r:=by
 intro c;induction c with
 | seq a b g f=>
  intro r h d;cases h with
  | seq n k=>
   simp only[findLabel] at d;split at d
   ·rename_i i e
    cases d;exact .seq (g n e) k
   ·exact f k d
 | label j=>
  intro r h d;simp only[findLabel] at d;split at d
  ·cases d;exact .skip
  ·cases d
 | _=>intro r h d;cases d
def q6m{j:Nat}:∀{l a:List qlG},LsR (zp Q Z) l a->(qo5 j l=none/\qo5 j a=none)\/∃k b,qo5 j l=some k/\qo5 j a=some b/\LsR (zp Q Z) k b:=by
 intro l a h;induction h with
 | nil=>exact .inl ⟨rfl,rfl⟩
 | cons f g d=>
  cases f with
  | @inScope c e=>
   simp only[qo5];cases hf:findLabel c j with
   | none=>exact d
   | some r=>exact .inr ⟨_,_,rfl,rfl,.cons (.code (q2v e hf)) (.cons (.inScope e) g)⟩
  | _=>exact d
def q5j(a:Array qjn){t c:Array qhu}(h:AsR Z t c)(j:Nat):qjt a c j=qjt a t j:=by
 unfold qjt;cases((a[j]?).bind (·.dst)) with
 | none=>rfl
 | some d=>
  simp only[qnw];cases ht:t[d]? with
  | none=>rw[h.get_none ht]
  | some v=>
   have⟨e,b,f⟩:=h.get ht;rw[b];cases f<;>first | rfl | (rename_i h;cases e<;>first | rfl | cases h)
def kG(P:qhF)(i:qj8)(d:Array qjk):∀e∈seen P i d,e∈d:=by
 have g:∀(l:List qjk) (x:Bool × Array qjk) (all:List qjk),(∀e∈x.2,e∈all)->(∀e∈l,e∈all) ->
   ∀e∈(l.foldl (λ(y:Bool × Array qjk) (e:qjk)=>match e.loc with
    | .mark (.extern f)=>((P.funcs[f]?).any (·.norace),y.2)
    | _=>(y.1,if y.1 && !e.sync then y.2 else y.2.push e)) x).2,e∈all:=by
  intro l;induction l with
  | nil=>intro x all c _;exact c
  | cons a l j=>
   intro x all c h;rw[qln];refine j _ all ?_ λe b=>h e (qoH _ b);intro e b;split at b
   ·exact c e b
   ·dsimp only at b;split at b
    ·exact c e b
    ·rcases Array.mem_push.1 b with b | rfl
     ·exact c e b
     ·exact h _ (qpd ..)
 intro e b;have:=g d.toList ((P.funcs[i]?).any (·.norace),#[]) d.toList (by simp) (λe b=>b) e;rw[qko] at this;apply this;unfold seen at b;dsimp only at b;rw[<- qo2] at b;exact b
end
end
section
section
variable[JunkSet]{Q P:qhF}{Z:Ren}{Y M:Type}{R:Rel Y M}
def SM(Q P:qhF)[JunkSet]{Y M:Type}(R:Rel Y M)(s:Sem Y)(Z:Ren)(d:Sem M):Prop :=
 ∀{base D:Nat} {wq w:qhr},base<=Z.length->WR Q base Z wq w->zF D wq w->(rwR (s.run Q wq)).drawn<=D->xj (s.run Q wq) ->
  ∃O a c b,q6G R O (s.run Q wq) a (d.run P w) c/\d.events P w #[]=b/\(∀e∈b,kY base O e)/\WR Q base O a c/\Eff base Z O w c
def SR.sm{s:Sem Y}{c:Sem M}(h:SR Q P R s Z c):SM Q P R s Z c:=λj e f i g=>by
 have⟨O,b,d,a,p,o,n,l,_,k,_⟩:=SR.runs (es:=#[]) h j e f i g;exact⟨O,b,d,a,p,by show(c.runT P _ #[]).2=a;rw[o];simp,n,l,k⟩
def wk:qk5:=.extern "map.whichKeyStays" 2
def qht(kt:qi4)(k v:qhu)(r:Nat)(c:Array qlj)(a:Nat)(b:Nat->Sem qhu):Sem Unit:=do
 qlF false 10000 kt k
 match <- qmt kt k c.toList with
 | some (i,_)=>do
  let key <- b i
  setObj r (.map (c.modify i λe=>{ e with key,val:=v }) a)
 | none=>setObj r (.map (c.push { key:=k,val:=v,born:=a }) (a+1))
def zc(a:Array qlj)(i:Nat)(k:qhu):qhu:=((a[i]?).map (·.key)).getD k
def kM(kt:qi4)(k:qhu)(a:Array qlj):Sem (Option (Nat × qhu)):=do
 qlF false 10000 kt k
 qmt kt k a.toList
def jK(k v:qhu)(r:Nat)(c:Array qlj)(a:Nat)(b:Nat->Sem qhu):Option (Nat × qhu)->Sem Unit
 | some (i,_)=>do
  let key <- b i
  setObj r (.map (c.modify i λe=>{ e with key,val:=v }) a)
 | none=>setObj r (.map (c.push { key:=k,val:=v,born:=a }) (a+1))
def yO{t:qi4}{k v:qhu}{w:qhr}{kt g:qi4}(j:P.underlying t=some (.map kt g)){r:Nat}{b:Array qlj}{a:Nat}(l:w.heap[r]?=some (.map b a)) :(qjw t (.map (some r)) k v).run P w=(kM kt k b>>=jK k v r b a (λi=>qjf (zc b i k) k)).run P w /\(qjw t (.map (some r)) k v).events P w #[]=(kM kt k b>>=jK k v r b a (λi=>qjf (zc b i k) k)).events P w #[⟨.obj r,false,false⟩]:=by
 have e:qjw t (.map (some r)) k v=(qle t).bind λd=>(match d with
   | .map kt _=>(getObj r).bind λo=>(match o with
    | .map b a=>(kM kt k b>>=jK k v r b a (λi=>qjf (zc b i k) k))
    | _=>stuck "MapUpdate: map expected")
   | _=>stuck "MapUpdate: map type expected"):=by
  unfold qjw;show(qle t).bind _=_
  congr 1
  funext d
  cases d<;>try rfl
  show(getObj r).bind _=(getObj r).bind _
  congr 1
  funext o
  cases o<;>try rfl
  exact(Sem.bind_assoc' _ _ _).symm
 have h:∀b,(qle t).runT P w b=(.ok (.map kt g) w,b):=λb=>by
  show(match P.underlying t with | some i=>(pure i:Sem TypeDesc) | none=>stuck "no such type").runT P w b=_;rw[j];rfl
 have n:∀c,(getObj r).runT P w c=(.ok (.map b a) w,c.push ⟨.obj r,false,false⟩):=λc=>by
  simp only[getObj,qmx,l];rfl
 have f:∀c,(qjw t (.map (some r)) k v).runT P w c=(kM kt k b>>=jK k v r b a (λi=>qjf (zc b i k) k)).runT P w (c.push ⟨.obj r,false,false⟩):=λc=>by
  rw[e,Sem.runT_bind',h];dsimp only;rw[Sem.runT_bind',n]
 refine⟨?_,?_⟩
 ·rw[<- Sem.runT_fst P _ w #[],f,Sem.runT_fst]
 ·show((qjw t (.map (some r)) k v).runT P w #[]).2=_;rw[f];rfl
omit [JunkSet] in
def qeE(a b:ByteArray)(h:(a == b)=true):a=b:=by
 obtain⟨a⟩:=a;obtain⟨b⟩:=b;have c:(a == b)=true:=h;rw[eq_of_beq c]
omit [JunkSet] in
def q7C:∀(n:Nat) {x y:qhu},qkv n x y=true->x=y:=by
 intro n;induction n with
 | zero=>
  intro x y h;cases x<;>cases y<;>first | (cases h;done) | rfl | (rw[qeE _ _ h];done) | (simp only[qkv,qic,beq_iff_eq] at h;simp[h];done) | (simp only[qkv,qic,beq_iff_eq] at h;obtain⟨d,c⟩:=h;subst d c;rfl)
 | succ n e=>
  intro x y h;cases x<;>cases y<;>first | (cases h;done) | rfl | (rw[qeE _ _ h];done) | skip
  all_goals simp only[qkv,qic,beq_iff_eq] at h
  case agg.agg a b=>
   obtain⟨d,c⟩:=h
   congr 1
   refine Array.ext d λi g f=>?_;rw[qiB] at c;have:(a[i],b[i])∈a.toList.zip b.toList:=by
    rw[List.mem_iff_getElem];refine⟨i,by simp;omega,by simp⟩
   exact e (c _ this)
  case iface.iface t v u w=>
   rw[h.1,e h.2]
  all_goals first | (simp[h];done) | (obtain⟨d,c⟩:=h;subst d c;rfl) | (obtain⟨⟨d,c⟩,j⟩:=h;subst d c j;rfl)
def kH(s:Bool)(c:Nat)(b a:qhu):Sem qhu :=
 if s then pure (if qkv 10000 b a then a else if c=0 then a else b)
 else choose wk>>=λn=>pure (if qkv 10000 b a then a else if n=0 then a else b)
def qda{x e y d:qhu}(f:VR Z x e)(c:VR Z y d)(g:Nat):SR Q P VR (qjf x y) Z (kH (qkv 10000 x y) g e d):=by
 unfold qjf kH;by_cases b:qkv 10000 x y=true
 ·rw[if_pos b,if_pos b];refine qf ?_;split
  ·exact c
  ·split
   ·exact c
   ·rw[<- q7C _ b];exact f
 ·rw[if_neg b,if_neg b];refine .bndE vP λO n l=>?_;refine qf ?_;by_cases a:qkv 10000 e d=true
  ·rw[if_pos a];split
   ·exact c.mono l
   ·rw[<- q7C _ a];exact f.mono l
  ·rw[if_neg a];split
   ·exact c.mono l
   ·exact f.mono l
def But(d:Nat):qme Y->qme Y
 | .ok a u=>.ok a { u with drawn:=d }
 | .halt h u=>.halt h { u with drawn:=d }
omit [JunkSet] in
def KL(r:qme Y):But (rwR r).drawn r=r:=by cases r<;>rfl
omit [JunkSet] in
def YV(r:Nat)(o:Obj)(u:qhr)(d:Nat):(setObj r o).run P { u with drawn:=d }=But d ((setObj r o).run P u)/\∀a,(setObj r o).events P { u with drawn:=d } a=(setObj r o).events P u a:=by
 have e:setObj r o=qrH r o (.pure ()):=rfl;rw[e];refine⟨?_,λa=>?_⟩
 ·simp only[qjd];show(match u.heap[r]? with | some (.cells ..)=>_ | some _=>_ | none=>_)=But d (match u.heap[r]? with | some (.cells ..)=>_ | some _=>_ | none=>_);cases u.heap[r]? with
  | none=>rfl
  | some x=>cases x<;>rfl
 ·unfold Sem.events;simp only[qmx];cases hh:u.heap[r]? with
  | none=>rfl
  | some x=>cases x<;>rfl
omit [JunkSet] in
def qba{k v:qhu}{r:Nat}{es:Array qlj}{clock:Nat}{s:Nat->Bool}{u:qhr}(x:Option (Nat × qhu)) :∃d,(jK k v r es clock (λi=>qjf (zc es i k) k) x).run P u=But d ((jK k v r es clock (λi=>kH (s i) (wk.cut (u.tape u.drawn wk)) (zc es i k) k) x).run P u) /\∀a,(jK k v r es clock (λi=>qjf (zc es i k) k) x).events P u a=(jK k v r es clock (λi=>kH (s i) (wk.cut (u.tape u.drawn wk)) (zc es i k) k) x).events P u a:=by
 cases x with
 | none=>exact⟨_,(KL _).symm,λ_=>rfl⟩
 | some x=>
  obtain⟨i,y⟩:=x;simp only[jK,qjo,qn7];have b:(choose wk).run P u=.ok (wk.cut (u.tape u.drawn wk)) { u with drawn:=u.drawn+1 }:=rfl;have h:∀a,(choose wk).events P u a=a:=λa=>rfl;by_cases c:qkv 10000 (zc es i k) k=true
  ·have l:(qjf (zc es i k) k).run P u=.ok k u:=by unfold qjf;rw[if_pos c];rfl
   have j:∀a,(qjf (zc es i k) k).events P u a=a:=λa=>by unfold qjf;rw[if_pos c];rfl
   rw[l];simp only[j];cases hs:s i with
   | true=>
    have g:(kH true (wk.cut (u.tape u.drawn wk)) (zc es i k) k).run P u=.ok k u:=by unfold kH;rw[if_pos rfl,if_pos c];rfl
    have f:∀a,(kH true (wk.cut (u.tape u.drawn wk)) (zc es i k) k).events P u a=a:=λa=>by unfold kH;rw[if_pos rfl];rfl
    rw[g];refine⟨_,(KL _).symm,λa=>?_⟩;rw[f]
   | false=>
    have g:(kH false (wk.cut (u.tape u.drawn wk)) (zc es i k) k).run P u=.ok k { u with drawn:=u.drawn+1 }:=by
     unfold kH;rw[if_neg (by simp),qjo,b];simp only[qjl,if_pos c];rfl
    have f:∀a,(kH false (wk.cut (u.tape u.drawn wk)) (zc es i k) k).events P u a=a:=λa=>by
     unfold kH;rw[if_neg (by simp),qn7,b,h];rfl
    rw[g];simp only[f,qjl,qpv];have:=YV (P:=P) r (.map (es.modify i λe=>{ e with key:=k,val:=v }) clock) { u with drawn:=u.drawn+1 } u.drawn;exact⟨u.drawn,this.1,λa=>this.2 a⟩
  ·have l:(qjf (zc es i k) k).run P u=.ok (if wk.cut (u.tape u.drawn wk)=0 then k else zc es i k) { u with drawn:=u.drawn+1 }:=by
    unfold qjf;rw[if_neg c,qjo];show((choose wk).run P u).andThen _=_;rw[b];rfl
   have j:∀a,(qjf (zc es i k) k).events P u a=a:=λa=>by
    unfold qjf;rw[if_neg c,qn7];show((choose wk).run P u).evThen _ _=_;rw[b,show(choose (.extern "map.whichKeyStays" 2)).events P u a=a from rfl];rfl
   rw[l];simp only[j];cases hs:s i with
   | true=>
    have g:(kH true (wk.cut (u.tape u.drawn wk)) (zc es i k) k).run P u=.ok (if wk.cut (u.tape u.drawn wk)=0 then k else zc es i k) u:=by unfold kH;rw[if_pos rfl,if_neg c];rfl
    have f:∀a,(kH true (wk.cut (u.tape u.drawn wk)) (zc es i k) k).events P u a=a:=λa=>by unfold kH;rw[if_pos rfl];rfl
    rw[g];simp only[f,qjl,qpv];have:=YV (P:=P) r (.map (es.modify i λe=>{ e with key:=if wk.cut (u.tape u.drawn wk)=0 then k else zc es i k,val:=v }) clock) u (u.drawn+1);exact⟨u.drawn+1,this.1,λa=>this.2 a⟩
   | false=>
    have g:(kH false (wk.cut (u.tape u.drawn wk)) (zc es i k) k).run P u=.ok (if wk.cut (u.tape u.drawn wk)=0 then k else zc es i k) { u with drawn:=u.drawn+1 }:=by
     unfold kH;rw[if_neg (by simp),qjo,b];simp only[qjl,if_neg c];rfl
    have f:∀a,(kH false (wk.cut (u.tape u.drawn wk)) (zc es i k) k).events P u a=a:=λa=>by
     unfold kH;rw[if_neg (by simp),qn7,b,h];rfl
    rw[g];refine⟨_,(KL _).symm,λa=>?_⟩;rw[f]
def q10(I:P.toTables=Q.toTables)(V:Gl P Z){kt:qi4}(L:eqB Q 6 kt=true){k g v B:qhu}(q:VR Z k g)(F:VR Z v B){r j:Nat}(H:BR Z r j){l c:Array qlj}(G:LsR (kw Z) l.toList c.toList)(d C:Nat) :SR Q P (λ_ _ _=>True) (kM kt k l>>=jK k v r l d (λi=>qjf (zc l i k) k)) Z (kM kt g c>>=jK g B j c d (λi=>kH (qkv 10000 (zc l i k) k) C (zc c i g) g)):=by
 have n:SR Q P q37 (kM kt k l) Z (kM kt g c) :=
  .bnd (JC I _ 6 _ L q) λU _ _ t _=>YP I L (q.mono t) (V.mono t) (G.imp λ_ _ x=>x.mono t)
 refine .bnd n λX x x' f S=>?_;have h:=G.imp λ_ _ x=>kw.mono f x;rcases S with⟨rfl,rfl⟩ | ⟨i,y,W,rfl,rfl,O⟩
 ·refine jO (H.mono f) (.map _ ?_);simp only[Array.toList_push];exact h.append (.cons ⟨q.mono f,F.mono f,rfl⟩ .nil)
 ·have o:VR X (zc l i k) (zc c i g):=by
   have:=h.get i;simp only[qos] at this;unfold zc;rcases this with⟨A,z⟩ | ⟨a,b,A,z,w⟩
   ·rw[A,z];exact q.mono f
   ·rw[A,z];exact w.key
  refine .bnd (qda o (q.mono f) C) λT N D s p=>?_;exact jO (H.mono (f.trans s)) (.map _ (q4C (h.imp λ_ _ x=>x.mono s) i λe e' u=>⟨p,F.mono (f.trans s),u.born⟩))
def q4b(F:P.toTables=Q.toTables)(N:Gl P Z){t:qi4}{base:Nat}{a w:qhr}(H:WR Q base Z a w){m C k k' v v':qhu}(hm:VR Z m C)(u:xj ((qjw t m k v).run Q a)) :SR Q P (λ_ _ _=>True) (qjw t m k v) Z (qjw t C k' v') \/∃r j kt n f p b,m=.map (some r)/\C=.map (some j)/\BR Z r j/\Q.underlying t=some (.map kt n)/\a.heap[r]?=some (.map f b)/\w.heap[j]?=some (.map p b)/\LsR (kw Z) f.toList p.toList:=by
 by_cases q:∃r j,m=.map (some r)/\C=.map (some j)/\BR Z r j
 ·obtain⟨r,j,rfl,rfl,B⟩:=q;by_cases z:∃kt n,Q.underlying t=some (.map kt n)
  ·obtain⟨kt,n,z⟩:=z;right;have I:r<a.heap.size:=by rw[<- H.len];exact(qi3.1 B).1
   have A:∀o,a.heap[r]?=some o->(∀f c,o≠.map f c)->False:=λo x D=>by
    have T:(qle t).run Q a=.ok (.map kt n) a:=by
     show(match Q.underlying t with | some i=>(pure i:Sem TypeDesc) | none=>stuck "no such type").run Q a=_;rw[z];rfl
    unfold qjw at u;rw[qjo,T] at u;simp only[qjl,qjo] at u;have g:(getObj r).run Q a=.ok o a\/∃s,(getObj r).run Q a=.halt (.stuck s) a:=by
     simp only[getObj,qjd,x];cases o<;>first | exact .inl rfl | exact .inr ⟨_,rfl⟩
    rcases g with g | ⟨s,g⟩
    ·rw[g] at u;simp only[qjl] at u;cases o<;>first | exact D _ _ rfl | exact absurd u (by intro h;cases h)
    ·rw[g] at u;exact absurd u (by intro h;cases h)
   cases x:a.heap[r]? with
   | none=>rw[qpc] at x;omega
   | some o=>
    by_cases D:∃f c,o=.map f c
    ·obtain⟨f,c,rfl⟩:=D;rcases H.obj r j _ B x with⟨_,g,_⟩ | ⟨_,U,g,S⟩
     ·cases g
     ·cases S with
      | @map _ p _ L=>exact⟨r,j,kt,n,f,p,c,rfl,rfl,B,z,x,g,L⟩
    ·exact(A o x λf c e=>D ⟨f,c,e⟩).elim
  ·left;refine .bnd (qR F t) λO d G l y=>?_;obtain⟨rfl,y⟩:=y;cases G with
   | map kt n=>exact absurd ⟨kt,n,y⟩ z
   | _=>exact qj
 ·left;refine .bnd (qR F t) λO d G l y=>?_;obtain⟨rfl,y⟩:=y;cases G with
  | map kt n=>
   cases hm with
   | mapNil=>exact qy F (N.mono l) _
   | map B=>exact absurd ⟨_,_,rfl,rfl,B⟩ q
   | _=>exact qj
  | _=>exact qj
def q4e{t kt c:qi4}(a:Kd Q t=true)(b:Q.underlying t=some (.map kt c)):eqB Q 6 kt=true:=by
 unfold Kd at a;rw[b] at a;simp only[qic] at a;exact a.1
def ZI(U:P.toTables=Q.toTables)(hG:Gl P Z){t:qi4}(hB:Kd Q t=true){m W k b v l:qhu}(hm:VR Z m W)(hk:VR Z k b)(hv:VR Z v l) :SM Q P (λ_ _ _=>True) (qjw t m k v) Z (qjw t W b l):=by
 intro base D wq w hb C X T F;rcases q4b U hG C hm F with h | ⟨r,j,kt,et,es,a,clock,rfl,rfl,A,I,hq,hp,n⟩
 ·exact h.sm hb C X T F
 ·have H:P.underlying t=some (.map kt et):=by rw[kB U];exact I
  have⟨r1,_⟩:=yO (P:=Q) (t:=t) (k:=k) (v:=v) I hq;have⟨r2,e2⟩:=yO (P:=P) (t:=t) (k:=b) (v:=l) H hp;rw[r1] at T F ⊢;rw[r2,e2]
  let B:Nat:=match (kM kt b a).run P w with | .ok _ u=>wk.cut (u.tape u.drawn wk) | .halt _ _=>0
  have⟨O,G,w1,ev,V,h2,h3,o,_,g,_⟩:=SR.runs (es:=#[⟨.obj j,false,false⟩]) (q10 U hG (q4e hB I) hk hv A n clock B) hb C X T F;have p:∃d,(kM kt b a>>=jK b l j a clock (λi=>qjf (zc a i b) b)).run P w=But d ((kM kt b a>>=jK b l j a clock (λi=>kH (qkv 10000 (zc es i k) k) B (zc a i b) b)).run P w) /\
    ∀q,(kM kt b a>>=jK b l j a clock (λi=>qjf (zc a i b) b)).events P w q=(kM kt b a>>=jK b l j a clock (λi=>kH (qkv 10000 (zc es i k) k) B (zc a i b) b)).events P w q:=by
   simp only[qjo,qn7];have z:B=match (kM kt b a).run P w with | .ok _ u=>wk.cut (u.tape u.drawn wk) | .halt _ _=>0:=rfl
   generalize (kM kt b a).run P w=res at z;cases res with
   | ok x u=>
    simp only[qjl,qpv];rw[z];have⟨d,g1,g2⟩:=qba (P:=P) (k:=b) (v:=l) (r:=j) (es:=a) (clock:=clock) (s:=λi=>qkv 10000 (zc es i k) k) (u:=u) x;exact⟨d,g1,λq=>g2 _⟩
   | halt x u=>exact⟨u.drawn,rfl,λ_=>rfl⟩
  obtain⟨d,N,L⟩:=p;rw[N,L];refine⟨O,G,{ w1 with drawn:=d },#[⟨.obj j,false,false⟩]++ev,?_,by unfold Sem.events;exact h2,?_,?_,?_⟩
  ·generalize qjd Q _ wq=x at V;generalize qjd P _ w=y at V;cases V with
   | ok _ _ h=>exact .ok _ _ h
   | panic _ _ h=>exact .panic _ _ h
  ·intro e n;rcases ql9.1 n with n | n
   ·simp only[qlb,ql4] at n;subst n;refine .obj false (A.mono g.le) (Nat.le_of_not_lt λS=>?_);have⟨c,e,f,h6,_⟩:=C.low r S;rw[hq] at h6;cases h6
   ·exact h3 e n
  ·exact⟨o.len,o.nodup,o.lt,o.obj,o.low,o.env,o.below,o.gar⟩
  ·exact⟨g.le,g.tape,g.os,g.output,g.size,g.keep,g.fresh,g.mine⟩
def SM.u{s i:Sem Unit}(h:SM Q P (λ_ _ _=>True) s Z i):SM Q P zW (do s;pure .skip) Z (do i;pure .skip):=by
 intro base D a w o l n f d;have j:∀(p:qhF) (x:Sem Unit) (u:qhr),((do x;pure Next.skip:Sem qmm)).run p u=match x.run p u with | .ok _ u'=>.ok .skip u' | .halt h u'=>.halt h u':=λp x u=>by
  rw[qjo];cases x.run p u<;>rfl
 have A:∀(p:qhF) (x:Sem Unit) (u:qhr),((do x;pure Next.skip:Sem qmm)).events p u #[]=x.events p u #[]:=λp x u=>by
  rw[qn7];cases x.run p u<;>rfl
 rw[j] at f d ⊢;have e:(rwR (s.run Q a)).drawn<=D:=by cases hx:s.run Q a<;>(rw[hx] at f;exact f)
 have c:xj (s.run Q a):=by cases hx:s.run Q a<;>(rw[hx] at d;exact d)
 have⟨O,b,k,z,g,v,t,r,q⟩:=h o l n e c;refine⟨O,b,k,z,?_,by rw[A];exact v,t,r,q⟩;rw[j];generalize qjd Q _ a=x at g;generalize qjd P _ w=y at g;cases g with
 | ok _ _ h=>exact .ok _ _ .skip
 | panic _ _ h=>exact .panic _ _ h
def q15(H:Pair Q P){e i:qiy->qhu}(a:∀x,qH Q x->VR Z (e x) (i x))(c:Gl P Z)(k:Inj Z)(l:∀v,e (.const v)=v){o:qjn}(b:qN Q o.op):SM Q P zW (qkA e o) Z (qkA i o):=by
 cases hmu:qbw o.op with
 | false=>exact(q11 H a c k l b hmu).sm
 | true=>
  obtain⟨n,q,p,j,after,guard⟩:=o;dsimp only at b hmu;cases b with
  | mapUpdate h g f d=>exact SM.u (ZI H.tables c h (a _ g) (a _ f) (a _ d))
  | insert h g f d=>exact SM.u (ZI H.tables c h (a _ g) (a _ f) (a _ d))
  | _=>cases hmu
end
end
section
structure Duo[JunkSet](Q P:qhF):Prop extends Pair Q P where
 codes:∀c,JunkSet.okc c↔qB Q c
 rfr:Q.follows .rangeFuncRecover=true
 bodies:∀f g,JunkSet.okf f->Q.funcs[f]?=some g->P.funcs[f]?=some g->∀c,g.body=some c->qB Q c
 inits:∀f,JunkSet.okf f->Q.inits.idxOf? f=none
 same:∀f,JunkSet.okg f↔(∃g,Q.funcs[f]?=some g/\P.funcs[f]?=some g)/\Q.inits.idxOf? f=none
def KW[JunkSet](Q P:qhF)(Z:Ren)(g d:qhw):Prop :=
 (Q.funcs[g.frame.fn]?=P.funcs[g.frame.fn]?/\kV Q P Z g d) \/
 ∃f k a i c h e b,Q.funcs[f]?≠P.funcs[f]?/\JunkSet.okf f/\g={ frame:=qiz Q f a k,callers:=c::e,status:=.running,dying:=none }/\d={ frame:=qiz P f i k,callers:=h::b,status:=.running,dying:=none } /\
  AsR Z a i/\qw Q P Z c h/\LsR (qw Q P Z) e b/\(c.mode≠.run\/∀x l,c.todo≠.code x::l)
def KW.k[JunkSet]{Q P:qhF}{Z:Ren}{g a:qhw}(h:kV Q P Z g a):KW Q P Z g a :=
 .inl ⟨by have⟨x,c,b⟩:=h.frame.same;rw[c,b],h⟩
def vu[JunkSet](Q P:qhF)(base D:Nat)(Z:Ren)(wq w:qhr)(r h:qkq):Prop :=
 ∀b a d,r=.go b a d->a.drawn<=D->b.status=.running->b.dying=none ->
  ∃O f c g,h=.go f c g/\KW Q P O b f/\WR Q base O a c/\True/\Eff base Z O w c/\(∀e∈g,kY base O e)/\True/\wq.drawn<=a.drawn
section
variable[JunkSet]{Q P:qhF}(H:Duo Q P){Z:Ren}{base D:Nat}{wq w:qhr}
def Duo.gsize(H:Duo Q P):P.globals.size=Q.globals.size:=by rw[H.tables]
def qca(H:Duo Q P){f:qj8}(n:JunkSet.okf f)(o:Q.funcs[f]?=P.funcs[f]?){a r:Array qhu}(p:AsR Z a r)(k:CallKind):qw Q P Z (qiz Q f a k) (qiz P f r k):=by
 have⟨s,h,d,b,q,_⟩:=H.funcs f n;have e:h=s:=by rw[d,b] at o;exact(qkD o).symm
 subst e;refine⟨rfl,⟨h,d,b⟩,H.inits f n,?_,?_,.nil,.run,rfl,.inl ⟨rfl,rfl⟩⟩
 ·unfold qiz;dsimp only;rw[d,b,<- p.1];refine p.append ⟨rfl,λi x y g j=>?_⟩;rw[Array.getElem?_replicate] at g j;split at g
  ·rename_i l
   rw[if_pos l] at j;cases g;cases j;exact kC Z
  ·cases g
 ·unfold qiz;dsimp only;rw[d,b];cases hb:h.body with
  | none=>rw[hb] at q;cases q
  | some c=>simp only[qnw,hb,qhC];exact .cons (.code (H.bodies f h n d b c hb)) .nil
def enterK(H:Duo Q P){f:qj8}(j:JunkSet.okf f){a h:Array qhu}(o:AsR Z a h){c g:qhG}(n:qw Q P Z c g){e b:List qhG}(d:LsR (qw Q P Z) e b)(hm:c.mode≠.run\/∀x l,c.todo≠.code x::l)(k:CallKind):KW Q P Z { frame:=qiz Q f a k,callers:=c::e,status:=.running,dying:=none } { frame:=qiz P f h k,callers:=g::b,status:=.running,dying:=none }:=by
 by_cases i:Q.funcs[f]?=P.funcs[f]?
 ·exact .k ⟨qca H j i o k,.cons n d,rfl,rfl,rfl,rfl⟩
 ·exact .inr ⟨f,k,a,h,c,g,e,b,i,j,rfl,rfl,o,n,d,hm⟩
def qb7(H:Duo Q P){l c:Nat}{f:qj8}(h:∃g,Q.funcs[f]?=some g/\P.funcs[f]?=some g)(i:Q.inits.idxOf? f=none){t d:Array qhu}{a b:qkh}(n:BR Z l c)(e:AsR Z t d)(o:qB Q a)(j:qB Q b)(k:CallKind) :qw Q P Z (Frame.round l f t a b k) (Frame.round c f d a b k) :=
 ⟨rfl,h,i,e,.cons (.code o) (.cons .beginRound (.cons (.code j) .nil)),.nil,.run,rfl,.inr ⟨l,c,rfl,rfl,n⟩⟩
def q6G.world{Y M:Type}{R:Rel Y M}{r:qme Y}{a:qhr}{c:qme M}{b:qhr}(h:q6G R Z r a c b):rwR r=a:=by
 cases h<;>rfl
def zk(c:WR Q base Z wq w)(l:zF D wq w){g a:qhw}(h:g.status=.running->g.dying=none->kV Q P Z g a):vu Q P base D Z wq w (.go g wq) (.go a w):=by
 intro i b j e n d f;cases e;exact⟨Z,a,w,#[],rfl,.k (h d f),c,trivial,.refl base w,by simp,trivial,qhv _⟩
def zH{o:Outcome}{u:qhr}{b:Array qjk}{a:qkq}:vu Q P base D Z wq w (.ended o u b) a:=by
 intro _ _ _ e;cases e
def Q9{f i:qhG}(L:qw Q P Z f i):∀{e b:List qhG},LsR (qw Q P Z) e b ->(qik f e=none/\qik i b=none)\/∃v d k j,qik f e=some (v,k)/\qik i b=some (d,j)/\VR Z v d/\LsR (qw Q P Z) k j:=by
 intro e b h;induction h generalizing f i with
 | nil=>exact .inl ⟨by unfold qik;split<;>simp_all,by unfold qik;split<;>simp_all⟩
 | @cons c x e b a q F=>
  unfold qik;rw[L.kind];cases hk:f.kind with
  | deferred=>
   dsimp only;have hm:=a.mode;cases hmc:c.mode with
   | run=>rw[hmc] at hm;cases hm':x.mode<;>rw[hm'] at hm<;>cases hm;exact .inl ⟨rfl,rfl⟩
   | returning=>rw[hmc] at hm;cases hm':x.mode<;>rw[hm'] at hm<;>cases hm;exact .inl ⟨rfl,rfl⟩
   | panicking l=>
    rw[hmc] at hm;cases hm':x.mode with
    | run=>rw[hm'] at hm;cases hm
    | returning=>rw[hm'] at hm;cases hm
    | panicking C=>
     rw[hm'] at hm;cases hm with
     | panicking n=>
      cases n with
      | nil=>exact .inl ⟨rfl,rfl⟩
      | @cons p B l C I n=>
       obtain⟨v,r,g⟩:=p;obtain⟨d,A,M⟩:=B;obtain⟨s,z,y⟩:=I;dsimp only at s z y;subst z;subst y;cases A<;>cases M<;>first
        | exact .inl ⟨rfl,rfl⟩
        | exact .inr ⟨v,d,_,_,rfl,rfl,s,.cons ⟨a.fn,a.same,a.okf,a.tmps,a.todo,a.defers,.panicking (.cons ⟨s,rfl,rfl⟩ n),a.kind,a.round⟩ q⟩
  | wrapped=>
   dsimp only;rcases F a with⟨u,t⟩ | ⟨v,d,k,j,u,t,G,o⟩
   ·rw[u,t];exact .inl ⟨rfl,rfl⟩
   ·rw[u,t];exact .inr ⟨v,d,_,_,rfl,rfl,G,.cons a o⟩
  | _=>exact .inl ⟨rfl,rfl⟩
def z9{p:qhF}{e:qhG}{i:List qhG}{m:String}{u d:qhr}{g:qhw}{f:Array qjk}(h:qp0 p e i none m u=.go g d f):g.dying≠none:=by
 unfold qp0 at h;dsimp only at h;generalize (qjd p _ u:qme (List (ByteArray × String) × List ByteArray))=r at h;cases r with
 | ok a c=>
  obtain⟨t,b⟩:=a;simp only[dieOf,qlH] at h;rw[<- h.1];simp
 | halt x c=>cases x<;>simp at h
def jc{a:Array qjk}{s:qkq}{g:qhw}{u:qhr}{e:Array qjk}(h:qj9 a s=.go g u e):∃b,s=.go g u b/\e=a++b:=by
 cases s<;>simp only[qj9,qlH] at h<;>first | (obtain⟨rfl,rfl,rfl⟩:=h;exact⟨_,rfl,rfl⟩) | cases h
def SR.ends{Y M:Type}{R:Rel Y M}{s:Sem Y}{e:Sem M}(g:SR Q P R s Z e)(i:base<=Z.length)(c:WR Q base Z wq w)(h:xj (s.run Q wq)) :(∃a u,s.run Q wq=.ok a u)\/∃v u,s.run Q wq=.halt (.panic v) u:=by
 have d:WR Q base Z wq { w with tape:=λn q=>wq.tape (n - w.drawn+wq.drawn) q }:=⟨c.len,c.nodup,c.lt,c.obj,c.low,c.env,c.below,c.gar⟩;have⟨O,f,k,j,b,_⟩:=SR.runs (es:=#[]) (D:=(rwR (s.run Q wq)).drawn) g i d (λn q _=>by
  show wq.tape (wq.drawn+n) q=wq.tape (w.drawn+n - w.drawn+wq.drawn) q;rw[show w.drawn+n - w.drawn+wq.drawn=wq.drawn+n by omega]) (qhv _) h
 generalize s.run Q wq=r at b;generalize (qjd P e _)=r' at b;cases b with
 | ok _ _ _=>exact .inl ⟨_,_,rfl⟩
 | panic _ _ _=>exact .inr ⟨_,_,rfl⟩
def SM.ends{Y M:Type}{R:Rel Y M}{s:Sem Y}{e:Sem M}(g:SM Q P R s Z e)(i:base<=Z.length)(c:WR Q base Z wq w)(h:xj (s.run Q wq)) :(∃a u,s.run Q wq=.ok a u)\/∃v u,s.run Q wq=.halt (.panic v) u:=by
 have d:WR Q base Z wq { w with tape:=λn q=>wq.tape (n - w.drawn+wq.drawn) q }:=⟨c.len,c.nodup,c.lt,c.obj,c.low,c.env,c.below,c.gar⟩;have⟨O,f,k,j,b,_⟩:=g (D:=(rwR (s.run Q wq)).drawn) i d (λn q _=>by
  show wq.tape (wq.drawn+n) q=wq.tape (w.drawn+n - w.drawn+wq.drawn) q;rw[show w.drawn+n - w.drawn+wq.drawn=wq.drawn+n by omega]) (qhv _) h
 generalize s.run Q wq=r at b;generalize (qjd P e _)=r' at b;cases b with
 | ok _ _ _=>exact .inl ⟨_,_,rfl⟩
 | panic _ _ _=>exact .inr ⟨_,_,rfl⟩
def QI(H:Duo Q P)(hb:base<=Z.length)(hw:WR Q base Z wq w)(ht:zF D wq w){f f':qhG}(hf:qw Q P Z f f'){W M:List qhG}(g9:LsR (qw Q P Z) W M)(U:∀x l,f.todo≠.code x::l){s s':Sem qmm}(hs:SM Q P zW s Z s'):vu Q P base D Z wq w (qji Q true f W none s wq) (qji P true f' M none s' w):=by
 intro B y m9 o hD C G;have e7:(∀d r s k,f.todo≠.call d true r s::k)/\∀d r s k,f'.todo≠.call d true r s::k:=by
  have:=hf.todo;generalize f.todo=l at this;generalize f'.todo=l' at this;cases this with
  | nil=>exact⟨by simp,by simp⟩
  | cons hx _=>cases hx<;>exact⟨by simp,by simp⟩
 obtain⟨k9,k8⟩:=e7;unfold qji at o;simp only[if_true,qiw] at o;have F:xj (s.run Q wq):=by
  cases T:s.run Q wq with
  | ok a w1=>trivial
  | halt h w1=>
   rw[T] at o;cases h with
   | panic v=>rfl
   | goexit=>rfl
   | unsupported u=>cases u<;>first | rfl | (simp[qj9] at o;done)
   | blocked=>simp only[qj9,qlH] at o;rw[<- o.1] at C;cases C
   | waiting=>simp only[qj9,qlH] at o;rw[<- o.1] at C;cases C
   | throw m=>simp only[qj9,qoh,dieOf,qlH] at o;rw[<- o.1] at G;cases G
   | fatal m=>
    have⟨e0,c,_⟩:=jc o;exact absurd G (z9 c)
   | _=>(simp[qj9] at o;done)
 have⟨e0,c,_⟩:=jc o;have m7:∀{fr:qhG} {u:qhr},(qqe { frame:=fr,callers:=W,status:=.running,dying:=none } u:qkq)=.go B y e0->u=y:=λh=>by cases h;rfl
 have k0:(rwR (s.run Q wq)).drawn<=D:=by
  cases T:s.run Q wq with
  | ok a w1=>
   rw[T] at c;have:w1=y:=by
    cases a with
    | recover=>
     dsimp only at c
     repeat' split at c
     all_goals(cases c;rfl)
    | callThen d r v b=>
     dsimp only at c
     repeat' split at c
     all_goals(cases c;rfl)
    | row r a=>
     dsimp only at c
     repeat' split at c
     all_goals(cases c;rfl)
    | stack r a=>
     dsimp only at c
     repeat' split at c
     all_goals(cases c;rfl)
    | spawn d=>
     exfalso;dsimp only at c
     repeat' split at c
     all_goals first
      | (simp only[qoh,dieOf,qlH] at c;rw[<- c.1] at G;cases G;done)
      | (cases c;done)
    | _=>first | (cases c;rfl) | cases c
   subst this;exact hD
  | halt h w1=>
   rcases hs.ends hb hw F with⟨a,u,e⟩ | ⟨v,u,e⟩
   ·rw[T] at e;cases e
   ·rw[T] at e;cases e;rw[T] at c;cases c;exact hD
 have⟨O,A,V,p,z,g7,g6,e4,b0⟩:=hs hb hw ht k0 F;have hL:=b0.le;have e8:wq.drawn<=A.drawn:=z.world ▸ vS Q s wq;have t:LsR (qw Q P O) W M:=g9.imp λ_ _ k=>k.mono hL;have n:=hf.mono hL;have a8:s'.events P w #[]=p:=g7;have c8:(f'.kind == CallKind.early)=(f.kind == CallKind.early):=by rw[hf.kind]
 have q:∀(N:Array qjk),(N=#[]\/N=p)->∀e∈seen P f'.fn (if(f'.kind == CallKind.early)=true then #[] else N),e∈p:=by
  intro N he e hx;have:=kG _ _ _ e hx;split at this
  ·simp at this
  ·rcases he with rfl | rfl
   ·simp at this
   ·exact this
 have fin:∀{g g':qhw} {N:Array qjk} {r':qkq},r'=.go g' V N->(∀e∈N,e∈p)->g=B->A=y->(B.status=.running->KW Q P O g g') ->
   ∃O I S L,r'=.go I S L/\KW Q P O B I/\WR Q base O y S/\True/\Eff base Z O w S/\(∀e∈L,kY base O e)/\True/\wq.drawn<=y.drawn:=by
  intro g g' N r' e0 a9 e1 e2 hg;subst e1;subst e2;exact⟨O,g',V,N,e0,hg C,e4,trivial,b0,λe he=>g6 e (a9 e he),trivial,e8⟩
 unfold qji;simp only[if_true,qiw];rw[a8];generalize T:s.run Q wq=r at c z;generalize l9:s'.run P w=r' at z;cases z with
 | ok A V hN=>
  cases hN with
  | value hv=>
   cases c;exact fin rfl (by simpa using q p (.inr rfl)) rfl rfl λ_=>.k ⟨n.finish hv,t,rfl,rfl,rfl,rfl⟩
  | skip=>
   cases c;exact fin rfl (by simpa using q p (.inr rfl)) rfl rfl λ_=>.k ⟨n.finish (kC O),t,rfl,rfl,rfl,rfl⟩
  | @enter fn a a' e6 ha=>
   cases c;refine fin rfl (by simpa using q p (.inr rfl)) rfl rfl λ_=>enterK H e6 ha n t (.inr U) _
  | round fn h8 e5 a7 ha hc=>
   cases c;refine fin rfl (by simpa using q p (.inr rfl)) rfl rfl λ_=>.k ⟨?_,.cons n t,rfl,rfl,rfl,rfl⟩;exact qb7 H ((H.same _).1 a7).1 ((H.same _).1 a7).2 h8 e5 ((H.codes _).1 ha) ((H.codes _).1 hc) _
  | defer hd=>
   cases c;exact fin rfl (by simpa using q p (.inr rfl)) rfl rfl λ_=>.k ⟨qw.finish (f:={ f with defers:=_::f.defers }) (f':={ f' with defers:=_::f'.defers }) ⟨n.fn,n.same,n.okf,n.tmps,n.todo,.cons hd n.defers,n.mode,n.kind,n.round⟩ (kC O),t,rfl,rfl,rfl,rfl⟩
  | recover=>
   have hrf:P.follows .rangeFuncRecover=true:=by
    have:P.toTables.follows .rangeFuncRecover=Q.toTables.follows .rangeFuncRecover:=by rw[H.tables]
    exact this.trans H.rfr
   have Y:∀{X X':Option (qhu × List qhG)},X=qik f W->X'=qik f' M ->
     (match X with
      | some (v,callers)=>qqe { frame:=f.finish v,callers,status:=.running,dying:=none } A
      | none=>.go { frame:=f.finish .nilIface,callers:=W,status:=.running,dying:=none } A)=.go B y e0 ->
     ∃O I S L,qj9 (seen P f'.fn (if(f'.kind == CallKind.early)=true then #[] else p)) (match X' with
      | some (v,callers)=>qqe { frame:=f'.finish v,callers,status:=.running,dying:=none } V
      | none=>.go { frame:=f'.finish .nilIface,callers:=M,status:=.running,dying:=none } V)=.go I S L/\KW Q P O B I/\WR Q base O y S/\True/\Eff base Z O w S/\(∀e∈L,kY base O e)/\True/\wq.drawn<=y.drawn:=by
    intro X X' hX b6 c;rcases Q9 n t with⟨t1,t2⟩ | ⟨v,v',k,k',t1,t2,hv,e9⟩
    ·rw[hX,t1] at c;rw[b6,t2];cases c;exact fin rfl (by simpa using q p (.inr rfl)) rfl rfl λ_=>.k ⟨n.finish .nilIface,t,rfl,rfl,rfl,rfl⟩
    ·rw[hX,t1] at c;rw[b6,t2];cases c;exact fin rfl (by simpa using q p (.inr rfl)) rfl rfl λ_=>.k ⟨n.finish hv,e9,rfl,rfl,rfl,rfl⟩
   dsimp only at c ⊢;rcases n.round with⟨r1,r2⟩ | ⟨i,j,r1,r2,_⟩
   ·rw[r1] at c;rw[r2];exact Y rfl rfl c
   ·rw[r1] at c;rw[r2];exact Y (by simp[H.rfr]) (by simp[hrf]) c
 | panic A V hv=>
  cases c;exact fin rfl (by simpa using q p (.inr rfl)) rfl rfl λ_=>.k ⟨n.raise (.cons ⟨hv,rfl,rfl⟩ .nil),t,rfl,rfl,rfl,rfl⟩
end
end
section
section
variable[JunkSet]{Q P:qhF}{Z:Ren}{base D:Nat}{wq w:qhr}
def kJ:Target->Bool
 | .nil=>true
 | _=>false
def kI:FrameMode->Bool
 | .panicking _=>true
 | _=>false
def q2h(H:Duo Q P)(hb:base<=Z.length)(hw:WR Q base Z wq w)(hG:Gl P Z)(ht:zF D wq w){f I:qhG}(hf:qw Q P Z f I){cs G:List qhG}(e8:LsR (qw Q P Z) cs G)(a7:f.mode≠.run){d M:qjH}(hd:kg Z d M):vu Q P base D Z wq w (qk3 Q f cs none d wq) (qk3 P I G none M w):=by
 intro B p m3 o hD S U;have hs:SR Q P zW (invoke d.target d.args) Z (invoke M.target M.args):=vO H.toPair hG hd;unfold qk3 at o ⊢;have V:(kJ M.target && kI I.mode)=(kJ d.target && kI f.mode):=by
  have h2:=hf.mode;rcases hd with⟨h1,_⟩ | ⟨h1,_,n,c,h3⟩
  case bound=>rw[h1,h3];rfl
  generalize d.target=t at h1;generalize M.target=t' at h1;generalize f.mode=m at h2;generalize I.mode=m' at h2;cases h1<;>cases h2<;>rfl
 generalize invoke d.target d.args=s at hs o;generalize invoke M.target M.args=s' at hs ⊢;change (if(kJ d.target && kI f.mode)=true then _ else _)=_ at o;show ∃O W L es,(if(kJ M.target && kI I.mode)=true then _ else _)=qqe W L es/\_;by_cases hc:(kJ d.target && kI f.mode)=true
 ·rw[if_pos hc] at o;cases o
 ·rw[if_neg hc] at o;rw[if_neg (by rw[V];exact hc)];simp only[qiw] at o ⊢;have⟨e0,b,_⟩:=jc o;have A:xj (s.run Q wq):=by
   cases T:s.run Q wq with
   | ok a w1=>trivial
   | halt h w1=>
    rw[T] at b;cases h with
    | panic v=>rfl
    | goexit=>rfl
    | unsupported u=>cases u<;>first | rfl | (cases b;done)
    | blocked=>cases b;cases S
    | waiting=>cases b;cases S
    | throw m=>simp only[qoh,dieOf,qlH] at b;rw[<- b.1] at U;cases U
    | fatal m=>exact absurd U (z9 b)
    | _=>(cases b;done)
  have g6:(rwR (s.run Q wq)).drawn<=D:=by
   cases T:s.run Q wq with
   | ok a w1=>
    rw[T] at b;have:w1=p:=by
     cases a with
     | recover=>
      dsimp only at b
      repeat' split at b
      all_goals(cases b;rfl)
     | coroswitch c e=>cases e<;>cases b
     | alone on v=>cases on<;>cases b
     | _=>first | (cases b;rfl) | cases b
    subst this;exact hD
   | halt h w1=>
    rcases hs.ends hb hw A with⟨a,u,e⟩ | ⟨v,u,e⟩
    ·rw[T] at e;cases e
    ·rw[T] at e;cases e;rw[T] at b;cases b;exact hD
  have⟨O,z,Y,y,x,e5,e4,c9,k7,b6,l5⟩:=SR.runs (es:=#[]) hs hb hw ht g6 A;have hL:=b6.le;have d8:wq.drawn<=z.drawn:=x.world ▸ vS Q s wq;have j:LsR (qw Q P O) cs G:=e8.imp λ_ _ k=>k.mono hL;have l:=hf.mono hL;have a9:s'.events P w #[]=y:=by
   show(s'.runT P w #[]).2=y;rw[e5];simp
  have i:∀e∈seen P I.fn y,e∈y:=λe he=>kG _ _ _ e he;have fin:∀{g W:qhw} {es:Array qjk} {N:qkq},N=.go W Y es->(∀e∈es,e∈y)->g=B->z=p->(B.status=.running->KW Q P O g W) ->
    ∃O C L F,N=.go C L F/\KW Q P O B C/\WR Q base O p L/\True/\Eff base Z O w L/\(∀e∈F,kY base O e)/\True/\wq.drawn<=p.drawn:=by
   intro g W es N e0 b0 e1 e2 hg;subst e1;subst e2;exact⟨O,W,Y,es,e0,hg S,c9,trivial,b6,λe he=>e4 e (b0 e he),trivial,d8⟩
  rw[a9];generalize T:s.run Q wq=r at b x;generalize a8:s'.run P w=N at x;cases x with
  | ok z Y hN=>
   cases hN with
   | value hv=>
    cases b;exact fin rfl (by simpa using i) rfl rfl λ_=>.k ⟨l,j,rfl,rfl,rfl,rfl⟩
   | skip=>
    cases b;exact fin rfl (by simpa using i) rfl rfl λ_=>.k ⟨l,j,rfl,rfl,rfl,rfl⟩
   | @enter fn a a' d7 ha=>
    cases b;exact fin rfl (by simpa using i) rfl rfl λ_=>enterK H d7 ha l j (.inl a7) _
   | round fn e9 d6 a6 ha hc=>
    cases b;exact fin rfl (by simpa using i) rfl rfl λ_=>.k ⟨qb7 H ((H.same _).1 a6).1 ((H.same _).1 a6).2 e9 d6 ((H.codes _).1 ha) ((H.codes _).1 hc) _,.cons l j,rfl,rfl,rfl,rfl⟩
   | defer hd=>
    cases b;exact fin rfl (by simpa using i) rfl rfl λ_=>.k ⟨l,j,rfl,rfl,rfl,rfl⟩
   | recover=>
    have hm:=l.mode;have R:=Q9 l j;dsimp only at b ⊢;generalize qik f cs=X at b R;generalize qik I G=X' at R ⊢;generalize k9:f.mode=m at b hm;generalize h8:I.mode=m' at hm ⊢;have q:qqe { frame:=f,callers:=cs,status:=.running,dying:=none } z=.go B p e0->∀{N:qkq},N=qj9 (seen P I.fn y) (.go { frame:=I,callers:=G,status:=.running,dying:=none } Y) ->
      ∃O C L F,N=.go C L F/\KW Q P O B C/\WR Q base O p L/\True/\Eff base Z O w L/\(∀e∈F,kY base O e)/\True/\wq.drawn<=p.drawn:=by
     intro h N a8;cases h;exact fin a8 (by simpa using i) rfl rfl λ_=>.k ⟨l,j,rfl,rfl,rfl,rfl⟩
    cases hm with
    | returning=>
     rcases R with⟨rfl,rfl⟩ | ⟨v,v',k,k',rfl,rfl,hv,d9⟩
     ·exact q b rfl
     ·cases b;exact fin rfl (by simpa using i) rfl rfl λ_=>.k ⟨l,d9,rfl,rfl,rfl,rfl⟩
    | run=>exact q b rfl
    | panicking hl=>exact q b rfl
  | panic z Y hv=>
   cases b;exact fin rfl (by simpa using i) rfl rfl λ_=>.k ⟨l.raise (.cons ⟨hv,rfl,rfl⟩ .nil),j,rfl,rfl,rfl,rfl⟩
def ZJ{Y M:Type}{R:Rel Y M}(L:base<=Z.length)(hw:WR Q base Z wq w)(ht:zF D wq w)(N:wq.drawn<=D){s:Sem Y}{l:Sem M}(hs:SR Q P R s Z l)(o:(rwR (s.run Q wq)).drawn=wq.drawn){K:qme Y->qkq}{K':qme M->qkq}{fn z:qj8}(y:∀h u g u' e,odd h=false->K (.halt h u)=.go g u' e->g.status=.running->g.dying=none->False)(hK:∀O r b W f,q6G R O r b W f->Le Z O->base<=O.length->WR Q base O b f->zF D b f->b.drawn<=D->vu Q P base D O b f (K r) (K' W)) :vu Q P base D Z wq w (qj9 (seen Q fn (s.events Q wq #[])) (K (s.run Q wq))) (qj9 (seen P z (l.events P w #[])) (K' (l.run P w))):=by
 intro T A d9 G hD n x;have⟨e0,S,_⟩:=jc G;have i:xj (s.run Q wq):=by
  cases hr:s.run Q wq with
  | ok a f=>trivial
  | halt h f=>
   rw[hr] at S;cases ho:odd h with
   | true=>exact ho
   | false=>exact(y h f _ _ _ ho S n x).elim
 have⟨O,k,w2,j,c,I,H,C,F,t,c9⟩:=SR.runs (es:=#[]) hs L hw ht (by rw[o];exact N) i;have hL:=t.le;have b6:k.drawn=wq.drawn:=by rw[<- c.world];exact o
 have q:l.events P w #[]=j:=by
  show(l.runT P w #[]).2=j;rw[I];simp
 have⟨V,g',w',U,e1,hg,B,b8,d,p,a6,X⟩:=hK O _ k _ w2 c hL (qhB L hL.len) C F (by omega) T A e0 S hD n x;refine⟨V,g',w',seen P z j++U,?_,hg,B,trivial,t.trans L d,?_,trivial,by omega⟩
 ·rw[q,e1];rfl
 ·intro e v;rcases ql9.1 v with v | v
  ·exact(H e (kG _ _ _ e v)).mono d.le
  ·exact p e v
def ZK(z:WR Q base Z wq w)(A:zF D wq w){f L:qhG}(I:qw Q P Z f L){B s:List qhG}(n:LsR (qw Q P Z) B s){v u:qhu}(N:VR Z v u)(b:Bool) :vu Q P base D Z wq w (qk7 Q true f B none v wq) (qk7 P b L s none u w):=by
 cases n with
 | nil=>
  intro S M U q V O R;unfold qk7 at q;simp only[I.okf] at q;cases hk:f.kind<;>rw[hk] at q<;>cases q
 | @cons c t B s a n=>
  unfold qk7;dsimp only;rw[I.kind];have o:vu Q P base D Z wq w (.go { frame:=c.finish v,callers:=B,status:=.running,dying:=none } wq) (.go { frame:=t.finish u,callers:=s,status:=.running,dying:=none } w) :=
   zk z A λ_ _=>⟨a.finish N,n,rfl,rfl,rfl,rfl⟩
  cases f.kind with
  | normal=>exact o
  | wrapped=>exact o
  | early=>exact zk z A λ_ _=>⟨a,n,rfl,rfl,rfl,rfl⟩
  | deferred=>
   refine zk z A λ_ _=>⟨?_,n,rfl,rfl,rfl,rfl⟩;dsimp only;have hm:=a.mode;have i:∀{l d:List qn0},LsR (J3 Z) l d->LsR (J3 Z) (l.dropWhile (!·.goexit)) (d.dropWhile (!·.goexit)):=by
    intro l d h;induction h with
    | nil=>exact .nil
    | @cons p x l d j e F=>
     simp only[qqt];rw[j.goexit];split
     ·exact F
     ·exact .cons j e
   cases hmc:c.mode with
   | run=>rw[hmc] at hm;cases hm':t.mode<;>rw[hm'] at hm<;>cases hm;exact a
   | returning=>rw[hmc] at hm;cases hm':t.mode<;>rw[hm'] at hm<;>cases hm;exact a
   | panicking l=>
    rw[hmc] at hm;cases hm':t.mode with
    | run=>rw[hm'] at hm;cases hm
    | returning=>rw[hm'] at hm;cases hm
    | panicking d=>
     rw[hm'] at hm;cases hm with
     | panicking e=>
      cases e with
      | nil=>exact a
      | @cons p x l d j e=>
       obtain⟨v,r,g⟩:=p;obtain⟨u,C,T⟩:=x;obtain⟨H,y,G⟩:=j;dsimp only at H y G;subst y;cases C with
       | false=>exact a
       | true=>
        dsimp only;have:=i e;generalize l.dropWhile (!·.goexit)=k at this;generalize d.dropWhile (!·.goexit)=k' at this;cases this with
        | nil=>exact⟨a.fn,a.same,a.okf,a.tmps,a.todo,a.defers,.returning,a.kind,a.round⟩
        | cons j e=>exact⟨a.fn,a.same,a.okf,a.tmps,a.todo,a.defers,.panicking (.cons j e),a.kind,a.round⟩
  | report=>
   refine zk z A λ_ _=>⟨?_,n,rfl,rfl,rfl,rfl⟩;dsimp only;have hm:=a.mode;have i:∀{l d:List qn0},LsR (J3 Z) l d->LsR (J3 Z) (l.dropWhile (!·.goexit)) (d.dropWhile (!·.goexit)):=by
    intro l d h;induction h with
    | nil=>exact .nil
    | @cons p x l d j e F=>
     simp only[qqt];rw[j.goexit];split
     ·exact F
     ·exact .cons j e
   cases hmc:c.mode with
   | run=>rw[hmc] at hm;cases hm':t.mode<;>rw[hm'] at hm<;>cases hm;exact a
   | returning=>rw[hmc] at hm;cases hm':t.mode<;>rw[hm'] at hm<;>cases hm;exact a
   | panicking l=>
    rw[hmc] at hm;cases hm':t.mode with
    | run=>rw[hm'] at hm;cases hm
    | returning=>rw[hm'] at hm;cases hm
    | panicking d=>
     rw[hm'] at hm;cases hm with
     | panicking e=>
      cases e with
      | nil=>exact a
      | @cons p x l d j e=>
       obtain⟨v,r,g⟩:=p;obtain⟨u,C,T⟩:=x;obtain⟨H,y,G⟩:=j;dsimp only at H y G;subst y;cases C with
       | false=>exact a
       | true=>
        dsimp only;have:=i e;generalize l.dropWhile (!·.goexit)=k at this;generalize d.dropWhile (!·.goexit)=k' at this;cases this with
        | nil=>exact⟨a.fn,a.same,a.okf,a.tmps,a.todo,a.defers,.returning,a.kind,a.round⟩
        | cons j e=>exact⟨a.fn,a.same,a.okf,a.tmps,a.todo,a.defers,.panicking (.cons j e),a.kind,a.round⟩
def Zg(H:Duo Q P)(A:Gl P Z)(p:Func){t k:Array qhu}(h:AsR Z t k):SR Q P VR (qke p t) Z (qke p k):=by
 unfold qke;refine .bnd (R:=AsR) ?_ λO a b l c=>?_
 ·rw[qlw,qlw];have n:∀(e:List ResultVar) (O:Ren),Le Z O->SR Q P (λV=>LsR (VR V)) (e.mapM fun
    | .tmp x=>pure (t.getD x qhx)
    | .cell a g=>do qra g (<- qro (t.getD a qhx))) O (e.mapM fun
    | .tmp x=>pure (k.getD x qhx)
    | .cell a g=>do qra g (<- qro (k.getD a qhx))):=by
   intro e;induction e with
   | nil=>intro O l;exact qf .nil
   | cons r e v=>
    intro O l;rw[qoe,qoe];refine .bnd (R:=VR) ?_ λV x y u d=>.bnd (v V (l.trans u)) λU a b q c=>qf (.cons (d.mono q) c);cases r with
    | tmp x=>exact qf ((h.mono l).getD x (kC O))
    | cell a g=>exact .bnd (q13 H.tables (A.mono l) ((h.mono l).getD a (kC O))) λU x y _ d=>by obtain⟨i,j,o,s,rfl,rfl,z⟩:=d;exact YM H.tables z
  exact SR.bnd (S:=AsR) (f:=λl=>pure l.toArray) (f':=λl=>pure l.toArray) (n p.results.toList Z (.refl Z)) λO a b l c=>qf (zm.2 (by simpa using c))
 ·refine qf ?_;have C:=c.1;split
  ·rename_i B
   rw[dif_pos (by omega)];exact c.2 0 _ _ (qih _) (qih _)
  ·rename_i B
   rw[dif_neg (by omega)];exact c.tuple
def Dry{Y:Type}:Sem Y->Prop
 | .pure _=>True
 | .load _ _ k=>∀v,Dry (k v)
 | .store _ _ _ k=>Dry k
 | .new _ k=>∀r,Dry (k r)
 | .shape _ k=>∀x,Dry (k x)
 | .freeze _ _ k=>Dry k
 | .frozen _ k=>∀b,Dry (k b)
 | .getObj _ k=>∀o,Dry (k o)
 | .setObj _ _ k=>Dry k
 | .choose _ _=>False
 | .sys _ _=>False
 | .program k=>∀p,Dry (k p)
 | .mark _ k=>Dry k
 | .halt _=>True
def Dry.bind{Y W:Type}{s:Sem Y}{f:Y->Sem W}(h:Dry s)(d:∀a,Dry (f a)):Dry (s>>=f):=by
 show Dry (s.bind f);induction s with
 | pure a=>exact d a
 | load m a k b=>exact λv=>b v (h v)
 | store m a v k b=>exact b h
 | new o k b=>exact λv=>b v (h v)
 | shape r k b=>exact λv=>b v (h v)
 | freeze a n k b=>exact b h
 | frozen a k b=>exact λv=>b v (h v)
 | getObj r k b=>exact λv=>b v (h v)
 | setObj r o k b=>exact b h
 | choose q k b=>exact h.elim
 | sys c k b=>exact h.elim
 | program k b=>exact λp=>b p (h p)
 | mark m k b=>exact b h
 | halt x=>trivial
def Dry.run{Y:Type}(p:qhF){s:Sem Y}:∀{w:qhr},Dry s->(rwR (s.run p w)).drawn=w.drawn:=by
 induction s with
 | pure a=>intro w h;rfl
 | load m a k b=>
  intro w h;simp only[qjd];split
  ·exact b _ (h _)
  ·split
   ·exact b _ (h _)
   ·rfl
 | store m a v k b=>
  intro w h;have d:(rwR (match w.cell? a with
     | some _=>if w.frozen? a then(.halt (.unsupported (.unsafePointer "a write to bytes that a string shares")) w:qme Y) else k.run p (w.setCell a v)
     | none=>match w.farStore p a v (m == .atomic) with
      | .ok (w,_)=>k.run p w
      | .error h=>.halt h w)).drawn=w.drawn:=by
   split
   ·split
    ·rfl
    ·exact b (w:=w.setCell a v) h
   ·split
    ·rename_i i t e
     rw[b h];unfold qnl at e;split at e
     ·split at e
      ·rename_i r g
       cases e;exact xR _ _ _ _ _ _ _ g
      ·cases e
     ·cases e
    ·rfl
  cases v<;>first | exact d | rfl
 | new o k b=>intro w h;exact b _ (w:={ w with heap:=w.heap.push o }) (h _)
 | shape r k b=>intro w h;exact b _ (h _)
 | freeze a n k b=>
  intro w h;refine(b (w:=w.freeze a n) h).trans ?_;unfold qr9;split<;>rfl
 | frozen a k b=>intro w h;exact b _ (h _)
 | getObj r k b=>
  intro w h;simp only[qjd];cases ho:w.heap[r]? with
  | none=>rfl
  | some o=>cases o<;>first | exact b _ (h _) | rfl
 | setObj r o k b=>
  intro w h;simp only[qjd];cases ho:w.heap[r]? with
  | none=>rfl
  | some f=>cases f<;>first | exact b (w:={ w with heap:=w.heap.setIfInBounds r o }) h | rfl
 | choose q k b=>intro w h;exact h.elim
 | sys c k b=>intro w h;exact h.elim
 | program k b=>intro w h;exact b _ (h _)
 | mark m k b=>intro w h;exact b h
 | halt x=>intro w h;rfl
end
end
section
section
variable[JunkSet]{Q P:qhF}{Z:Ren}{base D:Nat}{wq w:qhr}
def Kz(t:qi4):Dry (qle t):=λp=>by
 show Dry (match p.underlying t with | some d=>pure d | none=>stuck "no such type");split<;>trivial
def q2z(t:qi4):Dry (qlx t):=λp=>by
 show Dry (match p.info? t with | some d=>pure d | none=>stuck "no such type");split<;>trivial
def ZZ(a:qiG):∀(n i:Nat) (b:Array qhu),Dry (qoD a i n b):=by
 intro n;induction n with
 | zero=>intro i b;trivial
 | succ n c=>intro i b;exact λv=>c _ _
def q4E(t:qi4)(a:qiG):Dry (qra t a):=by
 refine Dry.bind (Dry.bind (Kz t) λd=>?_) λb=>?_
 ·split<;>trivial
 ·split
  ·exact Dry.bind (Dry.bind (q2z t) λi=>trivial) λn=>Dry.bind (ZZ _ _ _ _) λ_=>trivial
  ·exact λv=>trivial
def q6u(v:qhu):Dry (qro v):=by
 unfold qro;split
 ·trivial
 ·exact λp=>trivial
 ·trivial
def JT(h:Func)(t:Array qhu):Dry (qke h t):=by
 unfold qke;refine Dry.bind ?_ λe=>trivial;rw[qlw];have c:∀b:List ResultVar,Dry (b.mapM fun
    | .tmp x=>pure (t.getD x qhx)
    | .cell a d=>do qra d (<- qro (t.getD a qhx))):=by
  intro b;induction b with
  | nil=>trivial
  | cons r b g=>
   rw[qoe];refine Dry.bind ?_ λv=>Dry.bind g λe=>trivial;cases r with
   | tmp x=>trivial
   | cell a d=>exact Dry.bind (q6u _) λa=>q4E _ _
 exact Dry.bind (f:=λl=>pure l.toArray) (c _) λl=>trivial
def Qz(l:Nat):Dry (qqz l):=λo=>by cases o<;>trivial
def qcc(b:Nat):Dry (qpe b):=λo=>by
 cases o with
 | deferred c=>cases c<;>trivial
 | _=>trivial
def q2A(l:Nat)(j:Option qkh):Dry (qkE l j):=Dry.bind (Qz l) λr=>trivial
def q4F(l:Nat):Dry (qqA l):=Dry.bind (Qz l) λr=>by
 dsimp only;split
 ·exact Dry.bind (s:=qlm _) (λp=>trivial) λ_=>trivial
 ·trivial
def q0i(f:qj8)(t:Array qhu)(c:Array Tmp)(a b:qkh)(r:Option Nat):Dry (qnH f t c a b r):=by
 unfold qnH;cases r with
 | none=>exact λ_ _=>trivial
 | some l=>exact Dry.bind (Qz l) λr _=>trivial
def q78{i j:Nat}(h:BR Z i j):SR Q P (λO=>LsR (kg O)) (qpe i) Z (qpe j):=by
 refine .bnd (jP h) λO o d l b=>?_;cases b with
 | deferred c=>exact .bnd (jO (h.mono l) .deferredNone) λV _ _ a _=>qf (c.imp λ_ _ k=>k.mono a)
 | _=>exact qj
def JB{i j:Nat}(h:BR Z i j){c:Option qkh}(b:∀x,c=some x->JunkSet.okc x):SR Q P VR (qkE i c) Z (qkE j c):=by
 refine .bnd (yC h) λO r d l a=>.bnd (jO (h.mono l) (.loop ?_)) λV _ _ _ _=>qf (.bool _);exact⟨rfl,rfl,a.fn,a.tmps,a.params,a.assign,a.body,a.defers,a.okF,a.okA,a.okB,b⟩
def QZ(H:Duo Q P)(c:Gl P Z){i j:Nat}(h:BR Z i j):SR Q P (λ_ _ _=>True) (qpw i) Z (qpw j):=by
 refine .bnd (yC h) λO r d l a=>.bnd (jO (h.mono l) (.loop ⟨rfl,a.pending,a.fn,a.tmps,a.params,a.assign,a.body,a.defers,a.okF,a.okA,a.okB,a.okP⟩)) λV _ _ b _=>?_;rw[a.state];cases r.state with
 | ready=>exact qf trivial
 | _=>exact qy H.tables (c.mono (l.trans b)) _
def YS(H:Duo Q P)(e:Gl P Z){i j:Nat}(h:BR Z i j):SR Q P (λ_ a b=>b=a/\∀x,a=some x->JunkSet.okc x) (qqA i) Z (qqA j):=by
 refine .bnd (yC h) λO r f l c=>?_;dsimp only;rw[c.state];refine qF (λ_=>.bnd (R:=λ_ _ _=>False) (qy H.tables (e.mono l) _) λ_ _ _ _ d=>d.elim) λ_=>?_;refine .bnd (jO (h.mono l) (.loop ⟨rfl,c.pending,c.fn,c.tmps,c.params,c.assign,c.body,c.defers,c.okF,c.okA,c.okB,c.okP⟩)) λV _ _ g _=>?_;exact qf ⟨c.pending,c.okP⟩
def ZG(f:qj8)(A:JunkSet.okg f){t g:Array qhu}(v:AsR Z t g)(e:Array Tmp){a b:qkh}(C:JunkSet.okc a)(p:JunkSet.okc b){r s:Option Nat}(z:OBR Z r s) :SR Q P (λO x y=>BR O x.1 y.1/\LsR (kg O) x.2 y.2) (qnH f t e a b r) Z (qnH f g e a b s):=by
 unfold qnH;have fin:∀(O:Ren) {d q:Nat} {m n:List qjH},Le Z O->BR O d q->LsR (kg O) m n->SR Q P (λO (x y:Nat × List qjH)=>BR O x.1 y.1/\LsR (kg O) x.2 y.2)
   (do pure (<- newObj (.loop { state:=.ready,pending:=none,fn:=f,tmps:=t,params:=e,assign:=a,body:=b,defers:=d }),m)) O
   (do pure (<- newObj (.loop { state:=.ready,pending:=none,fn:=f,tmps:=g,params:=e,assign:=a,body:=b,defers:=q }),n)):=λO d q m n l B hm=>
  .bnd (YL (.loop ⟨rfl,rfl,rfl,v.mono l,rfl,rfl,rfl,B,A,C,p,λx h=>by cases h⟩)) λV i j u c=>qf ⟨c,hm.imp λ_ _ k=>k.mono u⟩
 rcases z with⟨rfl,rfl⟩ | ⟨i,j,rfl,rfl,p⟩
 ·exact .bnd (YL (.deferred .nil)) λO i j l c=>fin O l c (.cons (.mk (.collected c) .nil) .nil)
 ·exact .bnd (yC p) λO x y l o=>fin O l o.defers .nil
end
end
section
section
variable[JunkSet]{Q P:qhF}{Z:Ren}{base D:Nat}{wq w:qhr}
def YT(H:Duo Q P)(hb:base<=Z.length)(hw:WR Q base Z wq w)(hG:Gl P Z)(ht:zF D wq w)(a6:wq.drawn<=D){f f':qhG}(q:qw Q P Z f f'){cs G:List qhG}(B:LsR (qw Q P Z) cs G)(U:f.mode≠.run)(b:Bool) :vu Q P base D Z wq w (qmj Q true f cs none wq) (qmj P b f' G none w):=by
 have N:=q.defers;unfold qmj;generalize h8:f.defers=ds at N;generalize e4:f'.defers=I at N;cases N with
 | @cons d d' ds I hd X=>
  obtain⟨t,a⟩:=d;obtain⟨t',a'⟩:=d';have c8:qw Q P Z { f with defers:=ds } { f' with defers:=I }:=⟨q.fn,q.same,q.okf,q.tmps,q.todo,X,q.mode,q.kind,q.round⟩;have o:vu Q P base D Z wq w (qk3 Q { f with defers:=ds } cs none ⟨t,a⟩ wq) (qk3 P { f' with defers:=I } G none ⟨t',a'⟩ w) :=
   q2h H hb hw hG ht c8 B U hd
  rcases id hd with⟨T,_⟩ | ⟨h1,_,n,c,h3⟩
  case bound=>
   dsimp only at h1 h3;subst h1;subst h3;exact o
  dsimp only at T;cases T with
  | @collected i j c3=>
   dsimp only;simp only[qiw];refine ZJ hb hw ht a6 (q78 c3) (Dry.run Q (qcc i)) (K:=λr=>match r with
    | .ok A w=>.go { frame:={ f with defers:=A++ds },callers:=cs,status:=.running,dying:=none } w
    | .halt _ w=>.ended (.stuck "the deferred calls of a range-over-func loop have been taken" (f.pos Q)) w) (K':=λr=>match r with
    | .ok A w=>.go { frame:={ f' with defers:=A++I },callers:=G,status:=.running,dying:=none } w
    | .halt _ w=>.ended (.stuck "the deferred calls of a range-over-func loop have been taken" (f'.pos P)) w) (λh u g u' e _ hk _ _=>by cases hk) ?_
   intro O r C r' S hr l d6 L M _;cases hr with
   | ok C S d5=>
    have p:=q.mono l;exact zk L M λ_ _=>⟨⟨p.fn,p.same,p.okf,p.tmps,p.todo,d5.append (X.imp λ_ _ k=>k.mono l),p.mode,p.kind,p.round⟩,B.imp λ_ _ k=>k.mono l,rfl,rfl,rfl,rfl⟩
   | panic C S hv=>exact zH
  | fn h1 h2=>exact o
  | meth n h=>exact o
  | nil=>exact o
  | builtin x y z c h=>exact o
 | nil=>
  dsimp only;have hm:=q.mode;have⟨gf,V,W⟩:=q.same;generalize g8:f.mode=m at hm;generalize d9:f'.mode=m' at hm;cases hm with
  | run=>exact zH
  | panicking hl=>
   dsimp only;have Y:f.catches Q=false:=by unfold qpq;rw[V]
   have R:f'.catches P=false:=by unfold qpq;rw[q.fn,W]
   rw[Y,R];simp only[qiv,if_false];cases B with
   | cons hc B=>exact zk hw ht λ_ _=>⟨hc.raise hl,B,rfl,rfl,rfl,rfl⟩
   | nil=>
    intro k0 e9 k5 F hD b7 c9;exfalso;dsimp only at F
    repeat' split at F
    all_goals first
     | (cases F;done)
     | (cases F;cases b7;done)
     | (cases F;cases c9;done)
  | returning=>
   dsimp only;rw[q.fn,V,W];dsimp only;simp only[qiw];refine ZJ hb hw ht a6 (Zg H hG gf q.tmps) (Dry.run Q (JT gf _)) (K:=λr=>match r with
    | .ok v w=>qk7 Q true f cs none v w
    | .halt (.stuck s) w=>.ended (.stuck s (f.pos Q)) w
    | .halt _ w=>.ended (.stuck "return: the result variables cannot be read" (f.pos Q)) w) (K':=λr=>match r with
    | .ok v w=>qk7 P b f' G none v w
    | .halt (.stuck s) w=>.ended (.stuck s (f'.pos P)) w
    | .halt _ w=>.ended (.stuck "return: the result variables cannot be read" (f'.pos P)) w) (λh u g u' e _ hk _ _=>by cases h<;>cases hk) ?_
   intro O r C r' S hr l d6 L M _;cases hr with
   | ok C S hv=>exact ZK L M (q.mono l) (B.imp λ_ _ k=>k.mono l) hv b
   | panic C S hv=>exact zH
def Kh:Option qkh->Bool
 | none | some .ret=>true
 | _=>false
def QH(H:Duo Q P)(U:base<=Z.length)(G:WR Q base Z wq w)(L:zF D wq w)(C:wq.drawn<=D){f f':qhG}(a:qw Q P Z f f'){q c:List qhG}(n:LsR (qw Q P Z) q c)(b:Bool){j:Option qkh}(S:∀x,j=some x->qB Q x){s o:String} :
  vu Q P base D Z wq w (match f.roundOf with
   | none=>if Kh j=true then .go { frame:={ f with mode:=.returning },callers:=q,status:=.running,dying:=none } wq else .ended (.stuck s (f.pos Q)) wq
   | some l=>
    let (r,es):=(qkE l j).runT Q wq #[]
    qj9 (seen Q f.fn es) <| match r with
    | .ok v w=>qk7 Q true f q none v w
    | .halt _ w=>.ended (.stuck o (f.pos Q)) w) (match f'.roundOf with
   | none=>if Kh j=true then .go { frame:={ f' with mode:=.returning },callers:=c,status:=.running,dying:=none } w else .ended (.stuck s (f'.pos P)) w
   | some l=>
    let (r,es):=(qkE l j).runT P w #[]
    qj9 (seen P f'.fn es) <| match r with
    | .ok v w=>qk7 P b f' c none v w
    | .halt _ w=>.ended (.stuck o (f'.pos P)) w):=by
 rcases a.round with⟨y,t⟩ | ⟨i,k,y,t,B⟩
 ·rw[y,t];dsimp only;by_cases p:Kh j=true
  ·rw[if_pos p,if_pos p];exact zk G L λ_ _=>⟨⟨a.fn,a.same,a.okf,a.tmps,a.todo,a.defers,.returning,a.kind,.inl ⟨rfl,rfl⟩⟩,n,rfl,rfl,rfl,rfl⟩
  ·rw[if_neg p,if_neg p];exact zH
 ·rw[y,t];dsimp only;simp only[qiw];refine ZJ U G L C (JB B λx M=>(H.codes x).2 (S x M)) (Dry.run Q (q2A i j)) (K:=λr=>match r with
    | .ok v w=>qk7 Q true f q none v w
    | .halt _ w=>.ended (.stuck o (f.pos Q)) w) (K':=λr=>match r with
    | .ok v w=>qk7 P b f' c none v w
    | .halt _ w=>.ended (.stuck o (f'.pos P)) w) (λh u g V e _ R _ _=>by cases R) ?_
  intro O r d W F N l T z A _;cases N with
  | ok d F I=>exact ZK z A (a.mono l) (n.imp λ_ _ k=>k.mono l) I b
  | panic d F I=>exact zH
def qw.withTodo{f f':qhG}(a:qw Q P Z f f'){k b:List qlG}(c:LsR (zp Q Z) k b):qw Q P Z { f with todo:=k } { f' with todo:=b } :=
 ⟨a.fn,a.same,a.okf,a.tmps,c,a.defers,a.mode,a.kind,a.round⟩
def xT{i j:Nat}(h:BR Z i j){d c:qjH}(g:kg Z d c):SR Q P (λ_ _ _=>True) (qr1 i d) Z (qr1 j c):=by
 refine .bnd (yC h) λO r k l b=>?_;refine .bnd (jP b.defers) λV o n a e=>?_;cases e with
 | deferred f=>exact(jO (b.defers.mono a) (.deferred (.cons (g.mono (l.trans a)) f))).imp λ_ _ _ _ _=>trivial
 | deferredNone=>exact qat
 | _=>exact qj
def Jk(p:qhF)(u:qhr)(f i:Nat):(choose (.order f i)).run p u=.ok (u.tape u.drawn (.order f i)) { u with drawn:=u.drawn+1 }:=rfl
def qb0(H:Duo Q P)(hb:base<=Z.length)(L:WR Q base Z wq w)(hG:Gl P Z)(S:zF D wq w)(M:wq.drawn<=D){f f':qhG}(B:qw Q P Z f f'){cs N:List qhG}(s:LsR (qw Q P Z) cs N)(b:Bool) :vu Q P base D Z wq w (ql5 Q true true f cs none wq) (ql5 P b true f' N none w):=by
 obtain⟨fn,tmps,e8,defers,mode,kind,ro⟩:=f;obtain⟨p,tmps',c3,defers',mode',kind',C⟩:=f';have g7:=B.todo;have b6:∀x,qH Q x->VR Z (qmu ⟨fn,tmps,e8,defers,mode,kind,ro⟩ x) (qmu ⟨p,tmps',c3,defers',mode',kind',C⟩ x):=λx hx=>B.eval hG H.gsize hx;have q:∀{k k':List qlG},LsR (zp Q Z) k k'->vu Q P base D Z wq w (.go { frame:=⟨fn,tmps,k,defers,mode,kind,ro⟩,callers:=cs,status:=.running,dying:=none } wq) (.go { frame:=⟨p,tmps',k',defers',mode',kind',C⟩,callers:=N,status:=.running,dying:=none } w) :=
  λz=>zk L S λ_ _=>⟨B.withTodo z,s,rfl,rfl,rfl,rfl⟩
 unfold ql5;dsimp only;dsimp only at g7;cases g7 with
 | nil=>exact QH H hb L S M B s b (j:=none) (λx h=>by cases h)
 | @cons x x' k k' hx z=>
  cases hx with
  | @code c hc=>
   cases hc with
   | skip=>exact q z
   | label n=>exact q z
   | ret=>exact QH H hb L S M B s b (j:=some .ret) (λx h=>by cases h;exact .ret)
   | seq h1 h2=>exact q (.cons (.code h1) (.cons (.code h2) z))
   | @cond c x y h0 h1 h2=>
    dsimp only;have:=b6 _ h0;revert this;generalize qmu _ c=v;generalize qmu _ c=v';intro this;cases this with
    | bool t=>cases t<;>exact q (.cons (.code (by assumption)) z)
    | _=>exact zH
   | block h=>exact q (.cons (.code h) (.cons (.inBlock _) z))
   | loop h=>exact q (.cons (.code h) (.cons (.inLoop h) z))
   | scope h=>exact q (.cons (.code h) (.cons (.inScope h) z))
   | exit id=>
    dsimp only;rcases q6r (id:=id) z with⟨e1,e2⟩ | ⟨m,m',e1,e2,hm⟩
    ·rw[e1,e2];exact QH H hb L S M B s b (j:=some (.exit id)) (λx h=>by cases h;exact .exit id)
    ·rw[e1,e2];exact q hm
   | goto n=>
    dsimp only;rcases q6m (j:=n) z with⟨e1,e2⟩ | ⟨m,m',e1,e2,hm⟩
    ·rw[e1,e2];exact QH H hb L S M B s b (j:=some (.goto n)) (λx h=>by cases h;exact .goto n)
    ·rw[e1,e2];exact q hm
   | @region id F d I=>
    dsimp only;cases d with
    | false=>exact q (.cons (.inRegion _ I) z)
    | true=>
     simp only[qnD,qiv,if_false];rw[Jk,Jk];dsimp only;intro n8 m6 n9 e hD n3 n6;cases e;have Y:=B.fn;dsimp only at Y hD;subst Y;have e9:=S 0 (.order p id) (by omega);simp only[Nat.add_zero] at e9;have l6:P.follows .mixedOrders=Q.follows .mixedOrders:=by
      show P.toTables.follows .mixedOrders=Q.toTables.follows .mixedOrders;rw[H.tables]
     have⟨l4,l8⟩:=L.draw;refine⟨Z,_,_,#[],rfl,.k ⟨?_,s,rfl,rfl,rfl,rfl⟩,l4,trivial,l8,by simp,trivial,by simp only;omega⟩;rw[l6,e9];exact B.withTodo (.cons (.inRegion _ I) z)
   | @rangeFunc c ps a bd h0 h1 h2=>
    have Y:=B.fn;dsimp only at Y ⊢;subst Y;simp only[qiw];refine ZJ hb L S M (ZG (Q:=Q) (P:=P) p ((H.same p).2 ⟨B.same,B.okf⟩) B.tmps ps ((H.codes a).2 h1) ((H.codes bd).2 h2) B.round) (Dry.run Q (q0i p tmps ps a bd ro)) (K:=λr=>match r with
     | .ok (l,mark) w=>qji Q true ⟨p,tmps,.inRangeFunc l::k,mark++defers,mode,kind,ro⟩ cs none (do let d <- resolve (qmu ⟨p,tmps,.inRangeFunc l::k,mark++defers,mode,kind,ro⟩) { callee:=.value c,args:=#[.const (.func (.yield l) #[] #[])],argTypes:=#[] } 0;invoke d.target d.args) w
     | .halt _ w=>.ended (.stuck "range over a function: no such loop" (qru Q ⟨p,tmps,.code (.rangeFunc c ps a bd)::k,defers,mode,kind,ro⟩)) w) (K':=λr=>match r with
     | .ok (l,mark) w=>qji P true ⟨p,tmps',.inRangeFunc l::k',mark++defers',mode',kind',C⟩ N none (do let d <- resolve (qmu ⟨p,tmps',.inRangeFunc l::k',mark++defers',mode',kind',C⟩) { callee:=.value c,args:=#[.const (.func (.yield l) #[] #[])],argTypes:=#[] } 0;invoke d.target d.args) w
     | .halt _ w=>.ended (.stuck "range over a function: no such loop" (qru P ⟨p,tmps',.code (.rangeFunc c ps a bd)::k',defers',mode',kind',C⟩)) w) (λh u g u' e ho z _ _=>by cases z) ?_
    intro O r T r' w1 hr l g8 a9 b0 _;cases hr with
    | panic T w1 hv=>exact zH
    | @ok x y T w1 hv=>
     obtain⟨i,m⟩:=x;obtain⟨i',m'⟩:=y;obtain⟨d9,hm⟩:=hv;dsimp only at d9 hm ⊢;have A:=B.mono l;have l7:qw Q P O ⟨p,tmps,.inRangeFunc i::k,m++defers,mode,kind,ro⟩ ⟨p,tmps',.inRangeFunc i'::k',m'++defers',mode',kind',C⟩ :=
      ⟨A.fn,A.same,A.okf,A.tmps,.cons (.inRangeFunc d9) (z.imp λ_ _ k=>k.mono l),hm.append A.defers,A.mode,A.kind,A.round⟩
     refine QI H g8 a9 b0 l7 (s.imp λ_ _ k=>k.mono l) (by intro x l h;cases h) (SR.sm ?_);have hy:AsR O #[Value.func (Fn.yield i) #[] #[]] #[Value.func (Fn.yield i') #[] #[]] :=
      AsR.one (.func (a:=#[]) (a':=#[]) (c:=#[]) (c':=#[]) (.yield d9) rfl (λi x y hx=>by simp at hx) rfl (λi x y hx=>by simp at hx))
     have g5:∀(e:qiy->qhu) (v:qhu),#[Operand.const v].map e=#[e (.const v)]:=λe v=>by simp
     refine .bnd (R:=kg) (Zh H.toPair ((b6 _ h0).mono l) (by rw[g5,g5];exact hy)) λV d d' l' hd=>vO H.toPair (hG.mono (l.trans l')) hd
  | inBlock id=>exact q z
  | inScope h=>exact q z
  | inLoop h=>exact q (.cons (.code h) (.cons (.inLoop h) z))
  | @inRegion F l I=>
   cases l with
   | nil=>exact q z
   | cons i l=>
    dsimp only;have k9:qjt F tmps'=qjt F tmps:=funext λj=>q5j F B.tmps j;rw[k9];by_cases hc:((F[i]?).map (qip · (qjt F tmps))).getD false=true
    ·rw[if_pos hc,if_pos hc];unfold qow Frame.oper?;dsimp only;cases ho:F[i]? with
     | none=>exact zH
     | some o=>
      dsimp only;have d5:=I o (by rw[qko];exact qjB ho);have X:=QI H hb L S B s (by intro x l h;cases h) (q15 H.toPair b6 hG L.nodup (λv=>rfl) d5);rcases B.round with⟨W,U⟩ | ⟨a,b',W,U,d6⟩
      ·dsimp only at W U;subst W;subst U;exact X
      ·dsimp only at W U;subst W;subst U;by_cases a6:∃c,o.op=.defer c
       ·obtain⟨c,a6⟩:=a6;rw[a6] at d5 ⊢;dsimp only;refine QI H hb L S B s (by intro x l h;cases h) (SR.sm ?_);cases d5 with
        | defer d8=>
         exact .bnd (xu H.toPair b6 d8 _) λO d d' l hd=>.bnd (xT (d6.mono l) hd) λV _ _ _ _=>qf .skip
       ·split
        ·rename_i e1 e2
         exact absurd ⟨_,e2⟩ a6
        ·split
         ·rename_i e1 e2
          exact absurd ⟨_,e2⟩ a6
         ·exact X
    ·rw[if_neg hc,if_neg hc];exact zk L S λ_ _=>⟨B.finish (kC Z),s,rfl,rfl,rfl,rfl⟩
  | inRangeFunc h=>exact zH
  | @endRangeFunc i j h=>
   dsimp only;simp only[qiw];refine ZJ hb L S M (YS H hG h) (Dry.run Q (q4F i)) (K:=λr=>match r with
    | .ok G w=>.go { frame:=⟨fn,tmps,(G.map Item.code).toList++k,defers,mode,kind,ro⟩,callers:=cs,status:=.running,dying:=none } w
    | .halt (.panic v) w=>.go { frame:=qqd ⟨fn,tmps,.endRangeFunc i::k,defers,mode,kind,ro⟩ [{ v,recovered:=false }],callers:=cs,status:=.running,dying:=none } w
    | .halt _ w=>.ended (.stuck "range over a function: no such loop" (qru Q ⟨fn,tmps,.endRangeFunc i::k,defers,mode,kind,ro⟩)) w) (K':=λr=>match r with
    | .ok G w=>.go { frame:=⟨p,tmps',(G.map Item.code).toList++k',defers',mode',kind',C⟩,callers:=N,status:=.running,dying:=none } w
    | .halt (.panic v) w=>.go { frame:=qqd ⟨p,tmps',.endRangeFunc j::k',defers',mode',kind',C⟩ [{ v,recovered:=false }],callers:=N,status:=.running,dying:=none } w
    | .halt _ w=>.ended (.stuck "range over a function: no such loop" (qru P ⟨p,tmps',.endRangeFunc j::k',defers',mode',kind',C⟩)) w) (λh u g u' e ho z _ _=>by cases h<;>first | (cases ho;done) | cases z) ?_
   intro O r T r' w1 hr l g8 a9 b0 _;have A:=B.mono l;have b9:=s.imp λ_ _ k=>qw.mono l k;have g6:=z.imp λ_ _ k=>zp.mono l k;cases hr with
   | @ok G c8 T w1 hv=>
    obtain⟨hj,d7⟩:=hv;subst hj;refine zk a9 b0 λ_ _=>⟨A.withTodo ?_,b9,rfl,rfl,rfl,rfl⟩;cases c8 with
    | none=>exact g6
    | some c=>exact .cons (.code ((H.codes c).1 (d7 c rfl))) g6
   | panic T w1 hv=>exact zk a9 b0 λ_ _=>⟨A.raise (.cons ⟨hv,rfl,rfl⟩ .nil),b9,rfl,rfl,rfl,rfl⟩
  | beginRound=>
   dsimp only;refine QI H hb L S B s (by intro x l h;cases h) (SR.sm ?_);refine .bnd (R:=λ_ _ _=>True) ?_ λO _ _ _ _=>qf .skip;rcases B.round with⟨W,U⟩ | ⟨i,j,W,U,d6⟩
   ·dsimp only at W U;rw[W,U];exact qj
   ·dsimp only at W U;rw[W,U];exact QZ H hG d6
def q16(H:Duo Q P)(i:base<=Z.length)(f:WR Q base Z wq w)(j:Gl P Z)(h:zF D wq w)(a:wq.drawn<=D){g k:qhw}(t:kV Q P Z g k)(b:Bool) :vu Q P base D Z wq w (qj5 Q true g wq true) (qj5 P b k w true):=by
 obtain⟨x,F,A,C,s⟩:=g;obtain⟨l,z,r,y,n⟩:=k;obtain⟨d,e,v,u,q,p⟩:=t;dsimp only at d e v u q p;subst q;subst p;have hm:=d.mode;unfold qj5;dsimp only;generalize c:x.mode=m at hm;generalize o:l.mode=m' at hm;cases hm with
 | run=>exact qb0 H i f j h a d e b
 | returning=>exact YT H i f j h a d e (by rw[c];simp) b
 | panicking B=>exact YT H i f j h a d e (by rw[c];simp) b
def qaH(H:Duo Q P)(z:base<=Z.length)(t:WR Q base Z wq w)(A:Gl P Z)(u:zF D wq w)(r:wq.drawn<=D){g s:qhw}(x:kV Q P Z g s)(b:Bool) :∀d i n,qj5 Q true g wq true=.go d i n->i.drawn<=D->d.status=.running->d.dying=none->Q.funcs[d.frame.fn]?=P.funcs[d.frame.fn]? ->∃O j o p,qj5 P b s w true=.go j o p/\kV Q P O d j/\WR Q base O i o/\True/\Eff base Z O w o/\(∀e∈p,kY base O e)/\True/\wq.drawn<=i.drawn:=by
 intro d i n e B v y l;have⟨O,j,o,p,G,F,C⟩:=q16 H z t A u r x b d i n e B v y;refine⟨O,j,o,p,G,?_,C⟩;rcases F with⟨_,h⟩ | ⟨f,k,a,N,c,M,L,I,q,_,rfl,_⟩
 ·exact h
 ·exact absurd l q
end
end
end Go.Sim
section
namespace Go
def World.tp(w:qhr)(T:Nat->qk5->Nat):qhr:={ w with tape:=T }
end Go
namespace Go.Sim
def tpR{Y:Type}(T:Nat->qk5->Nat):qme Y->qme Y
 | .ok a w=>.ok a (w.tp T)
 | .halt h w=>.halt h (w.tp T)
def q7H(T:Nat->qk5->Nat)(w:qhr)(n:Nat):Prop:=∀k q,w.drawn<=k->k<n->T k q=w.tape k q
def Knows{Y:Type}(Q:qhF)(s:Sem Y)(w:qhr):Prop :=
 (rwR (s.run Q w)).tape=w.tape/\∀T,q7H T w (rwR (s.run Q w)).drawn->s.run Q (w.tp T)=tpR T (s.run Q w)
section
variable[JunkSet]{Q P:qhF}{base:Nat}
def SR.knows{Y M:Type}{R:Rel Y M}{s:Sem Y}:∀{Z:Ren} {C:Sem M} {wq w:qhr},SR Q P R s Z C->base<=Z.length->WR Q base Z wq w->xj (s.run Q wq)->Knows Q s wq:=by
 induction s with
 | pure a=>intro Z C wq w h t g b;exact⟨rfl,λT _=>rfl⟩
 | load m a k y=>
  intro Z C wq w h t g b;rcases h with d | ⟨rfl,j,H,rfl,p,z⟩
  ·exact absurd b (Bad.not_fine g.nopend d)
  have e0:∀T,(wq.tp T).cell? a=wq.cell? a:=λT=>rfl;unfold Knows;simp only[qjd,e0] at b ⊢;cases hc:wq.cell? a with
  | none=>
   rw[hc] at b;simp only[qqw] at b;split at b
   ·rename_i G
    split at G
    ·rename_i B
     exact absurd B (g.noview p _ _)
    ·cases G
   ·rename_i G
    split at G
    ·rename_i B
     exact absurd B (g.noview p _ _)
    ·cases G;exact absurd b (jS g.nopend _ _ _)
  | some v=>
   have⟨v',B,U⟩:=g.cell p hc;rw[hc] at b;exact y v (z v v' U) t g b
 | store m a v k y=>
  intro Z C wq w h t g b;rcases h with d | ⟨rfl,j,v',H,rfl,p,G,z⟩
  ·exact absurd b (Bad.not_fine g.nopend (s:=.store m a v k) d)
  have N:(∃x,v=.agg x)\/(∃x,v=.tuple x)\/((∀x,v≠.agg x)/\∀x,v≠.tuple x):=by
   cases v<;>simp
  rcases N with⟨x,rfl⟩ | ⟨x,rfl⟩ | ⟨a6,X⟩
  ·simp only[qjd] at b;exact absurd b (λh=>by cases h)
  ·simp only[qjd] at b;exact absurd b (λh=>by cases h)
  ·have e1:∀u:qhr,(qrn .plain a v k).run Q u=match u.cell? a with
     | some _=>if u.frozen? a then .halt (.unsupported (.unsafePointer "a write to bytes that a string shares")) u else k.run Q (u.setCell a v)
     | none=>match u.farStore Q a v false with
      | .ok (w,_)=>k.run Q w
      | .error h=>.halt h u:=λu=>by
    cases v<;>first | rfl | exact absurd rfl (a6 _) | exact absurd rfl (X _)
   have e0:∀T,(wq.tp T).cell? a=wq.cell? a:=λT=>rfl;have e2:∀T,(wq.tp T).frozen? a=wq.frozen? a:=λT=>rfl;unfold Knows;simp only[e1,e0,e2] at b ⊢;cases hc:wq.cell? a with
   | none=>
    rw[hc] at b;simp only[qnl] at b;split at b
    ·rename_i G
     split at G
     ·rename_i B
      exact absurd B (g.noview p _ _)
     ·cases G
    ·rename_i G
     split at G
     ·rename_i B
      exact absurd B (g.noview p _ _)
     ·cases G;exact absurd b (jS g.nopend _ _ _)
   | some u=>
    rw[hc] at b;cases hfz:wq.frozen? a with
    | true=>
     simp only[hfz,if_true] at b;exact absurd b (λh=>by cases h)
    | false=>
     have⟨O,b7,D,L⟩:=g.set p hc hfz G;simp only[hfz,qiv,if_false] at b ⊢;exact y z t D b
 | new o k y=>
  intro Z C wq w h t g b;rcases h with d | ⟨o',H,rfl,F,z⟩
  ·exact absurd b (Bad.not_fine g.nopend (s:=.new o k) d)
  have⟨D,L⟩:=g.newO t F;have S:=z w.heap.size (λi hi=>qna _ (g.lt i _ hi));rw[g.len] at S;exact y _ S (by simp;omega) D b
 | shape r k y=>
  intro Z C wq w h t g b;rcases h with d | ⟨j,H,rfl,p,z⟩
  ·exact absurd b (Bad.not_fine g.nopend (s:=.shape r k) d)
  exact y _ (z _ _ (g.shape p)) t g b
 | freeze a n k _=>intro Z C wq w h t g b;exact absurd b (Bad.not_fine g.nopend (s:=.freeze a n k) h)
 | frozen a k _=>intro Z C wq w h t g b;exact absurd b (Bad.not_fine g.nopend (s:=.frozen a k) h)
 | getObj r k y=>
  intro Z C wq w h t g b;rcases h with d | ⟨j,H,rfl,p,z⟩
  ·exact absurd b (Bad.not_fine g.nopend (s:=.getObj r k) d)
  cases F:wq.heap[r]? with
  | none=>simp only[qjd,F] at b;exact absurd b (λh=>by cases h)
  | some o=>
   by_cases l:∃c e f,o=.cells c e f
   ·obtain⟨c,e,f,rfl⟩:=l;simp only[qjd,F] at b;exact absurd b (λh=>by cases h)
   ·have A:∀c e f,o≠.cells c e f:=λc e f x=>l ⟨c,e,f,x⟩;rcases g.obj _ _ _ p F with⟨_,hj,_⟩ | ⟨_,o',c3,U⟩
    ·exact absurd hj (A _ _ _)
    ·rw[yE F A] at b;have I:∀T,(wq.tp T).heap[r]?=some o:=λT=>F;unfold Knows;simp only[yE F A,yE (I _) A];exact y o (z _ _ U) t g b
 | setObj r o k y=>
  intro Z C wq w h t g b;rcases h with d | ⟨j,o',H,rfl,p,W,z⟩
  ·exact absurd b (Bad.not_fine g.nopend (s:=.setObj r o k) d)
  cases F:wq.heap[r]? with
  | none=>simp only[qjd,F] at b;exact absurd b (λh=>by cases h)
  | some V=>
   by_cases l:∃c e f,V=.cells c e f
   ·obtain⟨c,e,f,rfl⟩:=l;simp only[qjd,F] at b;exact absurd b (λh=>by cases h)
   ·have A:∀c e f,V≠.cells c e f:=λc e f x=>l ⟨c,e,f,x⟩;have⟨O,⟨b9,b6,U⟩,D,L⟩:=g.setO p F A W;rw[yD F A] at b;have I:∀T,(wq.tp T).heap[r]?=some V:=λT=>F;unfold Knows;simp only[yD F A,yD (I _) A];exact y z t D b
 | choose q k y=>
  intro Z C wq w h t g b;rcases h with d | ⟨H,rfl,z⟩
  ·exact absurd b (Bad.not_fine g.nopend (s:=.choose q k) d)
  unfold Knows;simp only[qjd] at b ⊢;cases hq:q.forced with
  | true=>
   rw[hq] at b;simp only[if_true] at b ⊢;exact y _ (z _) t g b
  | false=>
   rw[hq] at b;simp only[qiv,if_false] at b ⊢;have⟨D,L⟩:=g.draw;have⟨h1,h2⟩:=y _ (z _) t D b;refine⟨h1,λT hT=>?_⟩;have:=vS Q (k (q.cut (wq.tape wq.drawn q))) { wq with drawn:=wq.drawn+1 };have e:(wq.tp T).tape (wq.tp T).drawn q=wq.tape wq.drawn q:=hT _ q (qhv _) (by simp only at this;exact qi0 (qny _) this);rw[e];exact h2 T λn q hn=>hT n q (by simp only at hn;omega)
 | sys c k y=>
  intro Z C wq w h t g b;rcases h with d | ⟨rfl,H,rfl,z⟩
  ·exact absurd b (Bad.not_fine g.nopend (s:=.sys c k) d)
  have e1:∀u:qhr,u.sys .env=(.strings u.os.env,u):=λu=>rfl;unfold Knows;simp only[qjd,e1] at b ⊢;exact y _ (z _) t g b
 | program k y=>
  intro Z C wq w h t g b;rcases h with d | ⟨H,rfl,z⟩
  ·exact absurd b (Bad.not_fine g.nopend (s:=.program k) d)
  exact y _ z t g b
 | mark m k y=>
  intro Z C wq w h t g b;rcases h with d | ⟨rfl,H,rfl,z⟩
  ·exact absurd b (Bad.not_fine g.nopend (s:=.mark m k) d)
  exact y z t g b
 | halt x=>intro Z C wq w h t g b;exact⟨rfl,λT _=>rfl⟩
end
end Go.Sim
end
namespace Go.Sim
section
section
variable[JunkSet]{Q P:qhF}{Z:Ren}{base:Nat}{wq w:qhr}
def ZS(b:P.toTables=Q.toTables)(l:Gl P Z)(i:base<=Z.length)(c:WR Q base Z wq w){t:qi4}(u:Kd Q t=true){m o k k' v v':qhu}(hm:VR Z m o)(q:VR Z k k')(p:VR Z v v')(e:xj ((qjw t m k v).run Q wq)):Knows Q (qjw t m k v) wq:=by
 rcases q4b (k':=k') (v':=v') b l c hm e with h | ⟨r,j,kt,z,A,x,a,rfl,rfl,f,d,g,y,s⟩
 ·exact h.knows i c e
 ·have n:=λT=>(yO (P:=Q) (t:=t) (k:=k) (v:=v) (w:=wq.tp T) d g).1;have r0:=(yO (P:=Q) (t:=t) (k:=k) (v:=v) d g).1;have:=(q10 b l (q4e u d) q p f s a 0).knows i c (by rw[<- r0];exact e);unfold Knows at this ⊢;rw[r0];exact⟨this.1,λT b=>by rw[n T];exact this.2 T b⟩
def qgE{s:Sem Unit}(h:Knows Q s wq):Knows Q (do s;pure Next.skip:Sem qmm) wq:=by
 have b:∀(u:qhr),((do s;pure Next.skip:Sem qmm)).run Q u=match s.run Q u with | .ok _ u'=>.ok .skip u' | .halt h u'=>.halt h u':=λu=>by
  rw[qjo];cases s.run Q u<;>rfl
 unfold Knows at h ⊢;rw[b];refine⟨?_,λT a=>?_⟩
 ·have:=h.1;cases hx:s.run Q wq<;>(rw[hx] at this;exact this)
 ·rw[b,h.2 T]
  ·cases hx:s.run Q wq<;>rfl
  ·cases hx:s.run Q wq<;>(rw[hx] at a;exact a)
end
end
section
def Live(g:qhw):Prop:=g.status=.running/\g.dying=none
def q5i(g:qhw):Prop:=g.status=.blocked\/g.status=.waiting\/g.status=.finished\/(g.status=.running/\∃d,g.dying=some d/\d.calling=false/\d.fatal.isSome=true)
def Flat(a:List qhG):qkq->Prop
 | .go g _ _=>Live g\/q5i g\/a=[]
 | .ended ..=>True
 | _=>False
def flx{p:Prop}(h:p:=by first | exact trivial | exact .inl ⟨rfl,rfl⟩ | exact .inr (.inl (.inl rfl)) | exact .inr (.inl (.inr (.inl rfl))) | exact .inr (.inl (.inr (.inr (.inl rfl)))) | exact .inr (.inl (.inr (.inr (.inr ⟨rfl,_,rfl,rfl,rfl⟩)))) | exact .inr (.inr rfl)):p:=h
structure One(cs:List qhG)(wq:qhr)(r:qhr->qkq):Prop where
 flat:Flat cs (r wq)
 go:∀g' w' es,r wq=.go g' w' es->g'.status=.running->g'.dying=none->w'.tape=wq.tape/\wq.drawn<=w'.drawn/\∀T,q7H T wq w'.drawn->∃es',r (wq.tp T)=.go g' (w'.tp T) es'
def Zv{a:List qhG}{b:Array qjk}{s:qkq}(h:Flat a s):Flat a (qj9 b s):=by
 cases s<;>first | exact h | exact h.elim
def Kr{p:qhF}{e:qhG}{c:List qhG}{f:Option qn8}{m:String}{u:qhr}:Flat c (qp0 p e c f m u):=by
 unfold qp0;dsimp only;generalize (qjd p _ u:qme (List (ByteArray × String) × List ByteArray))=r;cases r with
 | ok a d=>obtain⟨t,b⟩:=a;exact flx
 | halt x d=>cases x<;>exact flx
section
variable[JunkSet]{Q P:qhF}{Z:Ren}{base:Nat}{wq w:qhr}
def yH{c:List qhG}{r:qhr->qkq}(h:∃o u a,r wq=.ended o u a):One c wq r:=by
 obtain⟨o,u,a,e⟩:=h;exact⟨by rw[e];trivial,λf d b h _ _=>by rw[e] at h;cases h⟩
def SR.tri{Y M:Type}{R:Rel Y M}{s:Sem Y}{j:Sem M}(k:SR Q P R s Z j)(l:base<=Z.length)(d:WR Q base Z wq w) :(Knows Q s wq/\((∃a u,s.run Q wq=.ok a u/\∃O b p,R O a b/\Le Z O/\WR Q base O u p)\/∃v u,s.run Q wq=.halt (.panic v) u))\/∃h u,s.run Q wq=.halt h u/\odd h=false:=by
 by_cases e:xj (s.run Q wq)
 ·refine .inl ⟨k.knows l d e,?_⟩;have g:WR Q base Z wq { w with tape:=λn q=>wq.tape (n - w.drawn+wq.drawn) q }:=⟨d.len,d.nodup,d.lt,d.obj,d.low,d.env,d.below,d.gar⟩;have⟨O,o,x,t,c,_,_,f,_,i,_⟩:=SR.runs (es:=#[]) (D:=(rwR (s.run Q wq)).drawn) k l g (λn q _=>by
   show wq.tape (wq.drawn+n) q=wq.tape (w.drawn+n - w.drawn+wq.drawn) q;rw[show w.drawn+n - w.drawn+wq.drawn=wq.drawn+n by omega]) (qhv _) e
  generalize s.run Q wq=r at c;generalize (qjd P j _)=r' at c;cases c with
  | ok _ _ h=>exact .inl ⟨_,_,rfl,O,_,_,h,i.le,f⟩
  | panic _ _ _=>exact .inr ⟨_,_,rfl⟩
 ·refine .inr ?_;cases hr:s.run Q wq with
  | ok a u=>rw[hr] at e;exact absurd trivial e
  | halt h u=>
   rw[hr] at e;exact⟨h,u,rfl,by cases ho:odd h with | false=>rfl | true=>exact absurd ho e⟩
def Tri[JunkSet](Q:qhF){Y M:Type}(R:Rel Y M)(s:Sem Y)(Z:Ren)(base:Nat)(wq:qhr):Prop :=
 (Knows Q s wq/\((∃a u,s.run Q wq=.ok a u/\∃O b c,R O a b/\Le Z O/\WR Q base O u c)\/∃v u,s.run Q wq=.halt (.panic v) u))\/∃h u,s.run Q wq=.halt h u/\odd h=false
def q48{Y M:Type}{R:Rel Y M}{s:Sem Y}(hs:Tri Q R s Z base wq){F:List qhG}{K:qhr->qme Y->qkq}{r:qhr->qkq}(I:∀u x,s.run Q u=x->∃j,r u=qj9 j (K u x))(L:∀a u O b G,R O a b->Le Z O/\WR Q base O u G->Flat F (K wq (.ok a u))/\∀d f j,K wq (.ok a u)=.go d f j->d.status=.running->d.dying=none->f.tape=u.tape/\u.drawn<=f.drawn/\∀T,q7H T u f.drawn->∃t,K (wq.tp T) (.ok a (u.tp T))=.go d (f.tp T) t)(l:∀v u,Flat F (K wq (.halt (.panic v) u))/\∀d f j,K wq (.halt (.panic v) u)=.go d f j->d.status=.running->d.dying=none->f=u/\∀T,∃t,K (wq.tp T) (.halt (.panic v) (u.tp T))=.go d (u.tp T) t)(z:∀h u,odd h=false->Flat F (K wq (.halt h u))/\∀d f j,K wq (.halt h u)=.go d f j->d.status=.running->d.dying=none->False) :One F wq r:=by
 have c:=vS Q s wq;have⟨b8,n⟩:=I wq _ rfl;rcases hs with⟨⟨y,o⟩,⟨a,u,e,O,b,G,hR,hl,H⟩ | ⟨v,u,e⟩⟩ | ⟨h,u,e,ho⟩
 ·rw[e] at n o y c;have⟨C,B⟩:=L a u O b G hR ⟨hl,H⟩;refine⟨by rw[n];exact Zv C,λd f j h g i=>?_⟩;rw[n] at h;have⟨e0,A,_⟩:=jc h;have⟨h4,h5,V⟩:=B _ _ _ A g i;have c:wq.drawn<=u.drawn:=c;refine⟨h4.trans y,qhB c h5,λT D=>?_⟩;have⟨X,U⟩:=I (wq.tp T) _ rfl;have p:s.run Q (wq.tp T)=.ok a (u.tp T):=o T λk q o N=>D k q o (qi0 N h5);have⟨W,S⟩:=V T λk q o N=>by rw[show u.tape=wq.tape from y];exact D k q (qhB c o) N
  exact⟨_,by rw[U,p,S];rfl⟩
 ·rw[e] at n o y c;have⟨C,B⟩:=l v u;refine⟨by rw[n];exact Zv C,λd f j h g i=>?_⟩;rw[n] at h;have⟨e0,A,_⟩:=jc h;obtain⟨rfl,V⟩:=B _ _ _ A g i;refine⟨y,c,λT D=>?_⟩;have⟨X,U⟩:=I (wq.tp T) _ rfl;have p:s.run Q (wq.tp T)=.halt (.panic v) (f.tp T):=o T D;have⟨W,S⟩:=V T;exact⟨_,by rw[U,p,S];rfl⟩
 ·rw[e] at n;have⟨C,B⟩:=z h u ho;refine⟨by rw[n];exact Zv C,λd f j h g i=>?_⟩;rw[n] at h;have⟨e0,A,_⟩:=jc h;exact(B _ _ _ A g i).elim
def QK{Y M:Type}{R:Rel Y M}{s:Sem Y}{n:Sem M}(p:SR Q P R s Z n)(t:base<=Z.length)(o:WR Q base Z wq w){j:List qhG}{K:qhr->qme Y->qkq}{r:qhr->qkq}(q:∀u x,s.run Q u=x->∃g,r u=qj9 g (K u x))(k:∀a u O b l,R O a b->Le Z O/\WR Q base O u l->Flat j (K wq (.ok a u))/\∀c d g,K wq (.ok a u)=.go c d g->c.status=.running->c.dying=none->d.tape=u.tape/\u.drawn<=d.drawn/\∀T,q7H T u d.drawn->∃f,K (wq.tp T) (.ok a (u.tp T))=.go c (d.tp T) f)(e:∀v u,Flat j (K wq (.halt (.panic v) u))/\∀c d g,K wq (.halt (.panic v) u)=.go c d g->c.status=.running->c.dying=none->d=u/\∀T,∃f,K (wq.tp T) (.halt (.panic v) (u.tp T))=.go c (u.tp T) f)(i:∀h u,odd h=false->Flat j (K wq (.halt h u))/\∀c d g,K wq (.halt h u)=.go c d g->c.status=.running->c.dying=none->False) :One j wq r:=q48 (p.tri t o) q k e i
def K7(H:Duo Q P)(A:base<=Z.length)(z:WR Q base Z wq w){f:qhG}{cs:List qhG}(q:∀d r s k,f.todo≠.call d true r s::k){s:Sem qmm}(p:Tri Q (zW) s Z base wq):One cs wq (λu=>qji Q true f cs none s u):=by
 apply q48 p
 ·intro u x o;apply Exists.intro;unfold qji;simp only[if_true,qiw,o];exact rfl
 ·intro a u O b y t _;cases t with
  | recover=>
   rcases hX:qik f cs with _ | ⟨v,k⟩<;>cases hro:f.roundOf<;>simp only[hX,hro,H.rfr,if_true] <;>
    exact⟨flx,λi e j h _ _=>by cases h;exact⟨rfl,qhv _,λT _=>⟨_,rfl⟩⟩⟩
  | _=>exact⟨flx,λi e j h _ _=>by cases h;exact⟨rfl,qhv _,λT _=>⟨_,rfl⟩⟩⟩
 ·intro v u;exact⟨flx,λi e j h _ _=>by cases h;exact⟨rfl,λT=>⟨_,rfl⟩⟩⟩
 ·intro h u n;cases h with
  | panic v=>cases n
  | goexit=>cases n
  | unsupported x=>
   cases x with
   | initOrder g=>cases n
   | _=>exact⟨flx,λi e j h _ _=>by cases h⟩
  | blocked=>exact⟨flx,λi e j h l _=>by cases h;cases l⟩
  | waiting=>exact⟨flx,λi e j h l _=>by cases h;cases l⟩
  | throw m=>exact⟨flx,λi e j h _ c=>by simp only[qoh,dieOf,qlH] at h;rw[<- h.1] at c;cases c⟩
  | fatal m=>exact⟨Kr,λi e j h _ c=>absurd c (z9 h)⟩
  | _=>exact⟨flx,λi e j h _ _=>by cases h⟩
def SM.tri{Y M:Type}{R:Rel Y M}{s:Sem Y}{i:Sem M}(k:SM Q P R s Z i)(l:xj (s.run Q wq)->Knows Q s wq)(o:base<=Z.length)(c:WR Q base Z wq w):Tri Q R s Z base wq:=by
 by_cases d:xj (s.run Q wq)
 ·refine .inl ⟨l d,?_⟩;have f:WR Q base Z wq { w with tape:=λn q=>wq.tape (n - w.drawn+wq.drawn) q }:=⟨c.len,c.nodup,c.lt,c.obj,c.low,c.env,c.below,c.gar⟩;have⟨O,j,t,p,b,_,_,e,g⟩:=k (D:=(rwR (s.run Q wq)).drawn) o f (λn q _=>by
   show wq.tape (wq.drawn+n) q=wq.tape (w.drawn+n - w.drawn+wq.drawn) q;rw[show w.drawn+n - w.drawn+wq.drawn=wq.drawn+n by omega]) (qhv _) d
  generalize s.run Q wq=r at b;generalize (qjd P i _)=r' at b;cases b with
  | ok _ _ h=>exact .inl ⟨_,_,rfl,O,_,_,h,g.le,e⟩
  | panic _ _ _=>exact .inr ⟨_,_,rfl⟩
 ·refine .inr ?_;cases hr:s.run Q wq with
  | ok a u=>rw[hr] at d;exact absurd trivial d
  | halt h u=>
   rw[hr] at d;exact⟨h,u,rfl,by cases ho:odd h with | false=>rfl | true=>exact absurd ho d⟩
def q5q(H:Pair Q P)(g:base<=Z.length)(d:WR Q base Z wq w){e t:qiy->qhu}(b:∀x,qH Q x->VR Z (e x) (t x))(i:Gl P Z)(p:Inj Z)(q:∀v,e (.const v)=v){o:qjn}(f:qN Q o.op) :Tri Q (@zW _) (qkA e o) Z base wq:=by
 cases hmu:qbw o.op with
 | false=>exact(q11 H b i p q f hmu).tri g d
 | true=>
  refine SM.tri (q15 H b i p q f) (λc=>?_) g d;obtain⟨y,A,z,r,after,guard⟩:=o;dsimp only at f hmu;have fin:∀{s:Sem Unit},xj ((do s;pure Next.skip:Sem qmm).run Q wq)->xj (s.run Q wq):=λ{s} c=>by
   rw[qjo] at c;cases hx:s.run Q wq with
   | ok a u=>trivial
   | halt h u=>rw[hx] at c;exact c
  cases f with
  | mapUpdate n l k j=>exact qgE (ZS H.tables i g d n (b _ l) (b _ k) (b _ j) (fin c))
  | insert n l k j=>exact qgE (ZS H.tables i g d n (b _ l) (b _ k) (b _ j) (fin c))
  | _=>cases hmu
def Jl(H:Duo Q P)(c:base<=Z.length)(b:WR Q base Z wq w){f:qhG}{cs:List qhG}(a:∀d r s k,f.todo≠.call d true r s::k){s s':Sem qmm}(e:SR Q P zW s Z s'):One cs wq (λu=>qji Q true f cs none s u):=K7 H c b a (e.tri c b)
def Z7(f:qhG)(a:List qhG)(v:qhu):(∃g,(Live g\/q5i g\/a=[])/\∀u,qk7 Q true f a none v u=.go g u #[])\/∃o,∀u,qk7 Q true f a none v u=.ended o u #[]:=by
 unfold qk7;cases a with
 | cons c a=>
  dsimp only;split;all_goals exact .inl ⟨_,flx,λu=>rfl⟩
 | nil=>
  dsimp only;split
  ·rename_i h;cases h
  ·exact .inr ⟨_,λu=>rfl⟩
  ·simp only[qnD,qiv,if_false];split
   ·exact .inl ⟨_,flx,λu=>rfl⟩
   ·exact .inr ⟨_,λu=>rfl⟩
def jq{a:List qhG}{r:qhr->qkq}{g:qhw}(h:∀u,r u=.go g u #[])(b:Live g\/q5i g\/a=[]:=by exact flx):One a wq r :=
 ⟨by rw[h];exact b,λd c f e _ _=>by rw[h] at e;cases e;exact⟨rfl,qhv _,λT _=>⟨_,h _⟩⟩⟩
def yh(y:base<=Z.length)(s:WR Q base Z wq w){f:qhG}{n:List qhG}{d:qjH}{q:Sem qmm}(t:SR Q P zW (invoke d.target d.args) Z q):One n wq (λu=>qk3 Q f n none d u):=by
 by_cases p:(kJ d.target && kI f.mode)=true
 ·refine yH ⟨.unsupported (.noEntry "machine/Return: a deferred call of a nil function value, made while the frame is unwinding") (f.pos Q),wq,#[],?_⟩;show qk3 Q f n none d wq=_;unfold qk3;exact if_pos p
 apply QK t y s
 ·intro u x r;apply Exists.intro;show qk3 Q f n none d u=_;unfold qk3;refine(if_neg p).trans ?_;simp only[qiw,r];exact rfl
 ·intro a u O b A z _;cases z with
  | recover=>
   rcases hX:qik f n with _ | ⟨v,k⟩<;>cases hm:f.mode<;>simp only[hX,hm] <;>
    exact⟨flx,λi e j h _ _=>by cases h;exact⟨rfl,qhv _,λT _=>⟨_,rfl⟩⟩⟩
  | _=>exact⟨flx,λi e j h _ _=>by cases h;exact⟨rfl,qhv _,λT _=>⟨_,rfl⟩⟩⟩
 ·intro v u;exact⟨flx,λi e j h _ _=>by cases h;exact⟨rfl,λT=>⟨_,rfl⟩⟩⟩
 ·intro h u o;cases h with
  | panic v=>cases o
  | goexit=>cases o
  | unsupported x=>
   cases x with
   | initOrder g=>cases o
   | _=>exact⟨flx,λi e j h _ _=>by cases h⟩
  | blocked=>exact⟨flx,λi e j h l _=>by cases h;cases l⟩
  | waiting=>exact⟨flx,λi e j h l _=>by cases h;cases l⟩
  | throw m=>exact⟨flx,λi e j h _ c=>by simp only[qoh,dieOf,qlH] at h;rw[<- h.1] at c;cases c⟩
  | fatal m=>exact⟨Kr,λi e j h _ c=>absurd c (z9 h)⟩
  | _=>exact⟨flx,λi e j h _ _=>by cases h⟩
def K6(H:Duo Q P)(C:base<=Z.length)(s:WR Q base Z wq w)(Y:Gl P Z){f f':qhG}(R:qw Q P Z f f')(V:List qhG) :One V wq (λu=>qmj Q true f V none u):=by
 have B:=R.defers;unfold qmj;generalize b8:f.defers=ds at B;generalize W:f'.defers=U at B;cases B with
 | @cons d d' ds U X b7=>
  obtain⟨t,a⟩:=d;obtain⟨t',a'⟩:=d';have G:SR Q P zW (invoke t a) Z (invoke t' a'):=vO H.toPair Y X;rcases id X with⟨F,_⟩ | ⟨S,_,n,c,h3⟩
  case bound=>
   dsimp only at S h3;subst S;subst h3;exact yh C s G
  dsimp only at F;cases F with
  | @collected i j N=>
   apply QK (q78 (Q:=Q) (P:=P) N) C s
   ·intro u x M;apply Exists.intro;simp only[qiw,M];exact rfl
   ·intro l u O b D hR _;exact⟨flx,λq k r h _ _=>by cases h;exact⟨rfl,qhv _,λT _=>⟨_,rfl⟩⟩⟩
   ·intro v u;exact⟨flx,λq k r h _ _=>by cases h⟩
   ·intro h u ho;exact⟨flx,λq k r h _ _=>by cases h⟩
  | fn S h2=>exact yh C s G
  | meth n h=>exact yh C s G
  | nil=>exact yh C s G
  | builtin x y z c h=>exact yh C s G
 | nil=>
  dsimp only;have⟨gf,I,b6⟩:=R.same;cases hm:f.mode with
  | run=>exact yH ⟨_,_,_,rfl⟩
  | panicking l=>
   dsimp only;have L:f.catches Q=false:=by unfold qpq;rw[I]
   rw[L];simp only[qiv,if_false]
   repeat' split
   all_goals first
    | exact jq λu=>rfl
    | exact yH ⟨_,_,_,rfl⟩
    | exact⟨flx,λq k r h A p=>by cases h;cases A⟩
    | exact⟨flx,λq k r h A p=>by cases h;cases p⟩
    | skip
   constructor
   ·show Flat _ (match (qrA l false).run Q wq with | .ok todo w=>_ | .halt (.unsupported u) w=>_ | .halt h w=>_);cases(qrA l false).run Q wq with
    | ok a D=>exact flx
    | halt x D=>cases x<;>exact flx
   ·intro q k r h A p;exfalso;revert h;cases(qrA l false).run Q wq with
    | ok a D=>intro h;cases h;cases p
    | halt x D=>cases x<;>(intro h;cases h)
  | returning=>
   dsimp only;rw[I];dsimp only;apply QK (Zg H Y gf R.tmps) C s
   ·intro u x M;apply Exists.intro;simp only[qiw,M];exact rfl
   ·intro v u O b D hR _;rcases Z7 (Q:=Q) f V v with⟨g,hl,h⟩ | ⟨o,h⟩
    ·refine⟨?_,λq k r e _ _=>?_⟩
     ·dsimp only;rw[h];exact hl
     ·dsimp only at e ⊢;rw[h] at e;cases e;exact⟨rfl,qhv _,λT _=>⟨_,h _⟩⟩
    ·refine⟨?_,λq k r e _ _=>?_⟩
     ·dsimp only;rw[h];trivial
     ·dsimp only at e ⊢;rw[h] at e;cases e
   ·intro v u;exact⟨flx,λq k r h _ _=>by cases h⟩
   ·intro h u ho;cases h<;>exact⟨flx,λq k r h _ _=>by cases h⟩
def QL(G:base<=Z.length)(B:WR Q base Z wq w){f I:qhG}(F:qw Q P Z f I)(c:List qhG)(H:Duo Q P){j:Option qkh}(D:∀x,j=some x->qB Q x){s z:String} :
  One c wq (λu=>match f.roundOf with
   | none=>if Kh j=true then .go { frame:={ f with mode:=.returning },callers:=c,status:=.running,dying:=none } u else .ended (.stuck s (f.pos Q)) u
   | some l=>
    let (r,a):=(qkE l j).runT Q u #[]
    qj9 (seen Q f.fn a) <| match r with
    | .ok v w=>qk7 Q true f c none v w
    | .halt _ w=>.ended (.stuck z (f.pos Q)) w):=by
 rcases F.round with⟨n,A⟩ | ⟨i,k,n,A,q⟩
 ·rw[n];dsimp only;by_cases y:Kh j=true
  ·simp only[if_pos y];exact jq λu=>rfl
  ·simp only[if_neg y];exact yH ⟨_,_,_,rfl⟩
 ·rw[n];apply QK (JB (Q:=Q) (P:=P) q λx p=>(H.codes x).2 (D x p)) G B
  ·intro u x p;apply Exists.intro;simp only[qiw,p];exact rfl
  ·intro v u O b L N _;rcases Z7 (Q:=Q) f c v with⟨g,C,h⟩ | ⟨o,h⟩
   ·refine⟨?_,λt d a e _ _=>?_⟩
    ·dsimp only;rw[h];exact C
    ·dsimp only at e ⊢;rw[h] at e;cases e;exact⟨rfl,qhv _,λT _=>⟨_,h _⟩⟩
   ·refine⟨?_,λt d a e _ _=>?_⟩
    ·dsimp only;rw[h];trivial
    ·dsimp only at e ⊢;rw[h] at e;cases e
  ·intro v u;exact⟨flx,λt d a h _ _=>by cases h⟩
  ·intro h u M;exact⟨flx,λt d a h _ _=>by cases h⟩
def qbf(H:Duo Q P)(S:base<=Z.length)(N:WR Q base Z wq w)(hG:Gl P Z){f f':qhG}(B:qw Q P Z f f')(cs:List qhG) :One cs wq (λu=>ql5 Q true true f cs none u):=by
 obtain⟨X,p,b7,g,t,z,ro⟩:=f;obtain⟨d5,C,Y,q,L,M,a6⟩:=f';have b9:=B.todo;have a9:∀x,qH Q x->VR Z (qmu ⟨X,p,b7,g,t,z,ro⟩ x) (qmu ⟨d5,C,Y,q,L,M,a6⟩ x):=λx A=>B.eval hG H.gsize A;unfold ql5;dsimp only at b9 ⊢;cases b9 with
 | nil=>exact QL S N B cs H (j:=none) (λx h=>by cases h)
 | @cons x x' k k' A hk=>
  cases A with
  | @code c hc=>
   cases hc with
   | skip=>exact jq λu=>rfl
   | label n=>exact jq λu=>rfl
   | ret=>exact QL S N B cs H (j:=some .ret) (λx h=>by cases h;exact .ret)
   | seq h1 h2=>exact jq λu=>rfl
   | @cond c x y h0 h1 h2=>
    dsimp only;split
    ·exact jq λu=>rfl
    ·exact yH ⟨_,_,_,rfl⟩
   | block h=>exact jq λu=>rfl
   | loop h=>exact jq λu=>rfl
   | scope h=>exact jq λu=>rfl
   | exit id=>
    dsimp only;cases qno id k with
    | none=>exact QL S N B cs H (j:=some (.exit id)) (λx h=>by cases h;exact .exit id)
    | some m=>exact jq λu=>rfl
   | goto n=>
    dsimp only;cases qo5 n k with
    | none=>exact QL S N B cs H (j:=some (.goto n)) (λx h=>by cases h;exact .goto n)
    | some m=>exact jq λu=>rfl
   | @region id I d W=>
    dsimp only;cases d with
    | false=>exact jq λu=>rfl
    | true=>
     simp only[qnD,qiv,if_false,Jk];refine⟨flx,λg' w' es h _ _=>?_⟩;cases h;refine⟨rfl,qrz _,λT hT=>?_⟩;have e:(wq.tp T).tape (wq.tp T).drawn (.order X id)=wq.tape wq.drawn (.order X id):=hT _ _ (qhv _) (qny _);rw[e];exact⟨_,rfl⟩
   | @rangeFunc c ps a bd h0 h1 h2=>
    dsimp only;apply QK (ZG (Q:=Q) (P:=P) X ((H.same X).2 ⟨B.same,B.okf⟩) B.tmps ps ((H.codes a).2 h1) ((H.codes bd).2 h2) B.round) S N
    ·intro u x A;apply Exists.intro;simp only[qiw];dsimp only at A;rw[A]
    ·intro x u O y w1 hR ⟨hl,e5⟩;obtain⟨i,m⟩:=x;obtain⟨i',m'⟩:=y;obtain⟨c3,hm⟩:=hR;dsimp only at c3 hm ⊢;have hy:AsR O #[Value.func (Fn.yield i) #[] #[]] #[Value.func (Fn.yield i') #[] #[]] :=
      AsR.one (.func (a:=#[]) (a':=#[]) (c:=#[]) (c':=#[]) (.yield c3) rfl (λi x y A=>by simp at A) rfl (λi x y A=>by simp at A))
     have b8:∀(e:qiy->qhu) (v:qhu),#[Operand.const v].map e=#[e (.const v)]:=λe v=>by simp
     have:=Jl (cs:=cs) (f:=⟨X,p,.inRangeFunc i::k,m++g,t,z,ro⟩) H (qhB S hl.len) e5 (λd r s k e=>by cases e)
      (s:=do let d <- resolve (qmu ⟨X,p,.inRangeFunc i::k,m++g,t,z,ro⟩) { callee:=.value c,args:=#[.const (.func (.yield i) #[] #[])],argTypes:=#[] } 0;invoke d.target d.args)
      (s':=do let d <- resolve (qmu ⟨d5,C,.inRangeFunc i'::k',m'++q,L,M,a6⟩) { callee:=.value c,args:=#[.const (.func (.yield i') #[] #[])],argTypes:=#[] } 0;invoke d.target d.args)
      (.bnd (R:=kg) (Zh H.toPair ((a9 _ h0).mono hl) (by rw[b8,b8];exact hy)) λV d d' l' hd=>vO H.toPair (hG.mono (hl.trans l')) hd)
     exact⟨this.flat,this.go⟩
    ·intro v u;exact⟨flx,λg' w' es h _ _=>by cases h⟩
    ·intro h u ho;exact⟨flx,λg' w' es h _ _=>by cases h⟩
  | inBlock id=>exact jq λu=>rfl
  | inScope h=>exact jq λu=>rfl
  | inLoop h=>exact jq λu=>rfl
  | @inRegion I l W=>
   cases l with
   | nil=>exact jq λu=>rfl
   | cons i l=>
    dsimp only;by_cases hc:((I[i]?).map (qip · (qjt I p))).getD false=true
    ·simp only[if_pos hc];unfold qow Frame.oper?;dsimp only;cases ho:I[i]? with
     | none=>exact yH ⟨_,_,_,rfl⟩
     | some o=>
      dsimp only;have a7:=W o (by rw[qko];exact qjB ho);have G:=K7 (cs:=cs) H S N (f:=⟨X,p,.inRegion I (i::l)::k,g,t,z,ro⟩) (λd r s k e=>by cases e) (q5q H.toPair S N a9 hG N.nodup (λv=>rfl) a7);rcases B.round with⟨F,D⟩ | ⟨a,b',F,D,a8⟩
      ·dsimp only at F D;subst F;subst D;exact G
      ·dsimp only at F D;subst F;subst D;by_cases U:∃c,o.op=.defer c
       ·obtain⟨c,U⟩:=U;rw[U] at a7 ⊢;dsimp only;cases a7 with
        | defer b0=>
         exact Jl H S N (λd r s k e=>by cases e) (SR.bnd (xu H.toPair a9 b0 _) λO d d' l hd=>.bnd (xT (a8.mono l) hd) λV _ _ _ _=>qf .skip)
       ·split
        ·rename_i e1 e2
         exact absurd ⟨_,e2⟩ U
        ·exact G
    ·simp only[if_neg hc];exact jq λu=>rfl
  | inRangeFunc h=>exact yH ⟨_,_,_,rfl⟩
  | @endRangeFunc i j h=>
   dsimp only;apply QK (YS H hG h) S N
   ·intro u x A;apply Exists.intro;simp only[qiw,A];exact rfl
   ·intro l u O b w1 hR _;exact⟨flx,λg' w' es h _ _=>by cases h;exact⟨rfl,qhv _,λT _=>⟨_,rfl⟩⟩⟩
   ·intro v u;exact⟨flx,λg' w' es h _ _=>by cases h;exact⟨rfl,λT=>⟨_,rfl⟩⟩⟩
   ·intro h u ho;cases h<;>first | (cases ho;done) | exact⟨flx,λg' w' es h _ _=>by cases h⟩
  | beginRound=>
   dsimp only;refine Jl (P:=P) (s':=(do a6.elim (stuck "beginRound: no round") qpw;pure .skip)) H S N (λd r s k e=>by cases e) ?_;refine .bnd (R:=λ_ _ _=>True) ?_ λO _ _ _ _=>qf .skip;rcases B.round with⟨F,D⟩ | ⟨i,j,F,D,a8⟩
   ·dsimp only at F D;rw[F,D];exact qj
   ·dsimp only at F D;rw[F,D];exact QZ H hG a8
def q47(H:Duo Q P)(c:base<=Z.length)(b:WR Q base Z wq w)(d:Gl P Z){g i:qhw}(l:kV Q P Z g i):One g.callers wq (λu=>qj5 Q true g u true):=by
 obtain⟨r,e,s,v,j⟩:=g;obtain⟨a,q,p,o,h,n⟩:=l;dsimp only at a q p o h n;subst h;have hm:=a.mode;unfold qj5;dsimp only;generalize k:r.mode=m at hm;generalize f:i.frame.mode=m' at hm;cases hm with
 | run=>exact qbf H c b d a e
 | returning=>exact K6 H c b d a e
 | panicking t=>exact K6 H c b d a e
end
end
section
inductive LP (Q:qhF) (F:qhw->qhr->Prop):qhw->qhr->Prop
 | done {g:qhw} {u:qhr}:F g u->LP Q F g u
 | step {g g1:qhw} {u u1:qhr} {es:Array qjk}:qj5 Q true g u true=.go g1 u1 es->g1.status=.running->g1.dying=none->LP Q F g1 u1->LP Q F g u
inductive LT (Q:qhF) (F:qhw->qhr->Prop):qhw->qhr->Prop
 | done {g:qhw} {u:qhr}:F g u->LT Q F g u
 | step {g:qhw} {u:qhr}:¬ F g u->(∀T,∃g1 u1 es,qj5 Q true g (u.tp T) true=.go g1 u1 es/\g1.status=.running/\g1.dying=none) ->
   (∀T g1 u1 es,qj5 Q true g (u.tp T) true=.go g1 u1 es->LT Q F g1 u1)->LT Q F g u
section
variable[JunkSet]{Q:qhF}{base:Nat}{F:qhw->qhr->Prop}
def xQ(Q:qhF)(base:Nat)(g:qhw)(u:qhr):Prop :=
 ∃Z a w,base<=Z.length/\WR Q base Z u w/\Gl Q Z/\kV Q Q Z g a
def WR.tape{Z:Ren}{u w:qhr}(h:WR Q base Z u w)(T a:Nat->qk5->Nat):WR Q base Z (u.tp T) (w.tp a):=⟨h.len,h.nodup,h.lt,h.obj,h.low,h.env,h.below,h.gar⟩
def xQ.tape{g:qhw}{u:qhr}(h:xQ Q base g u)(T:Nat->qk5->Nat):xQ Q base g (u.tp T) :=
 let ⟨Z,g',w,h1,h2,h3,h4⟩:=h
 ⟨Z,g',w,h1,h2.tape T w.tape,h3,h4⟩
def xQ.one(H:Duo Q Q){g:qhw}{u:qhr}(h:xQ Q base g u):One g.callers u (λu=>qj5 Q true g u true) :=
 let ⟨_,_,_,h1,h2,h3,h4⟩:=h
 q47 H h1 h2 h3 h4
def xQ.next(H:Duo Q Q){g a:qhw}{u u1:qhr}{y:Array qjk}(h:xQ Q base g u)(e:qj5 Q true g u true=.go a u1 y)(i:a.status=.running)(j:a.dying=none):xQ Q base a u1:=by
 have hm:=((h.one H).go _ _ _ e i j).2.1;obtain⟨Z,z,w,l,v,k,t⟩:=h;have b:=v.tape u.tape (λn q=>u.tape (n - w.drawn+u.drawn) q);have s:zF u1.drawn u (w.tp λn q=>u.tape (n - w.drawn+u.drawn) q):=λn q _=>by
  show u.tape (u.drawn+n) q=u.tape (w.drawn+n - w.drawn+u.drawn) q;rw[show w.drawn+n - w.drawn+u.drawn=u.drawn+n by omega]
 have⟨O,c,o,x,_,r,p,_,d,_⟩:=qaH H l b k s hm t true _ _ _ e (qhv _) i j rfl;exact⟨O,c,o,qhB l d.le.len,p,k.mono d.le,r⟩
def q3i(u:qhr)(T a:Nat->qk5->Nat):(u.tp T).tp a=u.tp a:=rfl
def Yk(u:qhr):u.tp u.tape=u:=rfl
def LP.ext(H:Duo Q Q)(j:∀g u T,F g u->F g (u.tp T)){g:qhw}{u:qhr}(h:LP Q F g u)(d:xQ Q base g u){T:Nat->qk5->Nat}(f:∀k q,u.drawn<=k->T k q=u.tape k q):LP Q F g (u.tp T):=by
 induction h with
 | done h=>exact .done (j _ _ _ h)
 | @step g s u u1 t e a c _ i=>
  have⟨o,n,l⟩:=(d.one H).go _ _ _ e a c;have⟨p,r⟩:=l T λk q b _=>f k q b;exact .step r a c (i (d.next H e a c) λk q b=>by rw[o];exact f k q (qhB n b))
def LP.inv{g:qhw}{u:qhr}(d:¬ F g u)(h:LP Q F g u):∃a u1 f,qj5 Q true g u true=.go a u1 f/\a.status=.running/\a.dying=none/\LP Q F a u1:=by
 cases h with
 | done h=>exact absurd h d
 | step e b c h=>exact⟨_,_,_,e,b,c,h⟩
def LP.rest(H:Duo Q Q)(p:∀g u T,F g u->F g (u.tp T)){g b:qhw}{u u1:qhr}{y:Array qjk}(n:xQ Q base g u)(r:¬ F g u)(h:∀T,LP Q F g (u.tp T)){T:Nat->qk5->Nat}(e:qj5 Q true g (u.tp T) true=.go b u1 y)(l:b.status=.running)(o:b.dying=none)(a:Nat->qk5->Nat):LP Q F b (u1.tp a):=by
 have d:=(n.tape T).next H e l o
 have⟨B,A,v⟩:=((n.tape T).one H).go _ _ _ e l o
 let c:Nat->qk5->Nat:=λk q=>if k<u1.drawn then T k q else a k q
 have⟨x,j⟩:=v c λk q _ i=>by show(if k<u1.drawn then T k q else a k q)=T k q;rw[if_pos i]
 rw[q3i] at j;have f:¬ F g (u.tp c):=λs=>r (by have:=p _ _ u.tape s;rwa [q3i,Yk] at this);have⟨C,u2,w,z,_,_,t⟩:=LP.inv f (h c);rw[z] at j;cases j;have:=LP.ext H p t (d.tape c) (T:=a) λk q i=>by
  show a k q=if k<u1.drawn then T k q else a k q;rw[if_neg (by have:u1.drawn<=k:=i;omega)]
 exact this
def LT.of_all(H:Duo Q Q)(X:∀g u T,F g u->F g (u.tp T)){g:qhw}{u:qhr}(A:xQ Q base g u)(h:∀T,LP Q F g (u.tp T)):LT Q F g u:=by
 classical
 refine qj6 λp=>?_
 let D:qhw × qhr->Prop:=λx=>xQ Q base x.1 x.2/\(∀T,LP Q F x.1 (x.2.tp T))/\¬ LT Q F x.1 x.2
 have next:∀x:{x // D x},∃y:(Nat->qk5->Nat) × {y // D y},∃j,qj5 Q true x.1.1 (x.1.2.tp y.1) true=.go y.2.1.1 y.2.1.2 j/\y.2.1.1.status=.running/\y.2.1.1.dying=none:=by
  rintro⟨⟨g,u⟩,A,t,P⟩;dsimp only at A t P ⊢;have s:¬ F g u:=λs=>P (.done s);have C:∀T,¬ F g (u.tp T):=λT hh=>s (by have:=X _ _ u.tape hh;rwa [q3i,Yk] at this);refine qj6 λp=>P (.step s (λT=>?_) λT G u1 j e=>?_)
  ·have⟨G,u1,j,e,l,o,_⟩:=LP.inv (C T) (t T);exact⟨G,u1,j,e,l,o⟩
  ·have⟨g2,u2,Z,I,l,o,_⟩:=LP.inv (C T) (t T);rw[e] at I;cases I;refine qj6 λr=>p ⟨(T,⟨(G,u1),(A.tape T).next H e l o,λT'=>LP.rest H X A s t e l o T',r⟩),j,e,l,o⟩
 let d:{x // D x}->(Nat->qk5->Nat) × {y // D y}:=λx=>ql0 (next x)
 have B:∀x,∃j,qj5 Q true x.1.1 (x.1.2.tp (d x).1) true=.go (d x).2.1.1 (d x).2.1.2 j/\(d x).2.1.1.status=.running/\(d x).2.1.1.dying=none:=λx=>qli (next x)
 let a:Nat->{x // D x}:=λn=>Nat.rec ⟨(g,u),A,h,p⟩ (λ_ x=>(d x).2) n
 have a7:∀n,a (n+1)=(d (a n)).2:=λn=>rfl
 let b:Nat->Nat:=λn=>(a n).1.2.drawn
 have i:∀n,b n<=b (n+1):=λn=>by
  have⟨j,e,l,o⟩:=B (a n);exact((((a n).2.1.tape _).one H).go _ _ _ e l o).2.1
 have c:∀m n,m<=n->b m<=b n:=λm n R=>by
  induction R with
  | refl=>exact qhv _
  | step _ N=>exact qhB N (i _)
 let L:Nat->qk5->Nat:=λk q=>if f:∃n,b n<=k/\k<b (n+1) then(d (a (ql0 f))).1 k q else 0
 have W:∀n k q,b n<=k->k<b (n+1)->L k q=(d (a n)).1 k q:=λn k q z w=>by
  have f:∃n,b n<=k/\k<b (n+1):=⟨n,z,w⟩;show(if f:∃n,b n<=k/\k<b (n+1) then(d (a (ql0 f))).1 k q else 0)=_;rw[dif_pos f];have⟨Y,h4⟩:=qli f;have:ql0 f=n:=by
   rcases Nat.lt_trichotomy (ql0 f) n with r | he | U
   ·exact absurd (qi0 h4 (qhB (c (ql0 f+1) n r) z)) (qna _)
   ·exact he
   ·exact absurd (qi0 w (qhB (c (n+1) (ql0 f) U) Y)) (qna _)
  rw[this]
 have M:∀(x:qhw) (v:qhr),LP Q F x v->∀n,x=(a n).1.1->v=(a n).1.2.tp L->False:=by
  intro x v t;induction t with
  | @done g u s=>
   intro n z w;subst z;subst w;exact(a n).2.2.2 (.done (by have:=X _ _ (a n).1.2.tape s;rwa [q3i,Yk] at this))
  | @step g G u u1 j e l o _ N=>
   intro n z w;subst z;subst w;have⟨Z,I,O,V⟩:=B (a n);have⟨_,_,Y⟩:=(((a n).2.1.tape _).one H).go _ _ _ I O V;have⟨b7,e3⟩:=Y L λk q hk S=>W n k q hk S;rw[q3i] at e3;rw[e] at e3;cases e3;exact N (n+1) rfl rfl
 exact M _ _ (h L) 0 rfl rfl
end
end
section
def ql(f:qj8):qhG:={ fn:=f,tmps:=#[],todo:=[.code (.exit 0)],defers:=[{ target:=.nil,args:=#[] }],mode:=.run,kind:=.normal }
def Popped(f:qj8)(a:qhG):Prop:=a=ql f\/∃l,a={ ql f with mode:=.panicking l }
def Stk(f:qj8)(g:qhw):Prop:=(∃pre,g.callers=pre++[ql f])\/(g.callers=[]/\Popped f g.frame)
def jh(f:qj8)(r:qkq):Prop:=∀a u1 b,r=.go a u1 b->a.status=.running->a.dying=none->Stk f a
section
variable[JunkSet]{Q:qhF}{f:qj8}
def jT{s:qkq}{g:Array qjk}(h:jh f s):jh f (qj9 g s):=λi u1 d e a b=>by
 have⟨j,c,_⟩:=jc e;exact h _ _ _ c a b
def qG{o:Outcome}{u:qhr}{a:Array qjk}:jh f (.ended o u a):=λ_ _ _ e _ _=>by cases e
def qW{d:qhG}{pre b:List qhG}{c:qkF}{i:Option qn8}{a:Option (Array ql6 × qkw)}{u:qhr}{g:Array qjk}(h:b=pre++[ql f]):jh f (.go { frame:=d,callers:=b,status:=c,dying:=i,offers:=a } u g):=λ_ _ _ e _ _=>by
 cases e;exact .inl ⟨pre,h⟩
def q4n{g:qhw}{u:qhr}{b:Array qjk}(h:g.dying≠none):jh f (.go g u b):=λ_ _ _ e _ a=>by cases e;exact absurd a h
def yW{s:qkq}(h:∀g u a,s≠.go g u a):jh f s:=λg u a e _ _=>absurd e (h g u a)
def JN{b:qhG}{c:List qhG}{m:String}{u:qhr}:jh f (qp0 Q b c none m u):=λd u1 g e _ a=>absurd a (z9 e)
def Qs{a:qhG}{m:String}{u:qhr}:jh f (qoh a m u):=q4n (by simp)
def vW{c:qhG}{a:List qhG}{pre:List qhG}(h:c::a=pre++[ql f]){b:qhG}{d:qkF}{j:Option qn8}{u:qhr}{i:Array qjk}(g:c=ql f->Popped f b) :jh f (.go { frame:=b,callers:=a,status:=d,dying:=j } u i):=λ_ _ _ e _ _=>by
 cases e;cases pre with
 | nil=>
  simp only[qii,qkG] at h;exact .inr ⟨h.2,g h.1⟩
 | cons p pre=>
  simp only[qi7,qkG] at h;exact .inl ⟨pre,h.2⟩
def JG:Popped f (ql f):=.inl rfl
def Z1(v:qhu):Popped f ((ql f).finish v):=.inl rfl
def q2l(l:List qn0):Popped f ((ql f).raise l):=.inr ⟨l,rfl⟩
def Z0:∀{b:List qhG} {d:qhG} {pre k:List qhG} {v:qhu},b=pre++[ql f]->qik d b=some (v,k)->∃a,k=a++[ql f]:=by
 intro b;induction b with
 | nil=>intro d pre k v h;cases pre<;>simp at h
 | cons c b g=>
  intro d pre k v h e;unfold qik at e;cases hk:d.kind with
  | deferred=>
   rw[hk] at e;dsimp only at e;cases pre with
   | nil=>
    simp only[qii,qkG] at h;rw[h.1] at e;cases e
   | cons p pre=>
    simp only[qi7,qkG] at h;split at e
    ·simp only[qiD,Prod.mk.injEq] at e;exact⟨_::pre,by rw[<- e.2,h.2];rfl⟩
    ·cases e
  | wrapped=>
   rw[hk] at e;dsimp only at e;cases pre with
   | nil=>
    simp only[qii,qkG] at h;rw[h.1,h.2] at e;cases e
   | cons p pre=>
    simp only[qi7,qkG] at h;cases ht:qik c b with
    | none=>rw[ht] at e;cases e
    | some x=>
     obtain⟨j,l⟩:=x;rw[ht] at e;simp only[qjh,qiD,Prod.mk.injEq] at e;have⟨a,i⟩:=g h.2 ht;exact⟨c::a,by rw[<- e.2,i];rfl⟩
  | _=>rw[hk] at e;cases e
def xI{d:qhG}{a pre:List qhG}(h:a=pre++[ql f])(v:qhu)(u:qhr):jh f (qk7 Q true d a none v u):=by
 unfold qk7;cases a with
 | nil=>cases pre<;>simp at h
 | cons c b=>
  dsimp only;split
  ·exact vW h λe=>e ▸ Z1 v
  ·exact vW h λe=>e ▸ Z1 v
  ·exact vW h λe=>e ▸ JG
  ·exact vW h λe=>by subst e;exact JG
def q93{e a:qhG}{X pre c:List qhG}{d:qkF}{i:Option qn8}{b:Option (Array ql6 × qkw)}{u:qhr}{g:Array qjk}(h:c=pre++[ql f]):jh f (.go { frame:=e,callers:=X++a::c,status:=d,dying:=i,offers:=b } u g) :=
 qW (pre:=X++a::pre) (by rw[h];simp)
def Kj{e a:qhG}{pre c:List qhG}{d:qkF}{i:Option qn8}{b:Option (Array ql6 × qkw)}{u:qhr}{g:Array qjk}(h:c=pre++[ql f]):jh f (.go { frame:=e,callers:=a::c,status:=d,dying:=i,offers:=b } u g) :=
 qW (pre:=a::pre) (by rw[h];simp)
def q4m{b:qhG}{d pre:List qhG}(h:d=pre++[ql f])(g:Nat)(u:qhr):jh f (early Q b d none g u):=by
 unfold early;have e:∀w:qhr,jh f (match w.heap[g]? with
  | some (.pending c a)=>.go { frame:=b,callers:=d,status:=.running,dying:=none } { w with heap:=w.heap.setIfInBounds g (.cells c a) }
  | _=>.ended (.stuck "early: the variable does not wait" (b.pos Q)) w):=λw=>by
  split
  ·exact qW h
  ·exact qG
 dsimp only;split
 ·exact e _
 ·split
  ·exact qG
  ·repeat' split
   all_goals first
    | exact e _
    | exact qG
    | exact qW h
    | exact q93 h
    | skip
def yX(hrf:Q.follows .rangeFuncRecover=true){b:qhG}{c pre:List qhG}(h:c=pre++[ql f])(s:Sem qmm)(u:qhr):jh f (qji Q true b c none s u):=by
 unfold qji;simp only[if_true,qiw,hrf];refine jT ?_;cases s.run Q u with
 | ok a w=>
  cases a with
  | recover=>
   have i:∀{v k},qik b c=some (v,k)->jh f (.go { frame:=b.finish v,callers:=k,status:=.running,dying:=none } w):=λe=>by
    have⟨g,j⟩:=Z0 h e;exact qW j
   rcases hX:qik b c with _ | ⟨v,k⟩<;>cases hro:b.roundOf<;>simp only[hX,hro]<;>first | exact i hX | exact qW h
  | spawn d=>
   dsimp only
   repeat' split
   all_goals first
    | exact Qs
    | exact yW (λ_ _ _ e=>by cases e)
  | _=>
   dsimp only
   repeat' split
   all_goals first
    | exact qW h
    | exact Kj h
    | exact yW (λ_ _ _ e=>by cases e)
 | halt x w=>
  cases x with
  | fatal m=>exact JN
  | throw m=>exact Qs
  | unsupported x=>cases x<;>first | exact q4m h _ _ | exact qG
  | _=>first | exact qW h | exact qG
def Kk{g:qhG}{n pre:List qhG}(h:n=pre++[ql f])(d:qjH)(u:qhr):jh f (qk3 Q g n none d u):=by
 unfold qk3;by_cases k:(kJ d.target && kI g.mode)=true
 ·have:∀(a b:qkq),(∃o u l,a=.ended o u l)->jh f (if(kJ d.target && kI g.mode)=true then a else b):=λa b ⟨o,u,l,e⟩=>by
   rw[if_pos k,e];exact qG
  exact this _ _ ⟨_,_,_,rfl⟩
 have i:∀(a b:qkq),jh f b->jh f (if(kJ d.target && kI g.mode)=true then a else b):=λa b q=>by rw[if_neg k];exact q
 refine i _ _ ?_;simp only[qiw];refine jT ?_;cases qjd Q (invoke d.target d.args) u with
 | ok a w=>
  cases a with
  | recover=>
   dsimp only;split
   ·rename_i e
    have⟨j,p⟩:=Z0 h e;exact qW p
   ·exact qW h
  | coroswitch c e=>cases e<;>first | exact qG | exact yW (λ_ _ _ e=>by cases e)
  | alone on v=>cases on<;>first | exact qG | exact yW (λ_ _ _ e=>by cases e)
  | _=>
   first
    | exact qW h
    | exact Kj h
    | exact qG
    | exact yW (λ_ _ _ e=>by cases e)
 | halt x w=>
  cases x with
  | fatal m=>exact JN
  | throw m=>exact Qs
  | _=>first | exact qW h | exact qG
def ZT{d:qhG}{a pre:List qhG}(h:a=pre++[ql f])(u:qhr):jh f (qmj Q true d a none u):=by
 unfold qmj;split
 ·simp only[qiw];refine jT ?_;split
  ·exact qW h
  ·exact qG
 ·exact Kk h _ _
 ·split
  ·exact qG
  ·split
   ·exact qG
   ·cases a with
    | nil=>cases pre<;>simp at h
    | cons c b=>exact vW h λe=>e ▸ q2l _
  ·split
   ·exact xI h _ _
   ·simp only[qiw];refine jT ?_;split
    ·exact xI h _ _
    all_goals exact qG
def q6g(hrf:Q.follows .rangeFuncRecover=true){fr:qhG}{b pre:List qhG}(h:b=pre++[ql f])(u:qhr):jh f (ql5 Q true true fr b none u):=by
 have a:∀(j:Bool) (d:Option qkh) (s c:String),jh f (match fr.roundOf with
   | none=>if j=true then .go { frame:={ fr with mode:=.returning },callers:=b,status:=.running,dying:=none } u else .ended (.stuck s (fr.pos Q)) u
   | some l=>
    let (r,es):=(qkE l d).runT Q u #[]
    qj9 (seen Q fr.fn es) <| match r with
    | .ok v w=>qk7 Q true fr b none v w
    | .halt _ w=>.ended (.stuck c (fr.pos Q)) w):=λj d s c=>by
  split
  ·split
   ·exact qW h
   ·exact qG
  ·simp only[qiw];refine jT ?_;split
   ·exact xI h _ _
   ·exact qG
 unfold ql5;dsimp only;split
 ·exact a true _ _ _
 ·exact a true _ _ _
 all_goals first
  | exact qW h
  | exact qG
  | exact yX hrf h _ _
  | (
    generalize qno _ _=X;cases X
    ·exact a false _ _ _
    ·exact qW h)
  | (
    generalize qo5 _ _=X;cases X
    ·exact a false _ _ _
    ·exact qW h)
  | (
    unfold qow
    repeat' split
    all_goals first
     | exact qW h
     | exact qG
     | exact yX hrf h _ _)
  | (
    simp only[qiw];refine jT ?_
    repeat' split
    all_goals first
     | exact qW h
     | exact qG
     | exact yX hrf h _ _)
  | (
    repeat' split
    all_goals first
     | exact qW h
     | exact qG
     | exact yX hrf h _ _)
  | (
    generalize Extern.next _=X
    cases X
    ·exact qG
    ·exact yX hrf h _ _)
def Qe(hrf:Q.follows .rangeFuncRecover=true){g:qhw}{pre:List qhG}(h:g.callers=pre++[ql f])(a:g.dying=none)(u:qhr):jh f (qj5 Q true g u true):=by
 obtain⟨c,i,d,e,b⟩:=g;dsimp only at h a;subst a;unfold qj5;dsimp only;cases c.mode with
 | run=>exact q6g hrf h u
 | returning=>exact ZT h u
 | panicking l=>exact ZT h u
def Qk{b:qhG}(h:Popped f b)(d:qkF)(a:Option (Array ql6 × qkw))(u:qhr):∃o c e,qj5 Q true { frame:=b,callers:=[],status:=d,dying:=none,offers:=a } u true=.ended o c e:=by
 rcases h with rfl | ⟨l,rfl⟩
 ·exact⟨_,_,_,rfl⟩
 ·exact⟨_,_,_,rfl⟩
end
end
section
def zP(g:qhw)(u:qhr):Machine:={ world:=u,gs:=#[g],rest:={ timers:=#[],alone:=none,slice:=none } }
section
variable{Q:qhF}
def q1i{g:qhw}{u:qhr}(h:g.status=.running):move Q (zP g u)=.goroutine (zP g u) 0:=by
 simp[move,ask,askOn,zP,runnable,runnable.go,due,ahead,Goroutine.canRun,qlo,choose,pure,qjd,Question.forced,h]
def ZD{g a:qhw}{u u1:qhr}{b:Array qjk}(h:g.status=.running)(e:qj5 Q true g u true=.go a u1 b):step Q (zP g u)=.next (zP a u1):=by
 rw[step,stepT,q1i h];simp[runT,zP,qs7,e]
def kh{g:qhw}{u u1:qhr}{o:Outcome}{a:Array qjk}(h:g.status=.running)(e:qj5 Q true g u true=.ended o u1 a):step Q (zP g u)=.ended o u1:=by
 rw[step,stepT,q1i h];simp[runT,zP,qs7,e]
def q9o{g:qhw}(u:qhr)(h:q5i g):(∃o u1,step Q (zP g u)=.ended o u1)\/∃c u1,step Q (zP g u)=.next (zP c u1)/\q5i c:=by
 have jX:(g.status=.blocked\/g.status=.waiting\/g.status=.finished)->(∃o u1,step Q (zP g u)=.ended o u1)\/∃c u1,step Q (zP g u)=.next (zP c u1)/\q5i c:=by
  intro x;by_cases p:g.status=.waiting
  ·refine .inr ⟨g,u,?_,.inr (.inl p)⟩;rw[step,stepT];simp[move,ask,askOn,zP,runnable,runnable.go,due,ahead,Goroutine.canRun,qlo,choose,pure,qjd,Question.forced,p]
  ·refine .inl ?_;have j:runnable #[g] u.os.mono=[]:=by
    rcases x with h | h | h<;>simp[runnable,runnable.go,Goroutine.canRun,h]
   have s:∀b,ahead (zP g u) b=none:=by
    intro b;rcases x with h | h | h<;>simp[ahead,zP,h]
   rw[step,stepT];have hm:∃o u1,move Q (zP g u)=.machine (.ended o u1):=by
    have a:=s false;simp only[zP] at a;simp only[move,ask,askOn,zP,j,due,a];simp[pure,qjd,p];split
    ·rename_i t w
     rw[a] at w;cases w
    ·split
     ·exact⟨_,_,rfl⟩
     ·exact⟨_,_,rfl⟩
   obtain⟨o,u1,e⟩:=hm;rw[e];exact⟨o,u1,rfl⟩
 rcases h with h | h | h | ⟨h,d,z,A,y⟩
 ·exact jX (.inl h)
 ·exact jX (.inr (.inl h))
 ·exact jX (.inr (.inr h))
 ·have q:(∃o u1 k,qj5 Q true g u true=.ended o u1 k)\/∃c u1 k,qj5 Q true g u true=.go c u1 k/\q5i c:=by
   obtain⟨H,L,D,I,C⟩:=g;obtain⟨v,n,l,i,G,B,fatal⟩:=d;dsimp only at h z A y;subst z;subst A;cases fatal with
   | none=>cases y
   | some f=>
    unfold qj5;dsimp only;unfold die writeOn;dsimp only;split
    ·exact .inl ⟨_,_,_,rfl⟩
    ·split
     ·exact .inr ⟨_,_,_,rfl,.inr (.inr (.inr ⟨rfl,_,rfl,rfl,rfl⟩))⟩
     ·exact .inr ⟨_,_,_,rfl,.inl rfl⟩
     ·exact .inl ⟨_,_,_,rfl⟩
     ·exact .inl ⟨_,_,_,rfl⟩
  rcases q with⟨o,u1,k,e⟩ | ⟨c,u1,k,e,r⟩
  ·exact .inl ⟨o,u1,kh h e⟩
  ·exact .inr ⟨c,u1,ZD h e,r⟩
def q6w:∀(n:Nat) {g c:qhw} {u u1:qhr},q5i g->runN Q n (zP g u)=.next (zP c u1)->¬ Live c:=by
 intro n;induction n with
 | zero=>
  intro g c u u1 b e k;simp only[runN,Stepped.next.injEq,zP,Machine.mk.injEq] at e;obtain⟨_,e,_⟩:=e;have e:g=c:=by simpa using e
  subst e;obtain⟨a,i⟩:=k;rcases b with h | h | h | ⟨h,d,b,_⟩
  ·rw[h] at a;cases a
  ·rw[h] at a;cases a
  ·rw[h] at a;cases a
  ·rw[b] at i;cases i
 | succ n j=>
  intro g c u u1 b e;rcases q9o (Q:=Q) u b with⟨o,u2,h⟩ | ⟨l,u2,h,f⟩
  ·rw[runN,h] at e;cases e
  ·rw[runN,h] at e;exact j f e
end
section
variable[JunkSet]{Q:qhF}{base:Nat}{F:qhw->qhr->Prop}
def LP.of_runs(H:Duo Q Q){f:qj8}:∀(n:Nat) {g g1:qhw} {u u1:qhr} {pre:List qhG},xQ Q base g u->Live g->g.callers=pre++[ql f] ->runN Q n (zP g u)=.next (zP g1 u1)->Live g1->(∃b,g1.callers=b++[ql f])->F g1 u1->LP Q F g u:=by
 intro n;induction n with
 | zero=>
  intro g g1 u u1 pre q k t e h _ v;simp only[runN,Stepped.next.injEq,zP,Machine.mk.injEq] at e;obtain⟨O,e,_⟩:=e;have e:g=g1:=by simpa using e
  subst e;subst O;exact .done v
 | succ n G=>
  intro g g1 u u1 pre q k t e h j v;have B:=q.one H;cases hs:qj5 Q true g u true with
  | go w u2 D=>
   rw[runN,ZD k.1 hs] at e;have c:=B.flat;rw[hs] at c;have r:g.callers≠[]:=by rw[t];simp
   rcases c with a | I | s
   ·have p:=q.next H hs a.1 a.2
    rcases Qe (f:=f) H.rfr t k.2 u w u2 D hs a.1 a.2 with⟨x,d⟩ | ⟨d,A⟩
    ·exact .step hs a.1 a.2 (G p a d e h j v)
    ·exfalso;cases n with
     | zero=>
      simp only[runN,Stepped.next.injEq,zP,Machine.mk.injEq] at e;obtain⟨_,e,_⟩:=e;have e:w=g1:=by simpa using e
      subst e;obtain⟨b,C⟩:=j;rw[d] at C;cases b<;>simp at C
     | succ n=>
      obtain⟨M,R,l,P,i⟩:=w;obtain⟨z,y⟩:=a;dsimp only at d A z y;subst d;subst y;have⟨o,u3,N,L⟩:=Qk (Q:=Q) A l i u2;unfold runN at e;dsimp only at e;rw[kh z L] at e;cases e
   ·exact absurd h (q6w n I e)
   ·exact absurd s r
  | ended o u2 D=>
   rw[runN,kh k.1 hs] at e;cases e
  | _=>have c:=B.flat;rw[hs] at c;exact c.elim
def AtRet(Q:qhF)(f:qj8)(a:List qhG)(R:Ending->qhr->Prop)(g:qhw)(u:qhr):Prop :=
 Live g/\g.callers=a/\g.frame.fn=f/\∃T e,R e (u.tp T)/\g.frame.leaving Q (u.tp T) e
def AtRet.tape{f:qj8}{a:List qhG}{R:Ending->qhr->Prop}{g:qhw}{u:qhr}(T:Nat->qk5->Nat)(h:AtRet Q f a R g u):AtRet Q f a R g (u.tp T):=by
 obtain⟨j,i,d,k,e,c,b⟩:=h;exact⟨j,i,d,k,e,c,b⟩
def yn(Q:qhF)(f:qj8)(a:Array qhu)(b:List qhG):qhw:={ frame:=qiz Q f a .normal,callers:=b,status:=.running,dying:=none }
def LT.of_calls(H:Duo Q Q){f:qj8}{a:Array qhu}{w:qhr}{R:Ending->qhr->Prop}(s:∀T,qis Q f a (w.tp T) R)(i:∀u,¬ R .outgrown u)(o:xQ Q base (yn Q f a [ql f]) w):LT Q (AtRet Q f [ql f] R) (yn Q f a [ql f]) w:=by
 refine LT.of_all H (λg u T h=>h.tape T) o λT=>?_;have⟨e,l,q,p,b,k,j⟩:=s T [ql f];have d:Steps Q (lone (qiz Q f a .normal) [ql f] (w.tp T)) (lone q [ql f] l):=by
  cases e with
  | returned v=>exact b
  | panicked c=>exact b
  | outgrown=>exact absurd p (i _)
 obtain⟨n,r⟩:=d;exact LP.of_runs H (f:=f) n (g:=yn Q f a [ql f]) (g1:={ frame:=q,callers:=[ql f],status:=.running,dying:=none }) (u:=w.tp T) (pre:=[]) (o.tape T) ⟨rfl,rfl⟩ rfl r ⟨rfl,rfl⟩ ⟨[],rfl⟩ ⟨⟨rfl,rfl⟩,rfl,k,l.tape,e,p,j⟩
end
end
section
section
variable[JunkSet]{Q P:qhF}{Z:Ren}{base:Nat}{wq w:qhr}{F:qhw->qhr->Prop}
def LT.next{g:qhw}{u:qhr}(h:LT Q F g u)(d:¬ F g u)(T:Nat->qk5->Nat):∃a u1 b,qj5 Q true g (u.tp T) true=.go a u1 b/\a.status=.running/\a.dying=none/\LT Q F a u1:=by
 cases h with
 | done h=>exact absurd h d
 | step _ k j=>
  have⟨a,u1,b,e,c,i⟩:=k T;exact⟨a,u1,b,e,c,i,j T a u1 b e⟩
def Below(Q:qhF)(F:qhw->qhr->Prop)(a b:qhw × qhr):Prop :=
 ¬ F b.1 b.2/\∃T c,qj5 Q true b.1 (b.2.tp T) true=.go a.1 a.2 c
def LT.acc{g:qhw}{u:qhr}(h:LT Q F g u):Acc (Below Q F) (g,u):=by
 induction h with
 | done h=>exact .intro _ λy a=>absurd h a.1
 | step _ _ _ b=>exact .intro _ λy a=>let ⟨T,es,e⟩:=a.2;b T y.1 y.2 es e
def Kf(H:Duo Q P)(r:base<=Z.length)(c:WR Q base Z wq w)(s:Gl P Z){g x:qhw}(v:kV Q P Z g x)(G:LT Q F g wq)(u:¬ F g wq)(b:Bool) :∃O f d a h j,qj5 P b x w true=.go a h j/\KW Q P O f a/\WR Q base O d h/\Gl P O/\base<=O.length/\LT Q F f d/\Below Q F (f,d) (g,wq)/\Eff base Z O w h/\(∀e∈j,kY base O e)/\f.status=.running/\f.dying=none:=by
 let T:Nat->qk5->Nat:=λn q=>w.tape (n - wq.drawn+w.drawn) q
 have⟨f,u1,j,e,l,p,o⟩:=G.next u T
 have i:WR Q base Z (wq.tp T) w:=⟨c.len,c.nodup,c.lt,c.obj,c.low,c.env,c.below,c.gar⟩;have D:=q47 H r i s v;have hm:=(D.go _ _ _ e l p).2.1;have C:zF u1.drawn (wq.tp T) w:=λn q _=>by
  show w.tape (wq.drawn+n - wq.drawn+w.drawn) q=w.tape (w.drawn+n) q;rw[show wq.drawn+n - wq.drawn+w.drawn=w.drawn+n by omega]
 have⟨O,a,h,t,B,A,z,_,k,y,_⟩:=q16 H r i s C hm v b _ _ _ e (qhv _) l p;exact⟨O,f,u1,a,h,t,B,A,z,s.mono k.le,qhB r k.le.len,o,⟨u,T,j,e⟩,k,y,l,p⟩
def WR.rely(h:WR Q base Z wq w){a:qhr}(g:w.heap.size<=a.heap.size)(b:a.os.env=w.os.env)(p:∀i j,BR Z i j->¬ JunkSet.jk i->a.heap[j]?=w.heap[j]?)(q:∀i j,BR Z i j->JunkSet.jk i->∃c e f,a.heap[j]?=some (.cells c e f)):WR Q base Z wq a where
 len:=h.len
 nodup:=h.nodup
 lt i j hb:=qi0 (h.lt i j hb) g
 obj i j o hb ho:=by
  rcases h.obj i j o hb ho with⟨d,l,k,_⟩ | ⟨d,n,l,k⟩
  ·exact .inl ⟨d,l,k,q i j hb d⟩
  ·exact .inr ⟨d,n,by rw[p i j hb d];exact l,k⟩
 low:=h.low
 env:=h.env.trans b.symm
 below:=h.below
 gar:=h.gar
end
end
section
def q7F(g:qhw):Prop:=∀r a k,g.frame.todo≠.extern r a::k
def swap(real:List qhG)(g:qhw):qhw:={ g with callers:=g.callers.dropLast++real }
def zC(real:List qhG)(r c:qkq):Prop:=∀a u1 b,r=.go a u1 b->Live a->a.callers≠[]->q7F a->c=.go (swap real a) u1 b
section
variable[JunkSet]{P:qhF}{f:qj8}{real:List qhG}
def vJ{r a:qkq}{b:Array qjk}(h:zC real r a):zC real (qj9 b r) (qj9 b a):=λk u1 j e d g c=>by
 obtain⟨l,i,rfl⟩:=jc e;rw[h _ _ _ i d g c];rfl
def qZ{o:Outcome}{u:qhr}{b:Array qjk}{a:qkq}:zC real (.ended o u b) a:=λ_ _ _ e _ _ _=>by cases e
def Qc{r b:qkq}(h:∀g u a,r≠.go g u a):zC real r b:=λg u a e _ _ _=>absurd e (h g u a)
def qd5{g:qhw}{u:qhr}{c:Array qjk}{a:qkq}(h:¬ Live g):zC real (.go g u c) a:=λ_ _ _ e b _ _=>by cases e;exact absurd b h
def q3p{c:qhG}{d:List qhG}{m:String}{u:qhr}{a:qkq}:zC real (qp0 P c d none m u) a:=λg u1 h e b _ _=>absurd b.2 (z9 e)
def YG{b:qhG}{m:String}{u:qhr}{a:qkq}:zC real (qoh b m u) a:=qd5 λh=>by cases h.2
def yw{c:qhG}{pre:List qhG}{b:qkF}{g:Option qn8}{a:Option (Array ql6 × qkw)}{u:qhr}{d:Array qjk} :zC real (.go { frame:=c,callers:=pre++[ql f],status:=b,dying:=g,offers:=a } u d) (.go { frame:=c,callers:=pre++real,status:=b,dying:=g,offers:=a } u d):=λ_ _ _ e _ _ _=>by
 cases e;simp[swap]
def q76{d a:qhG}{pre:List qhG}{c:qkF}{g:Option qn8}{b:Option (Array ql6 × qkw)}{u:qhr}{e:Array qjk} :zC real (.go { frame:=d,callers:=a::(pre++[ql f]),status:=c,dying:=g,offers:=b } u e) (.go { frame:=d,callers:=a::(pre++real),status:=c,dying:=g,offers:=b } u e) :=
 yw (pre:=a::pre)
def qfb{d a:qhG}{X pre:List qhG}{c:qkF}{h:Option qn8}{b:Option (Array ql6 × qkw)}{u:qhr}{g:Array qjk} :zC real (.go { frame:=d,callers:=X++a::(pre++[ql f]),status:=c,dying:=h,offers:=b } u g) (.go { frame:=d,callers:=X++a::(pre++real),status:=c,dying:=h,offers:=b } u g):=λ_ _ _ e _ _ _=>by
 cases e;have:X++a::(pre++[ql f])=(X++a::pre)++[ql f]:=by simp
 simp only[swap,this,qp1];simp
def qaj{d:qhG}{a:qkF}{h:Option qn8}{u:qhr}{g:Array qjk}{b:qkq}:zC real (.go { frame:=d,callers:=[],status:=a,dying:=h } u g) b:=λ_ _ _ e _ c _=>by
 cases e;exact absurd rfl c
def qak{b:qhG}{l:List qhG}{c:qkF}{j:Option qn8}{u:qhr}{i:Array qjk}{d:qkq}{x:String}{a:Array qhu}{k:List qlG}(h:b.todo=.extern x a::k):zC real (.go { frame:=b,callers:=l,status:=c,dying:=j } u i) d:=λ_ _ _ e _ _ g=>by
 cases e;exact absurd h (g _ _ _)
def yf(a:qhG):qik a [ql f]=none:=by
 unfold qik;cases a.kind<;>rfl
def ZM(g:∀b,qik b real=none):∀(pre:List qhG) (b:qhG),(qik b (pre++[ql f])=none/\qik b (pre++real)=none)\/∃v a,qik b (pre++[ql f])=some (v,a++[ql f])/\qik b (pre++real)=some (v,a++real):=by
 intro pre;induction pre with
 | nil=>intro b;exact .inl ⟨yf b,g b⟩
 | cons p pre e=>
  intro b;simp only[qi7];unfold qik;cases hk:b.kind with
  | deferred=>
   dsimp only;split
   ·exact .inr ⟨_,_::pre,rfl,rfl⟩
   ·exact .inl ⟨rfl,rfl⟩
  | wrapped=>
   dsimp only;rcases e p with⟨d,c⟩ | ⟨v,a,d,c⟩
   ·rw[d,c];exact .inl ⟨rfl,rfl⟩
   ·rw[d,c];exact .inr ⟨v,p::a,rfl,rfl⟩
  | _=>exact .inl ⟨rfl,rfl⟩
def J8{a:qhG}{pre:List qhG}(b c:Bool)(v:qhu)(u:qhr):zC real (qk7 P b a (pre++[ql f]) none v u) (qk7 P c a (pre++real) none v u):=by
 unfold qk7;cases pre with
 | nil=>
  simp only[qii];split<;>exact qaj
 | cons p pre=>
  simp only[qi7];split<;>exact yw
def qal{a:qhG}{pre:List qhG}(g:Nat)(u:qhr):zC real (early P a (pre++[ql f]) none g u) (early P a (pre++real) none g u):=by
 unfold early;dsimp only
 repeat' split
 all_goals first
  | exact yw
  | exact qZ
  | exact qfb
def Qd(hrf:P.follows .rangeFuncRecover=true)(i:∀b,qik b real=none){b:qhG}{pre:List qhG}(s:Sem qmm)(u:qhr):zC real (qji P true b (pre++[ql f]) none s u) (qji P true b (pre++real) none s u):=by
 unfold qji;simp only[if_true,qiw,hrf];refine vJ ?_;cases s.run P u with
 | ok a w=>
  cases a with
  | recover=>
   rcases ZM (f:=f) i pre b with⟨h,g⟩ | ⟨v,c,h,g⟩<;>cases hro:b.roundOf<;>simp only[h,g,hro]<;>exact yw
  | stack r j=>
   dsimp only;split
   ·exact qak rfl
   ·exact qak rfl
  | spawn d=>
   dsimp only
   repeat' split
   all_goals first
    | exact YG
    | exact Qc (λ_ _ _ e=>by cases e)
  | _=>
   dsimp only
   repeat' split
   all_goals first
    | exact yw
    | exact q76
    | exact Qc (λ_ _ _ e=>by cases e)
 | halt x w=>
  cases x with
  | fatal m=>exact q3p
  | throw m=>exact YG
  | unsupported x=>cases x<;>first | exact qal _ _ | exact qZ
  | _=>first | exact yw | exact qZ
def q3q(t:∀g,qik g real=none){g:qhG}{pre:List qhG}(d:qjH)(u:qhr):zC real (qk3 P g (pre++[ql f]) none d u) (qk3 P g (pre++real) none d u):=by
 unfold qk3;by_cases h:(kJ d.target && kI g.mode)=true
 ·have:∀(a b k:qkq),(∃o u q,a=.ended o u q)->zC real (if(kJ d.target && kI g.mode)=true then a else b) k:=λa b k ⟨o,u,q,e⟩=>by
   rw[if_pos h,e];exact qZ
  exact this _ _ _ ⟨_,_,_,rfl⟩
 have i:∀(a b r j:qkq),zC real b j->zC real (if(kJ d.target && kI g.mode)=true then a else b) (if(kJ d.target && kI g.mode)=true then r else j):=λa b r j s=>by rw[if_neg h,if_neg h];exact s
 refine i _ _ _ _ ?_;simp only[qiw];refine vJ ?_;cases qjd P (invoke d.target d.args) u with
 | ok a w=>
  cases a with
  | recover=>
   dsimp only;rcases ZM (f:=f) t pre g with⟨p,n⟩ | ⟨v,l,p,n⟩<;>rw[p,n]<;>cases g.mode<;>exact yw
  | coroswitch c e=>cases e<;>first | exact qZ | exact Qc (λ_ _ _ e=>by cases e)
  | alone on v=>cases on<;>first | exact qZ | exact Qc (λ_ _ _ e=>by cases e)
  | _=>
   first
    | exact yw
    | exact q76
    | exact qZ
    | exact Qc (λ_ _ _ e=>by cases e)
 | halt x w=>
  cases x with
  | fatal m=>exact q3p
  | throw m=>exact YG
  | _=>first | exact yw | exact qZ
def q0C(c:∀a,qik a real=none){a:qhG}{pre:List qhG}(b d:Bool)(u:qhr):zC real (qmj P b a (pre++[ql f]) none u) (qmj P d a (pre++real) none u):=by
 unfold qmj;split
 ·simp only[qiw];refine vJ ?_;split
  ·exact yw
  ·exact qZ
 ·exact q3q c _ _
 ·split
  ·exact qZ
  ·split
   ·exact qZ
   ·cases pre with
    | nil=>exact qaj
    | cons p pre=>exact yw
  ·split
   ·exact J8 _ _ _ _
   ·simp only[qiw];refine vJ ?_;split
    ·exact J8 _ _ _ _
    all_goals exact qZ
def qd4(hrf:P.follows .rangeFuncRecover=true)(c:∀fr,qik fr real=none){fr:qhG}{pre:List qhG}(b g:Bool)(u:qhr) :zC real (ql5 P b true fr (pre++[ql f]) none u) (ql5 P g true fr (pre++real) none u):=by
 have a:∀(j:Bool) (e:Option qkh) (s d:String),zC real (match fr.roundOf with
   | none=>if j=true then .go { frame:={ fr with mode:=.returning },callers:=pre++[ql f],status:=.running,dying:=none } u else .ended (.stuck s (fr.pos P)) u
   | some l=>
    let (r,es):=(qkE l e).runT P u #[]
    qj9 (seen P fr.fn es) <| match r with
    | .ok v w=>qk7 P b fr (pre++[ql f]) none v w
    | .halt _ w=>.ended (.stuck d (fr.pos P)) w) (match fr.roundOf with
   | none=>if j=true then .go { frame:={ fr with mode:=.returning },callers:=pre++real,status:=.running,dying:=none } u else .ended (.stuck s (fr.pos P)) u
   | some l=>
    let (r,es):=(qkE l e).runT P u #[]
    qj9 (seen P fr.fn es) <| match r with
    | .ok v w=>qk7 P g fr (pre++real) none v w
    | .halt _ w=>.ended (.stuck d (fr.pos P)) w):=λj e s d=>by
  split
  ·split
   ·exact yw
   ·exact qZ
  ·simp only[qiw];refine vJ ?_;split
   ·exact J8 _ _ _ _
   ·exact qZ
 unfold ql5;dsimp only;split
 ·exact a true _ _ _
 ·exact a true _ _ _
 all_goals first
  | exact yw
  | exact qZ
  | exact Qd hrf c _ _
  | (
    generalize qno _ _=X;cases X
    ·exact a false _ _ _
    ·exact yw)
  | (
    generalize qo5 _ _=X;cases X
    ·exact a false _ _ _
    ·exact yw)
  | (
    unfold qow
    repeat' split
    all_goals first
     | exact yw
     | exact qZ
     | exact Qd hrf c _ _)
  | (
    simp only[qiw];refine vJ ?_
    repeat' split
    all_goals first
     | exact yw
     | exact qZ
     | exact Qd hrf c _ _)
  | (
    repeat' split
    all_goals first
     | exact yw
     | exact qZ
     | exact Qd hrf c _ _)
  | (
    generalize Extern.next _=X
    cases X
    ·exact qZ
    ·exact Qd hrf c _ _)
def q0B(hrf:P.follows .rangeFuncRecover=true)(c:∀d,qik d real=none){g:qhw}{pre:List qhG}(h:g.callers=pre++[ql f])(e:g.dying=none)(b a:Bool)(u:qhr) :zC real (qj5 P b g u true) (qj5 P a (swap real g) u true):=by
 obtain⟨d,n,j,k,i⟩:=g;dsimp only at h e;subst e;subst h;unfold qj5;simp only[swap,qp1];cases d.mode with
 | run=>exact qd4 hrf c b a u
 | returning=>exact q0C c b a u
 | panicking l=>exact q0C c b a u
end
end
section
section
variable[JunkSet]{Q P:qhF}{base:Nat}{F:qhw->qhr->Prop}{f:qj8}{real:List qhG}
def q6C{Z:Ren}{b:qhG}(h:qw Q P Z (ql f) b):b=ql f:=by
 obtain⟨D,g,e,c,i,n,x⟩:=b;obtain⟨j,_,_,w,v,u,s,r,q⟩:=h;dsimp only[ql] at j w v u s r q;have C:g=#[]:=by
  have:=w.1;exact qmz (by simpa using this.symm)
 have B:e=[.code (.exit 0)]:=by
  cases v with
  | cons k l=>cases k;cases l;rfl
 have A:c=[{ target:=.nil,args:=#[] }]:=by
  cases u with
  | cons k l=>
   cases l
   rename_i d
   obtain⟨t,a⟩:=d;rcases k with⟨o,p⟩ | ⟨j,_,_⟩
   case bound=>cases j
   dsimp only at o p;cases o;have:a=#[]:=qmz (by simpa using p.1.symm);rw[this]
 have z:i=.run:=by cases s;rfl
 have y:x=none:=by
  rcases q with⟨_,h⟩ | ⟨_,_,h,_⟩
  ·exact h
  ·cases h
 subst C B A z y;subst j;subst r;rfl
def vM{Z:Ren}:∀{pre b:List qhG},LsR (qw Q P Z) (pre++[ql f]) b->∃a,b=a++[ql f]/\LsR (qw Q P Z) pre a:=by
 intro pre;induction pre with
 | nil=>
  intro b h;cases h with
  | cons c d=>cases d;exact⟨[],by rw[q6C c];rfl,.nil⟩
 | cons p pre g=>
  intro b h;cases h with
  | cons c d=>
   have⟨a,e,i⟩:=g d;exact⟨_::a,by rw[e];rfl,.cons c i⟩
structure Sub(Q P:qhF)(base:Nat)(F:qhw->qhr->Prop)(f:qj8)(real:List qhG)(Z:Ren)(g:qhw)(wq:qhr)(g':qhw)(w:qhr):Prop where
 len:base<=Z.length
 wr:WR Q base Z wq w
 gl:Gl P Z
 tree:LT Q F g wq
 stack:∃pre,g.callers=pre++[ql f]
 rel:∃gv,kV Q P Z g gv/\g'=swap real gv
def K8{Z:Ren}{g b:qhw}(h:kV Q P Z g b):q7F b:=λr a k e=>by
 have:=h.frame.todo;rw[e] at this;generalize g.frame.todo=l at this;cases this with
 | cons c _=>cases c
def Sub.ret(H:Duo Q P){c:qhG}{Z:Ren}{g:qhw}{o:qhr}{g':qhw}{w:qhr}(h:Sub Q P base F f (c::real) Z g o g' w)(A:g.callers=[ql f]){T:Nat->qk5->Nat}{v:qhu}(U:g.frame.leaving Q (o.tp T) (.returned v))(b:Bool) :∃O p v' C es,qj5 P b g' w true=.go { frame:=c.finish v',callers:=real,status:=.running,dying:=none } C es/\VR O v v'/\WR Q base O p C/\p=o.tp T/\Eff base Z O w C/\(∀e∈es,kY base O e):=by
 obtain⟨gv,hg,rfl⟩:=h.rel;obtain⟨hm,hd,hk,j,x,i⟩:=U;obtain⟨fr,cs,st,dy,c9⟩:=g;obtain⟨a,a9,G,g5,s⟩:=gv;obtain⟨k,h2,h3,h4,h5,h6⟩:=hg;dsimp only at k h2 h3 h4 h5 h6 hm hd hk x i A;subst h6;subst A;have⟨b0,R,U⟩:=vM (pre:=[]) h2;cases U;have R:a9=[ql f]:=R;subst R;have⟨gf,t,W⟩:=k.same;have X:j=gf:=by rw[x] at t;exact qkD t
 subst X;have S:a.mode=.returning:=by
  have:=k.mode;rw[hm] at this;generalize a.mode=m at this;cases this;rfl
 have a8:a.defers=[]:=by
  have:=k.defers;rw[hd] at this;generalize a.defers=m at this;cases this;rfl
 have V:a.kind=.normal:=k.kind.trans hk;have hs:=Zg H h.gl j k.tmps (Q:=Q) (P:=P);have z:=Dry.run Q (w:=o.tp T) (JT j fr.tmps);have L:WR Q base Z (o.tp T) w:=⟨h.wr.len,h.wr.nodup,h.wr.lt,h.wr.obj,h.wr.low,h.wr.env,h.wr.below,h.wr.gar⟩;have⟨O,c8,B,l,d,a6,Y,I,_,a7,_⟩:=SR.runs (es:=#[]) (D:=(o.tp T).drawn) hs h.len L (λn q hn=>absurd hn (by omega)) (qlB z) (by rw[i];trivial);rw[i] at d;have M:∀{v'},qjd P (qke j a.tmps) w=.ok v' B->qj5 P b (swap (c::real) { frame:=a,callers:=[ql f],status:=G,dying:=none,offers:=s }) w true =
   .go { frame:=c.finish v',callers:=real,status:=.running,dying:=none } B (seen P a.fn l):=by
  intro v' N;have y:(qke j a.tmps).events P w #[]=l:=by
   show((qke j a.tmps).runT P w #[]).2=l;rw[a6];simp
  have u:P.funcs[a.fn]?=some j:=by rw[k.fn];exact W
  simp[qj5,swap,S,qmj,a8,u,qiw,N,y,qk7,V,qj9]
 generalize N:qjd P (qke j a.tmps) w=r at d;cases d with
 | ok _ _ hv=>exact⟨O,_,_,B,_,M N,hv,I,rfl,a7,λe he=>Y e (kG _ _ _ e he)⟩
def q31{Z:Ren}(c:Q.inits.idxOf? f=none)(b:∃g,Q.funcs[f]?=some g/\P.funcs[f]?=some g):qw Q P Z (ql f) (ql f) :=
 ⟨rfl,b,c,⟨rfl,λi x y a=>by simp[ql] at a⟩,.cons (.code (.exit 0)) .nil,.cons (.mk .nil ⟨rfl,λi x y a=>by simp at a⟩) .nil,.run,rfl,.inl ⟨rfl,rfl⟩⟩
def Ky(H:Duo Q P){Z:Ren}(c:JunkSet.okf f)(b:Q.funcs[f]?=P.funcs[f]?){a i:Array qhu}(j:AsR Z a i):kV Q P Z (yn Q f a [ql f]) (yn P f i [ql f]):=by
 have⟨k,h,g,d,_⟩:=H.funcs f c;have e:h=k:=by rw[g,d] at b;exact(qkD b).symm
 subst e;exact⟨qca H c b j .normal,.cons (q31 (H.inits f c) ⟨h,g,d⟩) .nil,rfl,rfl,rfl,rfl⟩
def Sub.enter(H:Duo Q P){Z:Ren}(h:JunkSet.okf f)(g:Q.funcs[f]?=P.funcs[f]?){a c:Array qhu}(j:AsR Z a c){b w:qhr}(i:base<=Z.length)(d:WR Q base Z b w)(k:Gl P Z)(e:LT Q F (yn Q f a [ql f]) b) :Sub Q P base F f real Z (yn Q f a [ql f]) b { frame:=qiz P f c .normal,callers:=real,status:=.running,dying:=none } w :=
 ⟨i,d,k,e,⟨[],rfl⟩,yn P f c [ql f],Ky H h g j,rfl⟩
end
end
section
section
variable[JunkSet]{Q:qhF}{Z:Ren}{base:Nat}{wq w:qhr}
end
end
section
section
variable[JunkSet]{Q P:qhF}{base:Nat}{F:qhw->qhr->Prop}{f:qj8}{real:List qhG}
structure qhg(Q P:qhF)(base:Nat)(F:qhw->qhr->Prop)(f:qj8)(real:List qhG)(Z:Ren)(fk:qj8)(k:CallKind)(a a':Array qhu)(c c':qhG)(pre pre':List qhG)(wq w:qhr):Prop where
 len:base<=Z.length
 wr:WR Q base Z wq w
 gl:Gl P Z
 tree:LT Q F { frame:=qiz Q fk a k,callers:=c::(pre++[ql f]),status:=.running,dying:=none } wq
 diff:Q.funcs[fk]?≠P.funcs[fk]?
 okf:JunkSet.okf fk
 args:AsR Z a a'
 top:qw Q P Z c c'
 rest:LsR (qw Q P Z) pre pre'
def Sub.stepK(H:Duo Q P)(hrf:P.follows .rangeFuncRecover=true)(hR:∀fr,qik fr real=none){Z:Ren}{g:qhw}{U:qhr}{g':qhw}{w:qhr}(h:Sub Q P base F f real Z g U g' w)(hn:¬ F g U)(b:Bool)(hF:∀g u,F g u->g.callers≠[]) :∃O z i D A N,qj5 P b g' w true=.go D A N/\Below Q F (z,i) (g,U)/\Eff base Z O w A/\(∀e∈N,kY base O e)/\Live D /\(Sub Q P base F f real O z i D A\/∃fk k a a' c S pre t,qhg Q P base F f real O fk k a a' c S pre t i A /\z={ frame:=qiz Q fk a k,callers:=c::(pre++[ql f]),status:=.running,dying:=none } /\D={ frame:=qiz P fk a' k,callers:=S::(t++real),status:=.running,dying:=none }):=by
 obtain⟨gv,R,rfl⟩:=h.rel;have⟨pre,y⟩:=h.stack;have a6:=R.callers;rw[y] at a6;have⟨t,v,_⟩:=vM a6;have⟨O,z,i,M,A,N,k0,B,k2,k3,k4,k5,k6,k7,k8,W,C⟩:=Kf H h.len h.wr h.gl R h.tree hn b;obtain⟨_,T,G,e1⟩:=k6;dsimp only at e1;have X:Q.follows .rangeFuncRecover=true:=H.rfr;have s:z.callers≠[]:=λs=>by
  rcases Qe (f:=f) X y R.dy (U.tp T) z i G e1 W C with⟨d,I⟩ | ⟨_,hp⟩
  ·rw[s] at I;cases d<;>simp at I
  ·cases k5 with
   | done I=>exact hF _ _ I s
   | step _ h1 _=>
    have⟨g2,u2,l4,e2,_,_⟩:=h1 i.tape;obtain⟨h8,l6,b0,l5,V⟩:=z;dsimp only at s hp C;subst s;subst C;have⟨o,u3,k9,h3⟩:=Qk (Q:=Q) hp b0 V (i.tp i.tape);rw[h3] at e2;cases e2
 have b7:∃d,z.callers=d++[ql f]:=by
  rcases Qe (f:=f) X y R.dy (U.tp T) z i G e1 W C with I | ⟨I,_⟩
  ·exact I
  ·exact absurd I s
 obtain⟨d,q⟩:=b7;rcases B with⟨_,B⟩ | ⟨fk,k,a,a',c,S,cs,l7,b9,b8,rfl,rfl,ha,hc,n,hm⟩
 ·have n:=B.callers;rw[q] at n;have⟨j,Y,_⟩:=vM n;have L:=q0B hrf hR (f:=f) v R.dy' b b w M A N k0 ⟨B.st',B.dy'⟩ (by rw[Y];simp) (K8 B);exact⟨O,z,i,swap real M,A,N,L,⟨hn,T,G,e1⟩,k7,k8,⟨B.st',B.dy'⟩,.inl ⟨k4,k2,k3,k5,⟨d,q⟩,M,B,rfl⟩⟩
 ·cases d with
  | nil=>
   exfalso;simp only[qii,qkG] at q;rw[q.1] at hm;rcases hm with hm | hm
   ·exact hm rfl
   ·exact hm _ _ rfl
  | cons p d=>
   simp only[qi7,qkG] at q;obtain⟨rfl,rfl⟩:=q;obtain⟨j,rfl,hl⟩:=vM n;have L:=q0B hrf hR (f:=f) v R.dy' b b w _ A N k0 ⟨rfl,rfl⟩ (by simp) (by intro r x l hx;unfold qiz at hx;simp at hx);refine⟨O,_,i,_,A,N,L,⟨hn,T,G,e1⟩,k7,k8,⟨rfl,rfl⟩,.inr ⟨fk,k,a,a',c,S,d,j,⟨k4,k2,k3,k5,b9,b8,ha,hc,hl⟩,rfl,?_⟩⟩;have:S::(j++[ql f])=(S::j)++[ql f]:=rfl;simp only[swap,this,qp1];rfl
end
end
end Go.Sim
