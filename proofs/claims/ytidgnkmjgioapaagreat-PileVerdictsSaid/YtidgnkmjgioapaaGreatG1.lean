/-
  Part 1 of the proof. gladstonelaw04.PileVerdicts answers true for every yard, parcel, pile, number and list of numbers that the statement takes, and leaves its arguments as they were. No conditions.
-/
import GoSem.Step
import Derived.StepT
import Derived.Laws.Sem
import Derived.Conc.Events
import Derived.Calls
set_option maxRecDepth 100000
set_option maxHeartbeats 8000000
set_option linter.all false
open Array renaming all_eq_true_iff_forall_mem->qjD,eq_empty_of_size_eq_zero->qmG,foldl_toList->qo5,forIn_toList->qmm,getD_eq_getD_getElem?->qjn,getElem!_eq_getD->qpG,getElem?_append->qln,getElem?_eq_getElem->qip,getElem?_eq_none_iff->qph,getElem?_eq_some_iff->qhB,getElem?_map->qo6,getElem?_modify->qmq,getElem?_push->qm7,getElem?_setIfInBounds->qj2,getElem?_toList->qot,length_toList->qqw,mapM_eq_mapM_toList->qlC,mem_append->qlf,mem_of_getElem?->qk4,mem_toList_iff->qkq,range->qlH,swapAt!->qsb,toList_zip->qry
open Bool renaming and_eq_true->qio,false_eq_true->qiC,not_false->qmF,not_true->qng,or_eq_true->qky
open Classical renaming byContradiction->qiG,choose->ql5,choose_spec->qlo
open Go renaming Addr->qj5,BoundsCode->qr5,Calls->qiw,Code->qkk,CommCase->qlb,CommShape->qkA,Deferred->qk6,Dying->qnd,Event->qjs,FieldStep->qrz,Frame->qi5,FuncId->qjf,GStep->qks,GoStatus->ql2,Goroutine->qhD,Item->qm1,MapEntry->qlp,Next->qmt,Oper->qjx,Operand->qj0,PanicEntry->qn6,Program->qi4,Question->qk9,Result->qml,TypeId->qid,TypeInfo->qm8,Value->qhC,World->qhy,asAddr->qru,behindNumber->qkr,boundsPanic->qmf,byteOf->qpF,byteOfCell->qpE,callDeferred->qk8,cellAtBytes->qob,doReturn->qkc,endFatal->qp0,endThrow->qoj,execOp->ql0,exitTo->qnq,gotoIn->qo7,loadCellsFrom->qoD,loadVar->qre,movedNumber->qpp,reportChain->qrF,results->qkh,runtimePanic->qlr,stepG->qjc,storeCells->qow,tryRecover->qis,typeHandle->qpD,typeInfo->qlG,undef->qhE,underlying->qlj,unwind->qmr,yielded->qjG,zeroValue->qmE
open Go.Builtin renaming append_->qlz,cap_->qrg,clear_->qoh,copy_->qpt,firstCells->qpj,holdsCells->qr6,lenOf->qqE,len_->qrf,max2->qsf,max_->qrh,mayShare->qrv,min_->qpe,unsafeAdd_->qke,zeroCells->qkl
open Go.Frame renaming catches->qpv,enter->qj1,eval->qmA,finish->qpH,pos->qrA,raise->qqi
open Go.GStep renaming after->qjg,go->qqj
open Go.GStep.go renaming injEq->qm2
open Go.Instr renaming beginRound->qpA,buildSlice->qrx,checkKey->qm0,deferInRound->qr7,endLoop->qqG,endRound->ql1,enterLoop->qo1,extract->qqC,fieldAt->qs9,fill->qnp,findAsking->qmg,findKey->qmz,findNow->qoF,getLoop->qqF,index->qoc,indexAt->qqD,keyThatStays->qjl,lookup->qny,makeInterface->qqv,makeMap->qpu,makeSlice->qp8,mapUpdate->qjH,panicnil->qoi,sameBits->qkz,sameNow->qoE,slice->qqh,sliceAt->qsa,sliceBound->qlg,sliceBounds->qpq,storeAt->qs8,sureAddr->qs5,takeDeferred->qpk,typeAssert->qlE
open Go.Region renaming wanted->qiy
open Go.Result renaming andThen_ok->qjv,evThen_ok->qpz
open Go.Sem renaming bind->qnn,events_bind->qnc,run->qjk,runT->qmD,runT_eq->qiE,run_bind->qjz,setObj->qs4,store->qrt
open Go.World renaming cell?->qiA,farLoad->qqB,farStore->qno,freeze->qrd,frozen?->qlw,setCell->qki,shape?->qpC,viewStore->qs0
open Go.stepG renaming apply->qjp,exec->qla,oper->qox
open List renaming all_eq_true->qje,cons_append->qi9,dropLast_concat->qp1,dropWhile_cons->qqx,foldlM_cons->qrw,forIn_cons->qs1,getElem?_append_left->qiD,getElem?_eq_some_iff->qic,mapM_cons->qog,mem_cons_of_mem->qoH,mem_cons_self->qpi,mem_singleton->qkv,mem_toArray->qlh,nil_append->qin,range_succ->qm5
open List.cons renaming injEq->ql3
open Nat renaming add_assoc->qnF,le_of_eq->qn5,le_refl->qhz,le_succ->qrE,le_trans->qi1,lt_irrefl->qnf,lt_of_lt_of_le->qia,lt_or_ge->qk2,lt_succ_self->qnz
open Option renaming bind_some->qnx,getD_some->qi0,map_some->qjo
open Option.some renaming inj->qkH,injEq->qj3
open Std.Legacy.Range renaming forIn_eq_forIn_range'->qka
namespace Go.Sim
section
abbrev Ren:=List (Option Nat)
def BR(Z:Ren)(i j:Nat):Prop:=Z[i]?=some (some j)
def Inj(Z:Ren):Prop:=∀i c j,BR Z i j->BR Z c j->i=c
def Out(Z:Ren)(j:Nat):Prop:=∀i,¬ BR Z i j
def Le(Z O:Ren):Prop:=(∃V,O=Z++V)/\(Inj Z->Inj O)
def BR.lt{Z:Ren}{i j:Nat}(h:BR Z i j):i<Z.length:=by
 unfold BR at h;exact(qic.1 h).1
def BR.new(Z:Ren)(j:Nat):BR (Z++[some j]) Z.length j:=by simp[BR]
def BR.fn{Z:Ren}{i j k:Nat}(h:BR Z i j)(c:BR Z i k):j=k:=by
 unfold BR at h c;rw[h] at c;exact qkH (qkH c)
def Le.refl(Z:Ren):Le Z Z:=⟨⟨[],by simp⟩,id⟩
def Le.trans{a b c:Ren}(h:Le a b)(k:Le b c):Le a c:=by
 obtain⟨⟨x,rfl⟩,e⟩:=h;obtain⟨⟨y,rfl⟩,d⟩:=k;exact⟨⟨x++y,by simp⟩,λn=>d (e n)⟩
def BR.snoc_cases{Z:Ren}{x:Option Nat}{i j:Nat}(h:BR (Z++[x]) i j):(i<Z.length/\BR Z i j)\/(i=Z.length/\x=some j):=by
 have d:=h.lt;simp at d;unfold BR at h ⊢;rcases qk2 i Z.length with c | c
 ·rw[qiD c] at h;exact .inl ⟨c,h⟩
 ·have e:i=Z.length:=by omega
  subst e;simp at h;exact .inr ⟨rfl,h⟩
def Le.snoc(Z:Ren)(j:Nat)(e:Out Z j):Le Z (Z++[some j]):=⟨⟨[some j],rfl⟩,λn i d k h c=>by
 rcases h.snoc_cases with⟨_,h⟩ | ⟨g,f⟩<;>rcases c.snoc_cases with⟨_,c⟩ | ⟨h1',h2'⟩
 ·exact n i d k h c
 ·cases h2';exact absurd h (e i)
 ·cases f;exact absurd c (e d)
 ·rw[g,h1']⟩
def BR.mono{Z O:Ren}{i j:Nat}(h:BR Z i j)(l:Le Z O):BR O i j:=by
 obtain⟨⟨V,rfl⟩,_⟩:=l;have c:=h.lt;unfold BR at h ⊢;rw[qiD c];exact h
def qcm:qhC->Bool
 | .bool _ | .int _ _ | .string _ | .pointer none | .slice none _ _ | .map none | .nilFunc | .nilIface | .agg _ | .tuple _ | .func (.method _) _ _=>false
 | _=>true
class JunkSet where
 jk:Nat->Prop
 okf:qjf->Prop
 okm:String->Prop
 okc:qkk->Prop
 okb:Builtin->Array qid->Prop
 okg:qjf->Prop
section
variable[JunkSet]
inductive FnR (Z:Ren):Fn->Fn->Prop
 | func (f:qjf):JunkSet.okf f->FnR Z (.func f) (.func f)
 | yield {i j:Nat}:BR Z i j->FnR Z (.yield i) (.yield j)
inductive VR (Z:Ren):qhC->qhC->Prop
 | bool (b:Bool):VR Z (.bool b) (.bool b)
 | int (k:IntKind) (n:Int):VR Z (.int k n) (.int k n)
 | string (s:ByteArray):VR Z (.string s) (.string s)
 | ptrNil:VR Z (.pointer none) (.pointer none)
 | ptr {i j:Nat} (off:Nat) (spot:Option Nat):BR Z i j->VR Z (.pointer (some ⟨i,off,spot⟩)) (.pointer (some ⟨j,off,spot⟩))
 | sliceNil (n c:Nat):VR Z (.slice none n c) (.slice none n c)
 | slice {i j:Nat} (off:Nat) (spot:Option Nat) (n c:Nat):BR Z i j->VR Z (.slice (some ⟨i,off,spot⟩) n c) (.slice (some ⟨j,off,spot⟩) n c)
 | mapNil:VR Z (.map none) (.map none)
 | map {i j:Nat}:BR Z i j->VR Z (.map (some i)) (.map (some j))
 | func {f f':Fn} {a a' c c':Array qhC}:FnR Z f f'->a.size=a'.size->(∀(i:Nat) (x y:qhC),a[i]?=some x->a'[i]?=some y->VR Z x y) ->
   c.size=c'.size->(∀(i:Nat) (x y:qhC),c[i]?=some x->c'[i]?=some y->VR Z x y)->VR Z (.func f a c) (.func f' a' c')
 | nilFunc:VR Z .nilFunc .nilFunc
 | iface (t:qid) {v v':qhC}:VR Z v v'->VR Z (.iface t v) (.iface t v')
 | nilIface:VR Z .nilIface .nilIface
 | agg {a a':Array qhC}:a.size=a'.size->(∀(i:Nat) (x y:qhC),a[i]?=some x->a'[i]?=some y->VR Z x y)->VR Z (.agg a) (.agg a')
 | tuple {a a':Array qhC}:a.size=a'.size->(∀(i:Nat) (x y:qhC),a[i]?=some x->a'[i]?=some y->VR Z x y)->VR Z (.tuple a) (.tuple a')
 | wild (y:qhC):qcm y=true->VR Z (.chan none) y
 | meth (n:String) (a c:Array qhC):VR Z (.func (.method "") #[.iface 0 .nilIface] #[]) (.func (.method n) a c)
def FnR.mono{Z O:Ren}(l:Le Z O){f c:Fn}(h:FnR Z f c):FnR O f c:=by
 cases h with
 | func f h=>exact .func f h
 | yield h=>exact .yield (h.mono l)
def VR.mono{Z O:Ren}(l:Le Z O){v j:qhC}(h:VR Z v j):VR O v j:=by
 induction h with
 | bool b=>exact .bool b
 | int k n=>exact .int k n
 | string s=>exact .string s
 | ptrNil=>exact .ptrNil
 | ptr e d h=>exact .ptr e d (h.mono l)
 | sliceNil n c=>exact .sliceNil n c
 | slice e d n c h=>exact .slice e d n c (h.mono l)
 | mapNil=>exact .mapNil
 | map h=>exact .map (h.mono l)
 | func o q _ p _ i g=>exact .func (o.mono l) q i p g
 | nilFunc=>exact .nilFunc
 | iface t _ f=>exact .iface t f
 | nilIface=>exact .nilIface
 | agg h _ f=>exact .agg h f
 | tuple h _ f=>exact .tuple h f
 | wild y h=>exact .wild y h
 | meth n a c=>exact .meth n a c
def AsR(Z:Ren)(a b:Array qhC):Prop:=a.size=b.size/\∀(i:Nat) (x y:qhC),a[i]?=some x->b[i]?=some y->VR Z x y
inductive LsR {Y M:Type} (R:Y->M->Prop):List Y->List M->Prop
 | nil:LsR R [] []
 | cons {x:Y} {y:M} {l:List Y} {m:List M}:R x y->LsR R l m->LsR R (x::l) (y::m)
section
variable{Y M:Type}{R:Y->M->Prop}
def LsR.imp{S:Y->M->Prop}(h:∀x y,R x y->S x y){l:List Y}{m:List M}(k:LsR R l m):LsR S l m:=by
 induction k with
 | nil=>exact .nil
 | cons a _ c=>exact .cons (h _ _ a) c
def LsR.length{l:List Y}{m:List M}(h:LsR R l m):l.length=m.length:=by
 induction h with
 | nil=>rfl
 | cons _ _ c=>simp[c]
def LsR.append{l d:List Y}{m c:List M}(h:LsR R l m)(f:LsR R d c):LsR R (l++d) (m++c):=by
 induction h with
 | nil=>exact f
 | cons a _ e=>exact .cons a e
def q81{l:List Y}{m:List M}:LsR R l m↔l.length=m.length/\∀(i:Nat) (x:Y) (y:M),l[i]?=some x->m[i]?=some y->R x y:=by
 constructor
 ·intro h;refine⟨h.length,?_⟩;induction h with
  | nil=>intro i x y c;simp at c
  | cons a _ d=>
   intro i x y c e;cases i with
   | zero=>simp at c e;subst c;subst e;exact a
   | succ i=>exact d i x y (by simpa using c) (by simpa using e)
 ·rintro⟨f,g⟩;induction l generalizing m with
  | nil=>cases m with
   | nil=>exact .nil
   | cons _ _=>simp at f
  | cons x l d=>cases m with
   | nil=>simp at f
   | cons y m=>exact .cons (g 0 x y rfl rfl) (d (by simpa using f) λi a b k j=>g (i+1) a b (by simpa using k) (by simpa using j))
end
section
variable{Z O:Ren}{a b a' b':Array qhC}
def zm:AsR Z a b↔LsR (VR Z) a.toList b.toList:=by
 rw[q81];simp[AsR]
def AsR.mono(l:Le Z O)(h:AsR Z a b):AsR O a b:=⟨h.1,λi x y d c=>(h.2 i x y d c).mono l⟩
def AsR.get(h:AsR Z a b){i:Nat}{x:qhC}(c:a[i]?=some x):∃y,b[i]?=some y/\VR Z x y:=by
 have d:i<b.size:=h.1 ▸ (qhB.1 c).1;exact⟨b[i],qip d,h.2 i x _ c (qip d)⟩
def AsR.get_none(h:AsR Z a b){i:Nat}(c:a[i]?=none):b[i]?=none:=by
 rw[qph] at c ⊢;exact h.1 ▸ c
def AsR.getD(h:AsR Z a b)(i:Nat){d c:qhC}(g:VR Z d c):VR Z (a.getD i d) (b.getD i c):=by
 rw[qjn,qjn];cases ha:a[i]? with
 | none=>rw[h.get_none ha];exact g
 | some x=>have⟨y,e,f⟩:=h.get ha;rw[e];exact f
def AsR.nil:AsR Z #[] #[]:=⟨rfl,λi x y c=>by simp at c⟩
def AsR.append(h:AsR Z a b)(c:AsR Z a' b'):AsR Z (a++a') (b++b'):=by
 rw[zm] at *
 simpa using h.append c
def AsR.push(h:AsR Z a b){x y:qhC}(c:VR Z x y):AsR Z (a.push x) (b.push y):=by
 rw[zm] at *
 simpa using h.append (.cons c .nil)
def AsR.one{x y:qhC}(c:VR Z x y):AsR Z #[x] #[y]:=by
 rw[zm];exact .cons c .nil
def AsR.set(h:AsR Z a b)(i:Nat){x y:qhC}(g:VR Z x y):AsR Z (a.setIfInBounds i x) (b.setIfInBounds i y):=by
 refine⟨by simpa using h.1,λj u v d c=>?_⟩;rw[qj2] at d c;by_cases e:i=j
 ·subst e;by_cases f:i<a.size
  ·rw[if_pos rfl,if_pos f] at d;rw[if_pos rfl,if_pos (h.1 ▸ f)] at c;cases d;cases c;exact g
  ·rw[if_pos rfl,if_neg f] at d;cases d
 ·rw[if_neg e] at d c;exact h.2 j u v d c
def AsR.extract(h:AsR Z a b)(i j:Nat):AsR Z (a.extract i j) (b.extract i j):=by
 refine⟨by simp[h.1],λk x y d c=>?_⟩;rw[Array.getElem?_extract] at d c;split at d
 ·split at c
  ·exact h.2 _ x y d c
  ·cases c
 ·cases d
end
inductive vJ:qhC->Prop
 | bool (b:Bool):vJ (.bool b)
 | int (k:IntKind) (n:Int):vJ (.int k n)
 | string (s:ByteArray):vJ (.string s)
 | ptrNil:vJ (.pointer none)
 | sliceNil (n c:Nat):vJ (.slice none n c)
 | mapNil:vJ (.map none)
 | nilFunc:vJ .nilFunc
 | nilIface:vJ .nilIface
 | agg {a:Array qhC}:(∀(i:Nat) (x:qhC),a[i]?=some x->vJ x)->vJ (.agg a)
 | tuple {a:Array qhC}:(∀(i:Nat) (x:qhC),a[i]?=some x->vJ x)->vJ (.tuple a)
def vJ.vr(Z:Ren){v:qhC}(h:vJ v):VR Z v v:=by
 induction h with
 | bool b=>exact .bool b
 | int k n=>exact .int k n
 | string s=>exact .string s
 | ptrNil=>exact .ptrNil
 | sliceNil n c=>exact .sliceNil n c
 | mapNil=>exact .mapNil
 | nilFunc=>exact .nilFunc
 | nilIface=>exact .nilIface
 | agg _ f=>exact .agg rfl λi x y e d=>by rw[e] at d;cases d;exact f i x e
 | tuple _ f=>exact .tuple rfl λi x y e d=>by rw[e] at d;cases d;exact f i x e
def q0h:qhC->Bool
 | .bool _ | .int _ _ | .string _ | .pointer none | .slice none _ _ | .map none | .nilFunc | .nilIface=>true
 | _=>false
def qd0:qhC->Bool
 | .agg a | .tuple a=>a.toList.all λv=>match v with
   | .agg b | .tuple b=>b.toList.all q0h
   | v=>q0h v
 | v=>q0h v
def q0g{v:qhC}(h:q0h v=true):vJ v:=by
 cases v with
 | bool b=>exact .bool b
 | int k n=>exact .int k n
 | string s=>exact .string s
 | pointer a=>cases a with
  | none=>exact .ptrNil
  | some _=>cases h
 | slice a n c=>cases a with
  | none=>exact .sliceNil n c
  | some _=>cases h
 | map a=>cases a with
  | none=>exact .mapNil
  | some _=>cases h
 | chan a=>cases h
 | float k b=>cases h
 | complex k a b=>cases h
 | func _ _ _=>cases h
 | nilFunc=>exact .nilFunc
 | iface _ _=>cases h
 | nilIface=>exact .nilIface
 | agg _=>cases h
 | tuple _=>cases h
def q2k{a:Array qhC}(h:a.toList.all q0h=true)(i:Nat)(x:qhC)(c:a[i]?=some x):vJ x:=by
 rw[qje] at h;exact q0g (h x (by rw[qkq];exact qk4 c))
def q3p{v:qhC}(h:qd0 v=true):vJ v:=by
 have c:∀a:Array qhC,(a.toList.all λv=>match v with
   | .agg b | .tuple b=>b.toList.all q0h
   | v=>q0h v)=true->∀(i:Nat) (x:qhC),a[i]?=some x->vJ x:=by
  intro a d i x e;rw[qje] at d;have:=d x (by rw[qkq];exact qk4 e);cases x with
  | agg b=>exact .agg (q2k this)
  | tuple b=>exact .tuple (q2k this)
  | _=>exact q0g this
 cases v with
 | agg a=>exact .agg (c a h)
 | tuple a=>exact .tuple (c a h)
 | _=>exact q0g h
structure kI(Z:Ren)(e e':qlp):Prop where
 key:VR Z e.key e'.key
 val:VR Z e.val e'.val
 born:e'.born=e.born
inductive yE (Z:Ren):Target->Target->Prop
 | fn {f f':Fn} {c c':Array qhC}:FnR Z f f'->AsR Z c c'->yE Z (.fn f c) (.fn f' c')
 | meth (n:String):JunkSet.okm n->yE Z (.fn (.method n) #[]) (.fn (.method n) #[])
 | nil:yE Z .nil .nil
 | builtin (b:Builtin) (a:Array qid) (t:qid) (c:Array Bool):JunkSet.okb b a->yE Z (.builtin b a t c) (.builtin b a t c)
 | collected {i j:Nat}:BR Z i j->yE Z (.collected i) (.collected j)
inductive ku (Z:Ren) (d d':qk6):Prop
 | mk:yE Z d.target d'.target->AsR Z d.args d'.args->ku Z d d'
 | bound:d.target=.fn (.method "") #[]->d.args[0]?=some (.iface 0 .nilIface)->(∃n c,d'.target=.fn (.method n) c)->ku Z d d'
structure Zr(Z:Ren)(l l':Loop):Prop where
 state:l'.state=l.state
 pending:l'.pending=l.pending
 fn:l'.fn=l.fn
 tmps:AsR Z l.tmps l'.tmps
 params:l'.params=l.params
 assign:l'.assign=l.assign
 body:l'.body=l.body
 defers:BR Z l.defers l'.defers
 okF:JunkSet.okg l.fn
 okA:JunkSet.okc l.assign
 okB:JunkSet.okc l.body
 okP:∀c,l.pending=some c->JunkSet.okc c
inductive ObR (Z:Ren):Obj->Obj->Prop
 | cells {c c':Array qhC} (e:qid) {f f':Nat × Nat}:AsR Z c c'->(∀o,f'.1<=o->o<f'.2->f.1<=o/\o<f.2)->ObR Z (.cells c e f) (.cells c' e f')
 | map {es es':Array qlp} (clock:Nat):LsR (kI Z) es.toList es'.toList->ObR Z (.map es clock) (.map es' clock)
 | stringIter (s:ByteArray) (p:Nat):ObR Z (.stringIter s p) (.stringIter s p)
 | mapIterNil (a:Nat) (s:Array Nat) (b:Nat):ObR Z (.mapIter none a s b) (.mapIter none a s b)
 | mapIter {i j:Nat} (a:Nat) (s:Array Nat) (b:Nat):BR Z i j->ObR Z (.mapIter (some i) a s b) (.mapIter (some j) a s b)
 | loop {l l':Loop}:Zr Z l l'->ObR Z (.loop l) (.loop l')
 | number {i j:Nat} (o:Nat) (s:Option Nat) (lost:Bool):BR Z i j->ObR Z (.number ⟨i,o,s⟩ lost) (.number ⟨j,o,s⟩ lost)
 | deferredNone:ObR Z (.deferred none) (.deferred none)
 | deferred {l l':List qk6}:LsR (ku Z) l l'->ObR Z (.deferred (some l)) (.deferred (some l'))
section
variable{Z O:Ren}
def kI.mono(l:Le Z O){a b:qlp}(h:kI Z a b):kI O a b:=⟨h.key.mono l,h.val.mono l,h.born⟩
def yE.mono(l:Le Z O){a b:Target}(h:yE Z a b):yE O a b:=by
 cases h with
 | fn e d=>exact .fn (e.mono l) (d.mono l)
 | meth n h=>exact .meth n h
 | nil=>exact .nil
 | builtin b a t c h=>exact .builtin b a t c h
 | collected h=>exact .collected (h.mono l)
def ku.mono(l:Le Z O){a b:qk6}(h:ku Z a b):ku O a b:=by
 cases h with
 | mk d c=>exact .mk (d.mono l) (c.mono l)
 | bound d c e=>exact .bound d c e
def Zr.mono(l:Le Z O){a b:Loop}(h:Zr Z a b):Zr O a b:=⟨h.state,h.pending,h.fn,h.tmps.mono l,h.params,h.assign,h.body,h.defers.mono l,h.okF,h.okA,h.okB,h.okP⟩
def ObR.mono(l:Le Z O){a b:Obj}(h:ObR Z a b):ObR O a b:=by
 cases h with
 | cells e f d=>exact .cells e (f.mono l) d
 | map c h=>exact .map c (h.imp λ_ _ k=>k.mono l)
 | stringIter s p=>exact .stringIter s p
 | mapIterNil a s b=>exact .mapIterNil a s b
 | mapIter a s b h=>exact .mapIter a s b (h.mono l)
 | loop h=>exact .loop (h.mono l)
 | number o s x h=>exact .number o s x (h.mono l)
 | deferredNone=>exact .deferredNone
 | deferred h=>exact .deferred (h.imp λ_ _ k=>k.mono l)
end
end
end
section
abbrev Rel (Y M:Type):=Ren->Y->M->Prop
def odd:Halt->Bool
 | .panic _ | .goexit | .unsupported (.initOrder _)=>true
 | _=>false
def zP:Obj->Bool
 | .pending ..=>true
 | _=>false
def Bad(Q:qi4){Y:Type}:Sem Y->Prop
 | .pure _=>False
 | .load _ _ k=>∀v,Bad Q (k v)
 | .store _ _ _ k=>Bad Q k
 | .new o k=>zP o=false/\∀r,Bad Q (k r)
 | .shape _ k=>∀x,Bad Q (k x)
 | .freeze _ _ k=>Bad Q k
 | .frozen _ k=>∀b,Bad Q (k b)
 | .getObj _ k=>∀o,Bad Q (k o)
 | .setObj _ o k=>zP o=false/\Bad Q k
 | .choose _ k=>∀n,Bad Q (k n)
 | .sys _ k=>∀r,Bad Q (k r)
 | .program k=>Bad Q (k Q)
 | .mark _ k=>Bad Q k
 | .halt h=>odd h=false
def kx(Q:qi4):qid:=Q.types.size
def ShR[JunkSet](Q:qi4)(r:Nat)(x a:Option (qid × Nat)):Prop:=(¬ JunkSet.jk r/\a=x)\/(JunkSet.jk r/\Q.globals.size<=r/\x=some (kx Q,0)/\∃e n,a=some (e,n))
def SR[JunkSet](Q P:qi4){Y M:Type}(R:Rel Y M):Sem Y->Ren->Sem M->Prop
 | .pure a=>λZ e=>∃b,e=.pure b/\R Z a b
 | .load m a k=>λZ e=>Bad Q (.load m a k)\/(m=.plain/\∃j d,e=.load .plain ⟨j,a.off,a.spot⟩ d/\BR Z a.block j/\∀v f,VR Z v f->SR Q P R (k v) Z (d f))
 | .store m a v k=>λZ e=>Bad Q (.store m a v k)\/(m=.plain/\∃j f d,e=.store .plain ⟨j,a.off,a.spot⟩ f d/\BR Z a.block j/\VR Z v f/\SR Q P R k Z d)
 | .new o k=>λZ e=>Bad Q (.new o k)\/∃g d,e=.new g d/\ObR Z o g/\∀j,Out Z j->SR Q P R (k Z.length) (Z++[some j]) (d j)
 | .shape r k=>λZ e=>Bad Q (.shape r k)\/∃j d,e=.shape j d/\BR Z r j/\∀x i,ShR Q r x i->SR Q P R (k x) Z (d i)
 | .getObj r k=>λZ e=>Bad Q (.getObj r k)\/∃j d,e=.getObj j d/\BR Z r j/\∀o g,ObR Z o g->SR Q P R (k o) Z (d g)
 | .setObj r o k=>λZ e=>Bad Q (.setObj r o k)\/∃j g d,e=.setObj j g d/\BR Z r j/\ObR Z o g/\SR Q P R k Z d
 | .choose q k=>λZ e=>Bad Q (.choose q k)\/∃d,e=.choose q d/\∀n,SR Q P R (k n) Z (d n)
 | .sys c k=>λZ e=>Bad Q (.sys c k)\/(c=.env/\∃d,e=.sys .env d/\∀r,SR Q P R (k r) Z (d r))
 | .program k=>λZ e=>Bad Q (.program k)\/∃d,e=.program d/\SR Q P R (k Q) Z (d P)
 | .mark m k=>λZ e=>Bad Q (.mark m k)\/(m=.noRoom/\∃d,e=.mark .noRoom d/\SR Q P R k Z d)
 | .halt (.panic v)=>λZ e=>∃f,e=.halt (.panic f)/\VR Z v f
 | .halt h=>λ_ _=>odd h=false
 | .freeze a n k=>λ_ _=>Bad Q (.freeze a n k)
 | .frozen a k=>λ_ _=>Bad Q (.frozen a k)
def Bad.bind{Q:qi4}{Y W:Type}{s:Sem Y}(h:Bad Q s)(f:Y->Sem W):Bad Q (s.bind f):=by
 induction s with
 | pure a=>exact h.elim
 | load m a k b=>exact λv=>b v (h v)
 | store m a v k b=>exact b h
 | new o k b=>exact⟨h.1,λv=>b v (h.2 v)⟩
 | shape r k b=>exact λv=>b v (h v)
 | freeze a n k b=>exact b h
 | frozen a k b=>exact λv=>b v (h v)
 | getObj r k b=>exact λv=>b v (h v)
 | setObj r o k b=>exact⟨h.1,b h.2⟩
 | choose q k b=>exact λv=>b v (h v)
 | sys c k b=>exact λv=>b v (h v)
 | program k b=>exact b Q h
 | mark m k b=>exact b h
 | halt x=>exact h
def SR.bad[JunkSet]{Q P:qi4}{Y M:Type}{R:Rel Y M}{s:Sem Y}{Z:Ren}{b:Sem M}(h:Bad Q s):SR Q P R s Z b:=by
 cases s with
 | pure a=>exact h.elim
 | load m a k=>exact .inl h
 | store m a v k=>exact .inl h
 | new o k=>exact .inl h
 | shape r k=>exact .inl h
 | freeze a n k=>exact h
 | frozen a k=>exact h
 | getObj r k=>exact .inl h
 | setObj r o k=>exact .inl h
 | choose q k=>exact .inl h
 | sys c k=>exact .inl h
 | program k=>exact .inl h
 | mark m k=>exact .inl h
 | halt x=>
  cases x with
  | panic v=>cases h
  | _=>exact h
section
variable[JunkSet]{Q P:qi4}{Y M W X:Type}{R:Rel Y M}{S:Rel W X}
def SR.bind{s:Sem Y}{Z:Ren}{z:Sem M}{f:Y->Sem W}{B:M->Sem X}(h:SR Q P R s Z z)(i:∀O a b,Le Z O->R O a b->SR Q P S (f a) O (B b)):SR Q P S (s.bind f) Z (z.bind B):=by
 induction s generalizing Z z with
 | pure a=>
  obtain⟨b,rfl,F⟩:=h;exact i Z a b (.refl Z) F
 | load m a k e=>
  rcases h with d | ⟨hm,j,p,rfl,d,g⟩
  ·exact .bad (d.bind f)
  ·exact .inr ⟨hm,j,_,rfl,d,λv t w=>e v (g v t w) i⟩
 | store m a v k e=>
  rcases h with d | ⟨hm,j,t,p,rfl,d,w,g⟩
  ·exact .bad (Bad.bind (s:=.store m a v k) d f)
  ·exact .inr ⟨hm,j,t,_,rfl,d,w,e g i⟩
 | new o k e=>
  rcases h with d | ⟨u,p,rfl,y,g⟩
  ·exact .bad (d.bind f)
  ·exact .inr ⟨u,_,rfl,y,λj A=>e _ (g j A) λO a b l=>i O a b ((Le.snoc Z j A).trans l)⟩
 | shape r k e=>
  rcases h with d | ⟨j,p,rfl,d,g⟩
  ·exact .bad (d.bind f)
  ·exact .inr ⟨j,_,rfl,d,λx C D=>e x (g x C D) i⟩
 | freeze a n k _=>exact .bad (Bad.bind (s:=.freeze a n k) h f)
 | frozen a k _=>exact .bad (Bad.bind (s:=.frozen a k) h f)
 | getObj r k e=>
  rcases h with d | ⟨j,p,rfl,d,g⟩
  ·exact .bad (d.bind f)
  ·exact .inr ⟨j,_,rfl,d,λo u y=>e o (g o u y) i⟩
 | setObj r o k e=>
  rcases h with d | ⟨j,u,p,rfl,d,y,g⟩
  ·exact .bad (Bad.bind (s:=.setObj r o k) d f)
  ·exact .inr ⟨j,u,_,rfl,d,y,e g i⟩
 | choose q k e=>
  rcases h with d | ⟨p,rfl,g⟩
  ·exact .bad (d.bind f)
  ·exact .inr ⟨_,rfl,λn=>e n (g n) i⟩
 | sys c k e=>
  rcases h with d | ⟨G,p,rfl,g⟩
  ·exact .bad (d.bind f)
  ·exact .inr ⟨G,_,rfl,λr=>e r (g r) i⟩
 | program k e=>
  rcases h with d | ⟨p,rfl,g⟩
  ·exact .bad (d.bind f)
  ·exact .inr ⟨_,rfl,e Q g i⟩
 | mark m k e=>
  rcases h with d | ⟨rfl,p,rfl,g⟩
  ·exact .bad (Bad.bind (s:=.mark m k) d f)
  ·exact .inr ⟨rfl,_,rfl,e g i⟩
 | halt x=>
  cases x with
  | panic v=>
   obtain⟨t,rfl,w⟩:=h;exact⟨t,rfl,w⟩
  | _=>exact h
def SR.imp{i:Rel Y M}{s:Sem Y}{Z:Ren}{f:Sem M}(h:SR Q P R s Z f)(j:∀O a b,Le Z O->R O a b->i O a b):SR Q P i s Z f:=by
 have e:∀{Y:Type} (x:Sem Y),x.bind .pure=x:=by
  intro Y x;induction x with
  | pure a=>rfl
  | load m a k d=>simp only[qnn,d]
  | store m a v k d=>simp only[qnn,d]
  | new o k d=>simp only[qnn,d]
  | shape r k d=>simp only[qnn,d]
  | freeze a n k d=>simp only[qnn,d]
  | frozen a k d=>simp only[qnn,d]
  | getObj r k d=>simp only[qnn,d]
  | setObj r o k d=>simp only[qnn,d]
  | choose q k d=>simp only[qnn,d]
  | sys c k d=>simp only[qnn,d]
  | program k d=>simp only[qnn,d]
  | mark m k d=>simp only[qnn,d]
  | halt h=>rfl
 rw[<- e s,<- e f];exact h.bind λO a b l g=>⟨b,rfl,j O a b l g⟩
end
def BR.inj{Z:Ren}(b:Inj Z){i a j:Nat}(h:BR Z i j)(c:BR Z a j):i=a:=b i a j h c
def qfH(Q:qi4):Obj:=.cells #[] (kx Q) (0,0)
structure WR[JunkSet](Q:qi4)(base:Nat)(Z:Ren)(wq w:qhy):Prop where
 len:Z.length=wq.heap.size
 nodup:Inj Z
 lt:∀(i j:Nat),BR Z i j->j<w.heap.size
 obj:∀(i j:Nat) (o:Obj),BR Z i j->wq.heap[i]?=some o->(JunkSet.jk i/\o=qfH Q/\Q.globals.size<=i/\∃c e f,w.heap[j]?=some (.cells c e f))\/(¬ JunkSet.jk i/\∃o',w.heap[j]?=some o'/\ObR Z o o')
 low:∀(i:Nat),i<base->∃c e f,wq.heap[i]?=some (.cells c e f)/\∀o,o<c.size->f.1<=o/\o<f.2
 env:wq.os.env=w.os.env
 below:∀(i:Nat),JunkSet.jk i->i<base
 gar:∀(i:Nat) (o:Obj),wq.heap[i]?=some o->(∃j,BR Z i j)\/zP o=false
def zD(D:Nat)(a w:qhy):Prop:=∀(n:Nat) (q:qk9),a.drawn+n<D->a.tape (a.drawn+n) q=w.tape (w.drawn+n) q
def rwR{Y:Type}:qml Y->qhy
 | .ok _ w=>w
 | .halt _ w=>w
def xW(p:qi4)(w:qhy)(a:qj5)(u:qid)(k:qj5)(v:qhC)(b:Bool){r:qhy × List qj5}(h:w.viewStore p a u k v b=.ok r):r.1.drawn=w.drawn:=by
 unfold qs0 at h;simp only[bind,Except.bind,pure,Except.pure] at h
 repeat' (split at h)
 all_goals first | (cases h;rfl) | cases h | (cases h;done)
def qa7{Y:Type}(x:Ask Y):∀w:qhy,w.drawn<=(w.ask x).2.drawn:=by
 induction x with
 | done a=>intro w;exact qhz _
 | ask c b k d=>
  intro w;unfold World.ask;dsimp only;split
  ·exact d _ w
  ·refine qi1 (qrE _) ?_;exact d ((Question.extern c b).cut (w.tape w.drawn (Question.extern c b))) { w with drawn:=w.drawn+1 }
def q8s(w:qhy)(c:Sys):w.drawn<=(w.sys c).2.drawn:=by
 unfold World.sys;have:=qa7 (Kernel.perform c w.os) w;split
 ·exact qhz _
 ·rename_i h
  rw[h] at this;exact this
def vX{Y:Type}(p:qi4)(s:Sem Y):∀w:qhy,w.drawn<=(rwR (s.run p w)).drawn:=by
 induction s with
 | pure a=>intro w;exact qhz _
 | load m a k b=>
  intro w;simp only[qjk];split
  ·exact b _ w
  ·split
   ·exact b _ w
   ·exact qhz _
 | store m a v k b=>
  intro w;have e:w.drawn<=(rwR (match w.cell? a with
     | some _=>if w.frozen? a then(.halt (.unsupported (.unsafePointer "a write to bytes that a string shares")) w:qml Y) else k.run p (w.setCell a v)
     | none=>match w.farStore p a v (m == .atomic) with
      | .ok (w,_)=>k.run p w
      | .error h=>.halt h w)).drawn:=by
   split
   ·split
    ·exact qhz _
    ·exact b (w.setCell a v)
   ·split
    ·rename_i i t d
     refine qi1 ?_ (b _);unfold qno at d;split at d
     ·split at d
      ·rename_i r g
       cases d;exact qn5 (xW _ _ _ _ _ _ _ g).symm
      ·cases d
     ·cases d
    ·exact qhz _
  cases v<;>first | exact e | exact qhz _
 | new o k b=>intro w;exact b _ { w with heap:=w.heap.push o }
 | shape r k b=>intro w;exact b _ w
 | freeze a n k b=>
  intro w;refine qi1 ?_ (b (w.freeze a n));unfold qrd;split<;>exact qhz _
 | frozen a k b=>intro w;exact b _ w
 | getObj r k b=>
  intro w;simp only[qjk];cases ho:w.heap[r]? with
  | none=>exact qhz _
  | some o=>cases o<;>first | exact b _ w | exact qhz _
 | setObj r o k b=>
  intro w;simp only[qjk];cases ho:w.heap[r]? with
  | none=>exact qhz _
  | some f=>cases f<;>first | exact b { w with heap:=w.heap.setIfInBounds r o } | exact qhz _
 | choose q k b=>
  intro w;simp only[qjk];split
  ·exact b _ w
  ·exact qi1 (qrE _) (b _ { w with drawn:=w.drawn+1 })
 | sys c k b=>intro w;exact qi1 (q8s w c) (b _ _)
 | program k b=>intro w;exact b _ w
 | mark m k b=>intro w;exact b w
 | halt h=>intro w;exact qhz _
inductive vg [JunkSet] (base:Nat) (O:Ren):qjs->Prop
 | cell {i j:Nat} (off:Nat) (spot:Option Nat) (wr:Bool):BR O i j->¬ JunkSet.jk i->(wr=true->base<=i)->vg base O ⟨.cell ⟨j,off,spot⟩,wr,false⟩
 | obj {i j:Nat} (wr:Bool):BR O i j->base<=i->vg base O ⟨.obj j,wr,false⟩
 | noRoom:vg base O ⟨.mark .noRoom,false,true⟩
 | env:vg base O ⟨.output,true,false⟩
structure Eff(base:Nat)(Z O:Ren)(w w':qhy):Prop where
 le:Le Z O
 tape:w'.tape=w.tape
 os:w'.os=w.os
 output:w'.output=w.output
 size:w.heap.size<=w'.heap.size
 keep:∀j,j<w.heap.size->(∀i,BR Z i j->i<base)->w'.heap[j]?=w.heap[j]?
 fresh:∀i j,BR O i j->Z.length<=i->w.heap.size<=j
 mine:∀j,w.heap.size<=j->j<w'.heap.size->∃i,Z.length<=i/\BR O i j
def vg.mono[JunkSet]{base:Nat}{Z O:Ren}(l:Le Z O){e:qjs}(h:vg base Z e):vg base O e:=by
 cases h with
 | cell b a wr d f c=>exact .cell b a wr (d.mono l) f c
 | obj wr d c=>exact .obj wr (d.mono l) c
 | noRoom=>exact .noRoom
 | env=>exact .env
def Eff.refl(base:Nat){Z:Ren}(w:qhy):Eff base Z Z w w :=
 ⟨.refl Z,rfl,rfl,rfl,qhz _,λ_ _ _=>rfl,λi j h a=>absurd h.lt (by omega),λj c b=>by omega⟩
def Le.len{Z O:Ren}(l:Le Z O):Z.length<=O.length:=by
 obtain⟨⟨V,rfl⟩,_⟩:=l;simp
def BR.back{Z O:Ren}(l:Le Z O){i j:Nat}(h:BR O i j)(a:i<Z.length):BR Z i j:=by
 obtain⟨⟨V,rfl⟩,_⟩:=l;unfold BR at h ⊢
 rwa [qiD a] at h
def Eff.trans{base:Nat}{Z O V:Ren}{w w₁ w₂:qhy}(n:base<=Z.length)(h:Eff base Z O w w₁)(k:Eff base O V w₁ w₂):Eff base Z V w w₂:=by
 refine⟨h.le.trans k.le,k.tape.trans h.tape,k.os.trans h.os,k.output.trans h.output,qi1 h.size k.size,λj f e=>?_,λi j a d=>?_,λj l g=>?_⟩
 ·rw[k.keep j (qia f h.size) λi a=>?_,h.keep j f e];rcases qk2 i Z.length with c | c
  ·exact e i (a.back h.le c)
  ·have:=h.fresh i j a c;omega
 ·rcases qk2 i O.length with c | c
  ·exact h.fresh i j (a.back k.le c) d
  ·exact qi1 h.size (k.fresh i j a c)
 ·rcases qk2 j w₁.heap.size with c | c
  ·have⟨i,d,a⟩:=h.mine j l c;exact⟨i,d,a.mono k.le⟩
  ·have⟨i,d,a⟩:=k.mine j c g;exact⟨i,qi1 h.le.len d,a⟩
def xy{Y:Type}:qml Y->Prop
 | .ok _ _=>True
 | .halt h _=>odd h=true
def zT(w:qhy):Prop:=∀(i:Nat) (o:Obj),w.heap[i]?=some o->zP o=false
def jU{w:qhy}(b:zT w)(a:qj5)(x:String){Y:Type}(u:qhy):¬ xy (.halt (w.noCell a x) u:qml Y):=by
 unfold World.noCell;split
 ·rename_i h
  have:=b _ _ h;cases this
 ·exact λh=>by cases h
 ·exact λh=>by cases h
def q5a{p:qi4}{w:qhy}(c:zT w){a:qj5}{b:Bool}{h:Halt}(e:w.farLoad p a b=.error h):odd h=false:=by
 unfold qqB at e;split at e
 ·split at e
  ·cases e
  ·cases e;rfl
 ·cases e;have:=jU c a "load: no such cell" (Y:=Unit) w;cases ho:odd (w.noCell a "load: no such cell") with
  | false=>rfl
  | true=>exact absurd ho this
def q3b{p:qi4}{w:qhy}(c:zT w){a:qj5}{v:qhC}{b:Bool}{h:Halt}(e:w.farStore p a v b=.error h):odd h=false:=by
 unfold qno at e;split at e
 ·split at e
  ·cases e
  ·cases e;rfl
 ·cases e;have:=jU c a "store: no such cell" (Y:=Unit) w;cases ho:odd (w.noCell a "store: no such cell") with
  | false=>rfl
  | true=>exact absurd ho this
def yW{Y:Type}{h:Halt}(a:odd h=false)(w:qhy):¬ xy (.halt h w:qml Y):=λx=>by
 have x:odd h=true:=x;rw[a] at x;cases x
def zT.set{w:qhy}(b:zT w){r:Nat}{o:Obj}(c:zP o=false):zT { w with heap:=w.heap.setIfInBounds r o }:=λi x a=>by
 simp only[qj2] at a;split at a
 ·split at a
  ·cases a;exact c
  ·cases a
 ·exact b i x a
def zT.push{w:qhy}(b:zT w){o:Obj}(c:zP o=false):zT { w with heap:=w.heap.push o }:=λi x a=>by
 simp only[qm7] at a;split at a
 ·cases a;exact c
 ·exact b i x a
def zT.modify{w:qhy}(b:zT w)(r:Nat){f:Obj->Obj}(c:∀o,zP o=false->zP (f o)=false):zT { w with heap:=w.heap.modify r f }:=λi x a=>by
 simp only[qmq] at a;split at a
 ·cases h:w.heap[i]? with
  | none=>rw[h] at a;cases a
  | some y=>
   rw[h] at a;cases a;exact c y (b i y h)
 ·exact b i x a
def zT.cell{w:qhy}(b:zT w)(a:qj5)(v:qhC):zT (w.setCell a v):=b.modify a.block λo c=>by
 cases o<;>first | rfl | exact c
def zT.freeze{w:qhy}(b:zT w)(a:qj5)(n:Nat):zT (w.freeze a n):=by
 unfold qrd;split
 ·exact b
 ·exact b.modify a.block λo c=>by
   cases o<;>first | rfl | exact c
def q0q{p:qi4}{w:qhy}{a:qj5}{u:qid}{k:qj5}{v:qhC}{b:Bool}{r:qhy × List qj5}(h:w.viewStore p a u k v b=.ok r):∃x o,zP o=false/\r.1={ w with heap:=w.heap.setIfInBounds x o }:=by
 unfold qs0 at h;simp only[bind,Except.bind,pure,Except.pure] at h
 repeat' (split at h)
 all_goals first | (cases h;exact⟨_,_,rfl,rfl⟩) | cases h | (cases h;done)
def qax(w:qhy)(c:Sys):(w.sys c).2.heap=w.heap:=by
 have d:∀{Y:Type} (x:Ask Y) (w:qhy),(w.ask x).2.heap=w.heap:=by
  intro Y x;induction x with
  | done a=>intro w;rfl
  | ask e b k f=>
   intro w;unfold World.ask;dsimp only;split
   ·exact f _ w
   ·exact f _ { w with drawn:=w.drawn+1 }
 unfold World.sys;have:=d (Kernel.perform c w.os) w;split
 ·rfl
 ·rename_i h
  rw[h] at this;exact this
def Bad.not_fine{Y:Type}{p:qi4}{s:Sem Y}:∀{w:qhy},zT w->Bad p s->¬ xy (s.run p w):=by
 induction s with
 | pure a=>intro w _ h;exact h.elim
 | load m a k d=>
  intro w b h;simp only[qjk];split
  ·exact d _ b (h _)
  ·split
   ·exact d _ b (h _)
   ·rename_i e
    exact yW (q5a b e) w
 | store m a v k d=>
  intro w b h;have g:¬ xy (match w.cell? a with
     | some _=>if w.frozen? a then(.halt (.unsupported (.unsafePointer "a write to bytes that a string shares")) w:qml Y) else k.run p (w.setCell a v)
     | none=>match w.farStore p a v (m == .atomic) with
      | .ok (w,_)=>k.run p w
      | .error h=>.halt h w):=by
   split
   ·split
    ·exact λh=>by cases h
    ·exact d (b.cell a v) h
   ·split
    ·rename_i l t e
     refine d ?_ h;unfold qno at e;split at e
     ·split at e
      ·rename_i r y
       cases e;have⟨x,o,f,j⟩:=q0q y;have j:l={ w with heap:=w.heap.setIfInBounds x o }:=j;rw[j];exact b.set f
      ·cases e
     ·cases e
    ·rename_i e
     exact yW (q3b b e) w
  cases v<;>first | exact g | exact λh=>by cases h
 | new o k d=>intro w b h;exact d _ (b.push h.1) (h.2 _)
 | shape r k d=>intro w b h;exact d _ b (h _)
 | freeze a n k d=>intro w b h;exact d (w:=w.freeze a n) (b.freeze a n) h
 | frozen a k d=>intro w b h;exact d _ b (h _)
 | getObj r k d=>
  intro w b h;simp only[qjk];cases f:w.heap[r]? with
  | none=>exact λh=>by cases h
  | some o=>cases o<;>first | exact d _ b (h _) | exact λh=>by cases h
 | setObj r o k d=>
  intro w b h;simp only[qjk];cases f:w.heap[r]? with
  | none=>exact λh=>by cases h
  | some u=>cases u<;>first | exact d (b.set h.1) h.2 | exact λh=>by cases h
 | choose q k d=>
  intro w b h;simp only[qjk];split
  ·exact d _ b (h _)
  ·exact d _ (w:={ w with drawn:=w.drawn+1 }) b (h _)
 | sys c k d=>
  intro w b h;refine d _ (w:=(w.sys c).2) (λi o f=>b i o ?_) (h _)
  rwa [qax] at f
 | program k d=>intro w b h;exact d _ b h
 | mark m k d=>intro w b h;exact d b h
 | halt x=>intro w b h;exact yW h w
inductive q7j [JunkSet] {Y M:Type} (R:Rel Y M) (O:Ren):qml Y->qhy->qml M->qhy->Prop
 | ok {a:Y} {b:M} (wq w:qhy):R O a b->q7j R O (.ok a wq) wq (.ok b w) w
 | panic {v v':qhC} (wq w:qhy):VR O v v'->q7j R O (.halt (.panic v) wq) wq (.halt (.panic v') w) w
section
variable[JunkSet]{Q P:qi4}{base:Nat}
def WR.looked{Z:Ren}{d w:qhy}(h:WR Q base Z d w){a:qj5}{j:Nat}(n:BR Z a.block j){v:qhC}(b:d.cell? a=some v):¬ JunkSet.jk a.block:=by
 intro k;unfold qiA at b;split at b
 ·rename_i c e f l
  rcases h.obj _ _ _ n l with⟨_,g,_⟩ | ⟨i,_⟩
  ·cases g;split at b<;>simp at b
  ·exact i k
 ·cases b
def WR.cell{Z:Ren}{o w:qhy}(h:WR Q base Z o w){a:qj5}{j:Nat}(u:BR Z a.block j){v:qhC}(b:o.cell? a=some v) :∃d,w.cell? ⟨j,a.off,a.spot⟩=some d/\VR Z v d:=by
 unfold qiA at b;split at b
 ·rename_i c e f t
  split at b
  ·cases b
  ·rename_i q
   rcases h.obj _ _ _ u t with⟨_,s,_⟩ | ⟨_,x,l,r⟩
   ·cases s;simp at b
   ·cases r with
    | cells e n y=>
     have⟨d,k,g⟩:=n.get b;refine⟨d,?_,g⟩;unfold qiA;simp only[l];rw[if_neg q];exact k
 ·cases b
def WR.nopend{Z:Ren}{a w:qhy}(h:WR Q base Z a w):zT a:=λi o b=>by
 rcases h.gar i o b with⟨j,e⟩ | d
 ·rcases h.obj _ _ _ e b with⟨_,rfl,_⟩ | ⟨_,f,_,c⟩
  ·rfl
  ·cases c<;>rfl
 ·exact d
def WR.shape{Z:Ren}{b w:qhy}(h:WR Q base Z b w){i j:Nat}(n:BR Z i j):ShR Q i (b.shape? i) (w.shape? j):=by
 have p:i<b.heap.size:=by rw[<- h.len];exact n.lt
 have d:b.heap[i]?=some b.heap[i]:=qip p;rcases h.obj _ _ _ n d with⟨a,o,k,c,e,f,q⟩ | ⟨a,s,g,l⟩
 ·rw[o] at d;exact .inr ⟨a,k,by simp[qpC,d,qfH],e,c.size,by simp[qpC,q]⟩
 ·refine .inl ⟨a,?_⟩;unfold qpC;rw[d,g];generalize b.heap[i]=x at l;cases l with
  | cells e r t=>simp[r.1]
  | _=>rfl
def WR.noview{Z:Ren}{b w:qhy}(h:WR Q base Z b w){i j:Nat}(f:BR Z i j)(a:qj5)(t:qid):b.heap[i]?≠some (.view a t):=by
 intro e;rcases h.obj _ _ _ f e with⟨_,d,_⟩ | ⟨_,g,_,c⟩
 ·cases d
 ·cases c
def WR.set{Z:Ren}{l w:qhy}(h:WR Q base Z l w){a:qj5}{j:Nat}(D:BR Z a.block j){u v t:qhC}(s:l.cell? a=some u)(hf:l.frozen? a=false)(hv:VR Z v t) :base<=a.block/\w.frozen? ⟨j,a.off,a.spot⟩=false/\WR Q base Z (l.setCell a v) (w.setCell ⟨j,a.off,a.spot⟩ t)/\Eff base Z Z w (w.setCell ⟨j,a.off,a.spot⟩ t):=by
 unfold qiA at s;split at s
 ·rename_i c e f d
  split at s
  ·cases s
  ·rename_i U
   have y:a.spot=none:=by
    cases hsp:a.spot with
    | none=>rfl
    | some _=>rw[hsp] at U;exact absurd rfl U
   have A:a.off<c.size:=(qhB.1 s).1;have q:base<=a.block:=by
    rcases qk2 a.block base with N | N
    ·have⟨c',e',f',G,F⟩:=h.low _ N;rw[d] at G;cases G;have:=F _ A;simp[qlw,d,this.1,this.2] at hf
    ·exact N
   rcases h.obj _ _ _ D d with⟨_,hj,_⟩ | ⟨_,o',n,hr⟩
   ·cases hj;simp at A
   ·cases hr with
    | @cells _ c' _ _ f' T C=>
     have L:w.frozen? ⟨j,a.off,a.spot⟩=false:=by
      simp only[qlw,n];rw[Bool.eq_false_iff];intro b;simp only[qio,decide_eq_true_eq] at b;have:=C _ b.1 b.2;simp[qlw,d,this.1,this.2] at hf
     have hi:a.block<l.heap.size:=(qhB.1 d).1;have V:j<w.heap.size:=(qhB.1 n).1;have r:∀i:Nat,(l.setCell a v).heap[i]?=if i=a.block then some (.cells (c.setIfInBounds a.off v) e f) else l.heap[i]?:=by
      intro i;simp only[qki,qmq];by_cases b:a.block=i
      ·subst b;simp[d,y]
      ·rw[if_neg b,if_neg (λx=>b x.symm)]
     have H:∀i:Nat,(w.setCell ⟨j,a.off,a.spot⟩ t).heap[i]?=if i=j then some (.cells (c'.setIfInBounds a.off t) e f') else w.heap[i]?:=by
      intro i;simp only[qki,qmq];by_cases b:j=i
      ·subst b;simp[n,y]
      ·rw[if_neg b,if_neg (λx=>b x.symm)]
     refine⟨q,L,⟨by rw[h.len];simp[qki],h.nodup,λi k I=>by have:=h.lt i k I;simpa[qki] using this,λi k o g z=>?_,λi B=>?_,h.env,h.below,λi o p=>by
      rw[r] at p;by_cases b:i=a.block
      ·exact .inl ⟨j,b ▸ D⟩
      ·rw[if_neg b] at p;exact h.gar i o p⟩,⟨.refl Z,rfl,rfl,rfl,by simp[qki],λk I hn=>?_,λi k g B=>absurd g.lt (by omega),λk G F=>by simp[qki] at F;omega⟩⟩
     ·rw[r] at z;rw[H];by_cases b:i=a.block
      ·subst b;have:k=j:=g.fn D;subst this;rw[if_pos rfl] at z ⊢;cases z;exact .inr ⟨λI=>by have:=h.below _ I;omega,_,rfl,.cells e (T.set _ hv) C⟩
      ·have O:k≠j:=λx=>by
        subst x;exact b (g.inj h.nodup D)
       rw[if_neg b] at z;rw[if_neg O];exact h.obj i k o g z
     ·have⟨c1,e1,f1,G,F⟩:=h.low i B;refine⟨c1,e1,f1,?_,F⟩;rw[r,if_neg (by omega)];exact G
     ·rw[H];by_cases b:k=j
      ·subst b;have:=hn _ D;omega
      ·rw[if_neg b]
 ·cases s
def WR.setO{Z:Ren}{wq w:qhy}(h:WR Q base Z wq w){r j:Nat}(u:BR Z r j){o z y:Obj}(F:wq.heap[r]?=some y)(q:∀c e f,y≠.cells c e f)(H:ObR Z o z) :base<=r/\(∃a,w.heap[j]?=some a/\ObR Z y a)/\WR Q base Z { wq with heap:=wq.heap.setIfInBounds r o } { w with heap:=w.heap.setIfInBounds j z }/\Eff base Z Z w { w with heap:=w.heap.setIfInBounds j z }:=by
 have l:base<=r:=by
  rcases qk2 r base with C | C
  ·have⟨c,e,f,v,_⟩:=h.low _ C;rw[F] at v;cases v;exact absurd rfl (q _ _ _)
  ·exact C
 have hrel:∃a,w.heap[j]?=some a/\ObR Z y a:=by
  rcases h.obj _ _ _ u F with⟨_,L,_⟩ | ⟨_,B⟩
  ·exact absurd L (q _ _ _)
  ·exact B
 obtain⟨a,p,B⟩:=hrel;have N:r<wq.heap.size:=(qhB.1 F).1;have s:j<w.heap.size:=(qhB.1 p).1;refine⟨l,⟨a,p,B⟩,⟨by rw[h.len];simp,h.nodup,λi k A=>by have:=h.lt i k A;simpa using this,λi k x b d=>?_,λi t=>?_,h.env,h.below,λi x g=>by
   rw[qj2] at g;by_cases n:r=i
   ·exact .inl ⟨j,n ▸ u⟩
   ·rw[if_neg n] at g;exact h.gar i x g⟩,⟨.refl Z,rfl,rfl,rfl,by simp,λk A I=>?_,λi k b t=>absurd b.lt (by omega),λk v G=>by simp at G;omega⟩⟩
 ·simp only[qj2] at d ⊢;by_cases n:r=i
  ·subst n;have:k=j:=b.fn u;subst this;rw[if_pos rfl,if_pos N] at d;cases d;refine .inr ⟨λA=>by have:=h.below _ A;omega,z,?_,H⟩;rw[if_pos rfl,if_pos s]
  ·have D:j≠k:=λx=>by
    subst x;exact n (u.inj h.nodup b)
   rw[if_neg n] at d;rw[if_neg D];exact h.obj i k x b d
 ·have⟨T,O,f1,v,G⟩:=h.low i t;refine⟨T,O,f1,?_,G⟩;simp only[qj2];rw[if_neg (by omega)];exact v
 ·simp only[qj2];by_cases d:j=k
  ·subst d;have:=I _ u;omega
  ·rw[if_neg d]
def WR.newO{Z:Ren}{wq w:qhy}(h:WR Q base Z wq w)(F:base<=Z.length){o p:Obj}(v:ObR Z o p) :WR Q base (Z++[some w.heap.size]) { wq with heap:=wq.heap.push o } { w with heap:=w.heap.push p }/\Eff base Z (Z++[some w.heap.size]) w { w with heap:=w.heap.push p }:=by
 have c:Le Z (Z++[some w.heap.size]):=.snoc _ _ λi f=>qnf _ (h.lt i _ f);have b:∀{i j:Nat},BR (Z++[some w.heap.size]) i j->(i<Z.length/\BR Z i j)\/(i=Z.length/\j=w.heap.size):=by
  intro i j a;rcases a.snoc_cases with z | ⟨n,l⟩
  ·exact .inl z
  ·exact .inr ⟨n,(qkH l).symm⟩
 refine⟨⟨by simp[h.len],?_,λi j a=>?_,λi j x a g=>?_,λi f=>?_,h.env,h.below,λi o f=>?_⟩,⟨c,rfl,rfl,rfl,by simp,λj r D=>?_,λi j a f=>?_,λj n l=>?_⟩⟩
 ·exact c.2 h.nodup
 ·rcases b a with⟨q,d⟩ | ⟨rfl,rfl⟩
  ·have:=h.lt i j d;simp;omega
  ·simp
 ·simp only[qm7] at g ⊢;rcases b a with⟨q,d⟩ | ⟨rfl,rfl⟩
  ·have n:=h.lt i j d;rw[if_neg (by have:=h.len;omega)] at g;rw[if_neg (by omega)];rcases h.obj i j x d g with⟨k,rfl,A⟩ | ⟨k,y,s,t⟩
   ·exact .inl ⟨k,rfl,A⟩
   ·exact .inr ⟨k,y,s,t.mono c⟩
  ·rw[if_pos h.len] at g;cases g;exact .inr ⟨λk=>by have:=h.below _ k;omega,p,by simp,v.mono c⟩
 ·have⟨C,B,f1,n,l⟩:=h.low i f;refine⟨C,B,f1,?_,l⟩;simp only[qm7];have:=h.len;rw[if_neg (by omega)];exact n
 ·simp only[qm7] at f;split at f
  ·rename_i e
   exact .inl ⟨w.heap.size,by rw[e,<- h.len];exact BR.new _ _⟩
  ·rcases h.gar i o f with⟨j,r⟩ | u
   ·exact .inl ⟨j,r.mono c⟩
   ·exact .inr u
 ·simp only[qm7];rw[if_neg (by omega)]
 ·rcases b a with⟨q,_⟩ | ⟨_,rfl⟩
  ·omega
  ·exact qhz _
 ·simp at l;have:j=w.heap.size:=by omega
  subst this;exact⟨Z.length,qhz _,BR.new _ _⟩
def WR.draw{Z:Ren}{wq w:qhy}(h:WR Q base Z wq w):WR Q base Z { wq with drawn:=wq.drawn+1 } { w with drawn:=w.drawn+1 }/\Eff base Z Z w { w with drawn:=w.drawn+1 } :=
 ⟨⟨h.len,h.nodup,h.lt,h.obj,h.low,h.env,h.below,h.gar⟩,⟨.refl Z,rfl,rfl,rfl,qhz _,λ_ _ _=>rfl,λi k a b=>absurd a.lt (by omega),λk d c=>by simp at c;omega⟩⟩
omit [JunkSet] in
def zD.draw{D:Nat}{wq w:qhy}(h:zD D wq w):zD D { wq with drawn:=wq.drawn+1 } { w with drawn:=w.drawn+1 }:=λn q a=>by
 have:=h (n+1) q (by simp only at a;omega);simpa[qnF,Nat.add_comm 1 n] using this
omit [JunkSet] in
def zD.heap{D:Nat}{b w a c:qhy}(h:zD D b w)(i:a.tape=b.tape)(d:a.drawn=b.drawn)(g:c.tape=w.tape)(f:c.drawn=w.drawn):zD D a c:=λn q e=>by
 rw[i,d,g,f];exact h n q (by rw[<- d];exact e)
def yJ{Y:Type}{p:qi4}{r:Nat}{k:Obj->Sem Y}{w:qhy}{o:Obj}(h:w.heap[r]?=some o)(a:∀c e f,o≠.cells c e f):(Sem.getObj r k).run p w=(k o).run p w:=by
 rw[qjk,h];cases o<;>first | exact absurd rfl (a _ _ _) | rfl
def q4j{Y:Type}{p:qi4}{r:Nat}{k:Obj->Sem Y}{w:qhy}{o:Obj}(a:Array qjs)(h:w.heap[r]?=some o)(b:∀c e f,o≠.cells c e f):(Sem.getObj r k).runT p w a=(k o).runT p w (a.push ⟨.obj r,false,o.isChan⟩):=by
 rw[qmD,h];cases o<;>first | exact absurd rfl (b _ _ _) | rfl
def yI{Y:Type}{p:qi4}{r:Nat}{x:Obj}{k:Sem Y}{w:qhy}{o:Obj}(h:w.heap[r]?=some o)(a:∀c e f,o≠.cells c e f):(qs4 r x k).run p w=k.run p { w with heap:=w.heap.setIfInBounds r x }:=by
 rw[qjk,h];cases o<;>first | exact absurd rfl (a _ _ _) | rfl
def q4i{Y:Type}{p:qi4}{r:Nat}{x:Obj}{k:Sem Y}{w:qhy}{o:Obj}(a:Array qjs)(h:w.heap[r]?=some o)(b:∀c e f,o≠.cells c e f):(qs4 r x k).runT p w a=k.runT p { w with heap:=w.heap.setIfInBounds r x } (a.push ⟨.obj r,true,x.isChan⟩):=by
 rw[qmD,h];cases o<;>first | exact absurd rfl (b _ _ _) | rfl
def SR.runs{Y M:Type}{R:Rel Y M}{s:Sem Y}{D:Nat}:∀{Z:Ren} {s':Sem M} {A w:qhy} (es:Array qjs),SR Q P R s Z s'->base<=Z.length->WR Q base Z A w->zD D A w->(rwR (s.run Q A)).drawn<=D->xy (s.run Q A) ->∃O p G t,q7j R O (s.run Q A) p (s'.run P w) G/\(s'.runT P w es).2=es++t/\(∀e∈t,vg base O e)/\WR Q base O p G/\zD D p G/\Eff base Z O w G/\p.drawn+w.drawn=A.drawn+G.drawn:=by
 induction s with
 | pure a=>
  intro Z s' A w es h F l H _ _;obtain⟨b,rfl,hr⟩:=h;exact⟨Z,A,w,#[],.ok A w hr,by simp[qmD],by simp,l,H,.refl base w,rfl⟩
 | load m a k ih=>
  intro Z s' A w es h F l H z d;rcases h with g | ⟨rfl,j,k',rfl,B,T⟩
  ·exact absurd d (Bad.not_fine l.nopend g)
  simp only[qjk] at z d ⊢;cases hc:A.cell? a with
  | none=>
   rw[hc] at d;simp only[qqB] at d;split at d
   ·rename_i hv
    split at hv
    ·rename_i U
     exact absurd U (l.noview B _ _)
    ·cases hv
   ·rename_i hv
    split at hv
    ·rename_i U
     exact absurd U (l.noview B _ _)
    ·cases hv;exact absurd d (jU l.nopend _ _ _)
  | some v=>
   have⟨v',U,hr⟩:=l.cell B hc;rw[hc] at z d;simp only[U] at z d ⊢;have⟨O,p,G,t,L,h2,h3,h4,h5,I,h7⟩:=ih v (es.push ⟨.cell ⟨j,a.off,a.spot⟩,false,false⟩) (T v v' hr) F l H z d;refine⟨O,p,G,#[⟨.cell ⟨j,a.off,a.spot⟩,false,false⟩]++t,L,?_,?_,h4,h5,I,h7⟩
   ·simp only[qmD,U];rw[show((Mode.plain == Mode.atomic)=false) from rfl,h2];simp
   ·intro e y;rw[qlf] at y;rcases y with y | y
    ·simp at y;subst y;exact .cell _ _ _ (B.mono I.le) (l.looked B hc) (by simp)
    ·exact h3 e y
 | store m a v k ih=>
  intro Z s' A w es h F l H z d;rcases h with g | ⟨rfl,j,v',k',rfl,B,hv,T⟩
  ·exact absurd d (Bad.not_fine l.nopend (s:=.store m a v k) g)
  have e7:(∃x,v=.agg x)\/(∃x,v=.tuple x)\/((∀x,v≠.agg x)/\∀x,v≠.tuple x):=by
   cases v<;>simp
  rcases e7 with⟨x,rfl⟩ | ⟨x,rfl⟩ | ⟨g7,g6⟩
  ·simp only[qjk] at d;exact absurd d (λh=>by cases h)
  ·simp only[qjk] at d;exact absurd d (λh=>by cases h)
  ·have e5:∀x,v'≠.agg x:=λx e=>by subst e;cases hv<;>first | exact g7 _ rfl | (rename_i h;cases h)
   have e4:∀x,v'≠.tuple x:=λx e=>by subst e;cases hv<;>first | exact g6 _ rfl | (rename_i h;cases h)
   have e1:(qrt .plain a v k).run Q A=match A.cell? a with
     | some _=>if A.frozen? a then .halt (.unsupported (.unsafePointer "a write to bytes that a string shares")) A else k.run Q (A.setCell a v)
     | none=>match A.farStore Q a v false with
      | .ok (w,_)=>k.run Q w
      | .error h=>.halt h A:=by
    cases v<;>first | rfl | exact absurd rfl (g7 _) | exact absurd rfl (g6 _)
   have e2:(qrt .plain (⟨j,a.off,a.spot⟩:qj5) v' k').run P w=match w.cell? ⟨j,a.off,a.spot⟩ with
     | some _=>if w.frozen? ⟨j,a.off,a.spot⟩ then .halt (.unsupported (.unsafePointer "a write to bytes that a string shares")) w else k'.run P (w.setCell ⟨j,a.off,a.spot⟩ v')
     | none=>match w.farStore P ⟨j,a.off,a.spot⟩ v' false with
      | .ok (w,_)=>k'.run P w
      | .error h=>.halt h w:=by
    cases v'<;>first | rfl | exact absurd rfl (e5 _) | exact absurd rfl (e4 _)
   have e3:((qrt .plain (⟨j,a.off,a.spot⟩:qj5) v' k').runT P w es).2=(match w.cell? ⟨j,a.off,a.spot⟩ with
     | some _=>if w.frozen? ⟨j,a.off,a.spot⟩ then((Result.halt (.unsupported (.unsafePointer "a write to bytes that a string shares")) w:qml M),es) else k'.runT P (w.setCell ⟨j,a.off,a.spot⟩ v') (es.push ⟨.cell ⟨j,a.off,a.spot⟩,true,false⟩)
     | none=>match w.farStore P ⟨j,a.off,a.spot⟩ v' false with
      | .ok (w,d7)=>k'.runT P w (es++d7.toArray.map λx=>(⟨.cell x,true,false⟩:qjs))
      | .error h=>((Result.halt h w:qml M),es)).2:=by
    cases v'<;>first | rfl | exact absurd rfl (e5 _) | exact absurd rfl (e4 _)
   rw[e1] at z d ⊢;rw[e2,e3];cases hc:A.cell? a with
   | none=>
    rw[hc] at d;simp only[qno] at d;split at d
    ·rename_i hv
     split at hv
     ·rename_i U
      exact absurd U (l.noview B _ _)
     ·cases hv
    ·rename_i hv
     split at hv
     ·rename_i U
      exact absurd U (l.noview B _ _)
     ·cases hv;exact absurd d (jU l.nopend _ _ _)
   | some u=>
    have⟨u',k0,_⟩:=l.cell B hc;rw[hc] at z d;simp only[k0] at z d ⊢;cases hfz:A.frozen? a with
    | true=>
     rw[hfz] at d;exact absurd d (λh=>by cases h)
    | false=>
     have⟨N,g9,c8,c9⟩:=l.set B hc hfz hv;rw[hfz] at z d;simp only[g9,qiC,if_false] at z d ⊢;have⟨O,p,G,t,L,h2,h3,h4,h5,I,h7⟩:=ih (es.push ⟨.cell ⟨j,a.off,a.spot⟩,true,false⟩) T F c8 (H.heap rfl rfl rfl rfl) z d;refine⟨O,p,G,#[⟨.cell ⟨j,a.off,a.spot⟩,true,false⟩]++t,L,by rw[h2];simp,?_,h4,h5,c9.trans F I,h7⟩;intro e y;rw[qlf] at y;rcases y with y | y
     ·simp at y;subst y;exact .cell _ _ _ (B.mono I.le) (λT=>absurd (l.below _ T) (by omega)) (λ_=>N)
     ·exact h3 e y
 | new o k ih=>
  intro Z s' A w es h F l H z d;rcases h with g | ⟨o',k',rfl,ho,T⟩
  ·exact absurd d (Bad.not_fine l.nopend (s:=.new o k) g)
  simp only[qjk] at z d ⊢;have⟨c8,c9⟩:=l.newO F ho;have g8:=T w.heap.size (λi hi=>qnf _ (l.lt i _ hi));rw[l.len] at g8;have⟨O,p,G,t,L,h2,h3,h4,h5,I,h7⟩:=ih _ es g8 (by simp;omega) c8 (H.heap rfl rfl rfl rfl) z d;exact⟨O,p,G,t,L,by simp only[qmD];exact h2,h3,h4,h5,c9.trans F I,by simp only at h7;omega⟩
 | shape r k ih=>
  intro Z s' A w es h F l H z d;rcases h with g | ⟨j,k',rfl,B,T⟩
  ·exact absurd d (Bad.not_fine l.nopend (s:=.shape r k) g)
  simp only[qjk] at z d ⊢;have⟨O,p,G,t,L,h2,h3,h4,h5,I,h7⟩:=ih _ es (T _ _ (l.shape B)) F l H z d;exact⟨O,p,G,t,L,by simp only[qmD];exact h2,h3,h4,h5,I,h7⟩
 | freeze a n k _=>intro Z s' A w es h F l H z d;exact absurd d (Bad.not_fine l.nopend (s:=.freeze a n k) h)
 | frozen a k _=>intro Z s' A w es h F l H z d;exact absurd d (Bad.not_fine l.nopend (s:=.frozen a k) h)
 | getObj r k ih=>
  intro Z s' A w es h F l H z d;rcases h with g | ⟨j,k',rfl,B,T⟩
  ·exact absurd d (Bad.not_fine l.nopend (s:=.getObj r k) g)
  cases ho:A.heap[r]? with
  | none=>simp only[qjk,ho] at d;exact absurd d (λh=>by cases h)
  | some o=>
   by_cases C:∃c e f,o=.cells c e f
   ·obtain⟨c,e,f,rfl⟩:=C;simp only[qjk,ho] at d;exact absurd d (λh=>by cases h)
   ·have V:∀c e f,o≠.cells c e f:=λc e f x=>C ⟨c,e,f,x⟩;have N:base<=r:=by
     rcases qk2 r base with hl | hl
     ·have⟨c,e,f,L,_⟩:=l.low _ hl;rw[ho] at L;cases L;exact absurd rfl (V _ _ _)
     ·exact hl
    rcases l.obj _ _ _ B ho with⟨_,hj,_⟩ | ⟨_,o',g5,hr⟩
    ·exact absurd hj (V _ _ _)
    ·have b9:∀c e f,o'≠.cells c e f:=λc e f x=>by subst x;cases hr;exact V _ _ _ rfl
     have e6:o'.isChan=false:=by cases hr<;>rfl
     rw[yJ ho V] at z d;rw[yJ ho V,yJ g5 b9,q4j es g5 b9,e6];have⟨O,p,G,t,L,h2,h3,h4,h5,I,h7⟩:=ih o (es.push ⟨.obj j,false,false⟩) (T _ _ hr) F l H z d;refine⟨O,p,G,#[⟨.obj j,false,false⟩]++t,L,by rw[h2];simp,?_,h4,h5,I,h7⟩;intro e y;rw[qlf] at y;rcases y with y | y
     ·simp at y;subst y;exact .obj _ (B.mono I.le) N
     ·exact h3 e y
 | setObj r o k ih=>
  intro Z s' A w es h F l H z d;rcases h with g | ⟨j,o',k',rfl,B,e9,T⟩
  ·exact absurd d (Bad.not_fine l.nopend (s:=.setObj r o k) g)
  cases ho:A.heap[r]? with
  | none=>simp only[qjk,ho] at d;exact absurd d (λh=>by cases h)
  | some ob=>
   by_cases C:∃c e f,ob=.cells c e f
   ·obtain⟨c,e,f,rfl⟩:=C;simp only[qjk,ho] at d;exact absurd d (λh=>by cases h)
   ·have V:∀c e f,ob≠.cells c e f:=λc e f x=>C ⟨c,e,f,x⟩;have⟨N,⟨h9,d9,hr⟩,c8,c9⟩:=l.setO B ho V e9;have b9:∀c e f,h9≠.cells c e f:=λc e f x=>by subst x;cases hr;exact V _ _ _ rfl
    have e6:o'.isChan=false:=by cases e9<;>rfl
    rw[yI ho V] at z d;rw[yI ho V,yI d9 b9,q4i es d9 b9,e6];have⟨O,p,G,t,L,h2,h3,h4,h5,I,h7⟩:=ih (es.push ⟨.obj j,true,false⟩) T F c8 (H.heap rfl rfl rfl rfl) z d;refine⟨O,p,G,#[⟨.obj j,true,false⟩]++t,L,by rw[h2];simp,?_,h4,h5,c9.trans F I,h7⟩;intro e y;rw[qlf] at y;rcases y with y | y
    ·simp at y;subst y;exact .obj _ (B.mono I.le) N
    ·exact h3 e y
 | choose q k ih=>
  intro Z s' A w es h F l H z d;rcases h with g | ⟨k',rfl,T⟩
  ·exact absurd d (Bad.not_fine l.nopend (s:=.choose q k) g)
  simp only[qjk] at z d ⊢;cases hq:q.forced with
  | true=>
   rw[hq] at z d;simp only[if_true] at z d ⊢;have⟨O,p,G,t,L,h2,h3,h4,h5,I,h7⟩:=ih _ es (T _) F l H z d;exact⟨O,p,G,t,L,by simp only[qmD,hq,if_true];exact h2,h3,h4,h5,I,h7⟩
  | false=>
   rw[hq] at z d;simp only[qiC,if_false] at z d ⊢;have k5:A.tape A.drawn q=w.tape w.drawn q:=by
    have:=qi1 (vX Q _ _) z;simpa using H 0 q (by simp only at this;omega)
   have⟨c8,c9⟩:=l.draw;rw[k5] at z d ⊢;have⟨O,p,G,t,L,h2,h3,h4,h5,I,h7⟩:=ih _ es (T _) F c8 H.draw z d;exact⟨O,p,G,t,L,by simp only[qmD,hq,qiC,if_false];exact h2,h3,h4,h5,c9.trans F I,by simp only at h7;omega⟩
 | sys c k ih=>
  intro Z s' A w es h F l H z d;rcases h with g | ⟨rfl,k',rfl,T⟩
  ·exact absurd d (Bad.not_fine l.nopend (s:=.sys c k) g)
  have e1:∀u:qhy,u.sys .env=(.strings u.os.env,u):=λu=>rfl;simp only[qjk,e1] at z d ⊢;rw[l.env] at z d ⊢;have⟨O,p,G,t,L,h2,h3,h4,h5,I,h7⟩:=ih _ (es.push ⟨.output,true,false⟩) (T _) F l H z d;refine⟨O,p,G,#[⟨.output,true,false⟩]++t,L,by simp only[qmD,e1];rw[h2];simp,?_,h4,h5,I,h7⟩;intro e y;rw[qlf] at y;rcases y with y | y
  ·simp at y;subst y;exact .env
  ·exact h3 e y
 | program k ih=>
  intro Z s' A w es h F l H z d;rcases h with g | ⟨k',rfl,T⟩
  ·exact absurd d (Bad.not_fine l.nopend (s:=.program k) g)
  simp only[qjk] at z d ⊢;have⟨O,p,G,t,L,h2,h3,h4,h5,I,h7⟩:=ih _ es T F l H z d;exact⟨O,p,G,t,L,by simp only[qmD];exact h2,h3,h4,h5,I,h7⟩
 | mark m k ih=>
  intro Z s' A w es h F l H z d;rcases h with g | ⟨rfl,k',rfl,T⟩
  ·exact absurd d (Bad.not_fine l.nopend (s:=.mark m k) g)
  simp only[qjk] at z d ⊢;have⟨O,p,G,t,L,h2,h3,h4,h5,I,h7⟩:=ih (es.push ⟨.mark .noRoom,false,true⟩) T F l H z d;refine⟨O,p,G,#[⟨.mark .noRoom,false,true⟩]++t,L,by simp only[qmD];rw[h2];simp,?_,h4,h5,I,h7⟩;intro e y;rw[qlf] at y;rcases y with y | y
  ·simp at y;subst y;exact .noRoom
  ·exact h3 e y
 | halt x=>
  intro Z s' A w es h F l H z d;cases x with
  | panic v=>
   obtain⟨v',rfl,hv⟩:=h;exact⟨Z,A,w,#[],.panic A w hv,by simp[qmD],by simp,l,H,.refl base w,rfl⟩
  | _=>exact absurd d (yW h A)
end
end
section
def EqR{Y:Type}:Rel Y Y:=λ_ a b=>b=a
def Gl(P:qi4)(Z:Ren):Prop:=∀i,i<=P.globals.size->BR Z i i
def Gl.mono{P:qi4}{Z O:Ren}(l:Le Z O)(h:Gl P Z):Gl P O:=λi a=>(h i a).mono l
section
variable[JunkSet]{Q P:qi4}{Y M W X:Type}{R:Rel Y M}{S:Rel W X}{Z:Ren}
def qe{a:Y}{b:M}(h:R Z a b):SR Q P R (pure a) Z (pure b):=⟨b,rfl,h⟩
def SR.bnd{s:Sem Y}{c:Sem M}{f:Y->Sem W}{f':M->Sem X}(h:SR Q P R s Z c)(d:∀O a b,Le Z O->R O a b->SR Q P S (f a) O (f' b)) :SR Q P S (s>>=f) Z (c>>=f'):=SR.bind h d
def SR.bndE{s c:Sem Y}{f:Y->Sem W}{f':Y->Sem X}(h:SR Q P EqR s Z c)(d:∀O a,Le Z O->SR Q P S (f a) O (f' a)) :SR Q P S (s>>=f) Z (c>>=f'):=SR.bind h λO a b l e=>by cases e;exact d O a l
def qh{w:String}{a:Sem M}:SR Q P R (stuck w) Z a:=rfl
def qq{w:Unsupported}{a:Sem M}(h:odd (.unsupported w)=false:=by rfl):SR Q P R (unsupported w) Z a:=by
 cases w<;>first | rfl | cases h
def zw{w:String}{f:Y->Sem W}{a:Sem X}:SR Q P S ((stuck w:Sem Y)>>=f) Z a:=rfl
def jc{w:Unsupported}{f:Y->Sem W}{a:Sem X}(h:odd (.unsupported w)=false:=by rfl):SR Q P S ((unsupported w:Sem Y)>>=f) Z a:=by
 cases w<;>first | rfl | cases h
def qb3{w:String}{a:Sem M}:SR Q P R (throw w) Z a:=rfl
def zJ{f:qi4->Sem Y}{a:qi4->Sem M}(h:SR Q P R (f Q) Z (a P)):SR Q P R (program>>=f) Z (program>>=a):=.inr ⟨_,rfl,h⟩
def q48{a:Y}{f:Y->Sem W}{b:Sem X}(h:SR Q P S (f a) Z b):SR Q P S (pure a>>=f) Z b:=h
def vV{q:qk9}:SR Q P EqR (choose q) Z (choose q):=.inr ⟨_,rfl,λn=>⟨n,rfl,rfl⟩⟩
def qb6{f:Y->W}{s b:Sem Y}(h:SR Q P EqR s Z b):SR Q P EqR (Functor.map f s) Z (Functor.map f b):=SR.bndE (S:=EqR) (f:=λx=>pure (f x)) (f':=λx=>pure (f x)) h λO a _=>qe rfl
def q2x{f:Y->Sem W}{c:Y->Sem W}(h:∀O a,SR Q P EqR (f a) O (c a)):∀(l:List Y) (Z:Ren),SR Q P EqR (l.mapM f) Z (l.mapM c):=by
 intro l;induction l with
 | nil=>intro Z;exact qe rfl
 | cons a l d=>
  intro Z;rw[qog,qog];exact .bndE (h Z a) λO b _=>.bndE (d O) λV e _=>qe rfl
def qdv{f:Y->Sem W}{c:Y->Sem W}(h:∀O a,SR Q P EqR (f a) O (c a)){b:Array Y}:SR Q P EqR (b.mapM f) Z (b.mapM c):=by
 rw[qlC,qlC];exact qb6 (q2x h b.toList Z)
def q7u{i j:Nat}{b:Nat}{a:Option Nat}(h:BR Z i j):SR Q P VR (load ⟨i,b,a⟩) Z (load ⟨j,b,a⟩):=.inr ⟨rfl,j,_,rfl,h,λv c d=>⟨c,rfl,d⟩⟩
def qb4{i j:Nat}{b:Nat}{a:Option Nat}{v c:qhC}(h:BR Z i j)(d:VR Z v c):SR Q P (λ_ _ _=>True) (store ⟨i,b,a⟩ v) Z (store ⟨j,b,a⟩ c):=.inr ⟨rfl,j,c,_,rfl,h,d,(),rfl,trivial⟩
def Kk{o a:Obj}(h:ObR Z o a):SR Q P BR (newObj o) Z (newObj a):=.inr ⟨a,_,rfl,h,λj _=>⟨j,rfl,BR.new Z j⟩⟩
def Qn{i j:Nat}(h:BR Z i j):SR Q P (λ_=>ShR Q i) (shape i) Z (shape j):=.inr ⟨j,_,rfl,h,λx a b=>⟨a,rfl,b⟩⟩
def jR{i j:Nat}(h:BR Z i j):SR Q P ObR (getObj i) Z (getObj j):=.inr ⟨j,_,rfl,h,λo a b=>⟨a,rfl,b⟩⟩
def jQ{i j:Nat}{o a:Obj}(h:BR Z i j)(b:ObR Z o a):SR Q P (λ_ _ _=>True) (setObj i o) Z (setObj j a):=.inr ⟨j,a,_,rfl,h,b,(),rfl,trivial⟩
def yh{v a:qhC}(h:VR Z v a):SR Q P R (goPanic v) Z (goPanic a):=⟨a,rfl,h⟩
def qD{c:Prop}[Decidable c]{a b:Sem Y}{e d:Sem M}(g:c->SR Q P R a Z e)(f:¬ c->SR Q P R b Z d):SR Q P R (if c then a else b) Z (if c then e else d):=by
 by_cases h:c
 ·rw[if_pos h,if_pos h];exact g h
 ·rw[if_neg h,if_neg h];exact f h
end
section
variable[JunkSet]{Q P:qi4}(hT:P.toTables=Q.toTables){Z:Ren}{Y M:Type}{R:Rel Y M}
include hT
theorem YY(t:qid):P.info? t=Q.info? t:=by rw[hT]
theorem kN(t:qid):P.underlying t=Q.underlying t:=by unfold Program.underlying;rw[hT]
theorem zv(t:qid):SR Q P EqR (qlG t) Z (qlG t):=by
 refine zJ ?_;rw[YY hT];cases Q.info? t with
 | some i=>exact qe rfl
 | none=>exact qh
theorem qC(t:qid):SR Q P EqR (qlj t) Z (qlj t):=by
 refine zJ ?_;rw[kN hT];cases Q.underlying t with
 | some i=>exact qe rfl
 | none=>exact qh
theorem qV(t:qid):SR Q P EqR (sizeOf t) Z (sizeOf t):=.bndE (zv hT t) λO i _=>qe rfl
theorem q4b(t:qid):SR Q P EqR (isAgg t) Z (isAgg t):=.bndE (qC hT t) λO i _=>by
 cases i<;>exact qe rfl
def vh(P:qi4)(t:qid):Bool :=
 match (P.info? t).bind (·.zero) with
 | some v=>qd0 v
 | none=>true
omit hT in
theorem q46{i:qm8}(h:∀v,i.zero=some v->vJ v):SR Q P VR (match i.zero with
  | some v=>pure v
  | none=>unsupported (.resourceLimit "a value of more than 2^22 cells")) Z (match i.zero with
  | some v=>pure v
  | none=>unsupported (.resourceLimit "a value of more than 2^22 cells")):=by
 cases hz:i.zero with
 | some v=>exact qe ((h v hz).vr _)
 | none=>exact qq
theorem xD(t:qid):SR Q P (λ_ a b=>b=a/\Q.info? t=some a) (qlG t) Z (qlG t):=by
 refine zJ ?_;rw[YY hT];cases Q.info? t with
 | some i=>exact qe ⟨rfl,rfl⟩
 | none=>exact qh
theorem zt{t:qid}(h:vh Q t=true):SR Q P VR (qmE t) Z (qmE t):=by
 refine .bnd (xD hT t) λO i c l a=>?_;obtain⟨rfl,a⟩:=a;refine q46 λv b=>?_;unfold vh at h;rw[a] at h;simp only[qnx,b] at h;exact q3p h
omit hT in
theorem VR.cells{v f:qhC}(h:VR Z v f):AsR Z v.cells f.cells:=by
 cases h with
 | agg j i=>exact⟨j,i⟩
 | bool b=>exact .one (.bool b)
 | int k n=>exact .one (.int k n)
 | string s=>exact .one (.string s)
 | ptrNil=>exact .one .ptrNil
 | ptr o s h=>exact .one (.ptr o s h)
 | sliceNil a b=>exact .one (.sliceNil a b)
 | slice o s a b h=>exact .one (.slice o s a b h)
 | mapNil=>exact .one .mapNil
 | map h=>exact .one (.map h)
 | func a b c d e=>exact .one (.func a b c d e)
 | nilFunc=>exact .one .nilFunc
 | iface t h=>exact .one (.iface t h)
 | nilIface=>exact .one .nilIface
 | tuple j i=>exact .one (.tuple j i)
 | meth n a c=>exact .one (.meth n a c)
 | wild _ h=>
  have e:f.cells=#[f]:=by cases f<;>first | rfl | (cases h;done)
  rw[e];exact .one (.wild _ h)
omit hT in
theorem AsR.agg{a b:Array qhC}(h:AsR Z a b):VR Z (.agg a) (.agg b):=.agg h.1 h.2
omit hT in
theorem AsR.tuple{a b:Array qhC}(h:AsR Z a b):VR Z (.tuple a) (.tuple b):=.tuple h.1 h.2
omit hT in
theorem yA(i j b n:Nat)(a:Option Nat):∃o s,(⟨i,b,a⟩:qj5).add n=⟨i,o,s⟩/\(⟨j,b,a⟩:qj5).add n=⟨j,o,s⟩:=by
 unfold Addr.add;split
 ·exact⟨b,a,rfl,rfl⟩
 ·exact⟨b+n,none,rfl,rfl⟩
omit hT in
theorem JC{i j:Nat}{c:Nat}{a:Option Nat}(n:Nat):∀{Z:Ren} (k:Nat) (d b:Array qhC),BR Z i j->AsR Z d b ->SR Q P AsR (qoD ⟨i,c,a⟩ k n d) Z (qoD ⟨j,c,a⟩ k n b):=by
 induction n with
 | zero=>intro Z k d b h e;exact qe e
 | succ n f=>
  intro Z k d b h e;have⟨o,s,q,p⟩:=yA i j c k a;show SR Q P AsR (load ((⟨i,c,a⟩:qj5).add k)>>=λv=>qoD ⟨i,c,a⟩ (k+1) n (d.push v)) Z (load ((⟨j,c,a⟩:qj5).add k)>>=λv=>qoD ⟨j,c,a⟩ (k+1) n (b.push v));rw[q,p];exact .bnd (q7u h) λO v r l g=>f (k+1) _ _ (h.mono l) ((e.mono l).push g)
omit hT in
theorem ZX{i j:Nat}{b:Nat}{a:Option Nat}(n:Nat)(h:BR Z i j):SR Q P AsR (loadCells ⟨i,b,a⟩ n) Z (loadCells ⟨j,b,a⟩ n):=JC n 0 _ _ h .nil
omit hT in
theorem jE{i j:Nat}{b:Nat}{a:Option Nat}{d c:List qhC}(g:LsR (VR Z) d c):∀(k:Nat),BR Z i j ->SR Q P (λ_ _ _=>True) (qow ⟨i,b,a⟩ d k) Z (qow ⟨j,b,a⟩ c k):=by
 have n:∀(d c:List qhC) (Z:Ren) (k:Nat),LsR (VR Z) d c->BR Z i j->SR Q P (λ_ _ _=>True) (qow ⟨i,b,a⟩ d k) Z (qow ⟨j,b,a⟩ c k):=by
  intro d;induction d with
  | nil=>intro c Z k h e;cases h;exact qe trivial
  | cons v l q=>
   intro c Z k h e;cases h with
   | @cons _ p _ f g r=>
    have⟨o,s,u,t⟩:=yA i j b k a;show SR Q P _ (store ((⟨i,b,a⟩:qj5).add k) v>>=λ_=>qow ⟨i,b,a⟩ l (k+1)) Z (store ((⟨j,b,a⟩:qj5).add k) p>>=λ_=>qow ⟨j,b,a⟩ f (k+1));rw[u,t];exact .bnd (qb4 e g) λO _ _ f _=>q _ O (k+1) (r.imp λ_ _ x=>x.mono f) (e.mono f)
 exact λk e=>n d c Z k g e
theorem Kl{t:qid}{i j:Nat}{d:Nat}{c:Option Nat}(h:BR Z i j):SR Q P VR (qre t ⟨i,d,c⟩) Z (qre t ⟨j,d,c⟩):=by
 refine .bndE (q4b hT t) λO b l=>?_;cases b with
 | true=>exact .bndE (qV hT t) λV n g=>.bnd (ZX n (h.mono (l.trans g))) λU a b _ e=>qe e.agg
 | false=>exact q7u (h.mono l)
theorem q47{t:qid}{i j:Nat}{b:Nat}{a:Option Nat}{v c:qhC}(h:BR Z i j)(d:VR Z v c) :SR Q P (λ_ _ _=>True) (storeVar t ⟨i,b,a⟩ v) Z (storeVar t ⟨j,b,a⟩ c):=by
 refine .bndE (qV hT t) λO n l=>?_;dsimp only;rw[<- (d.mono l).cells.1];split
 ·exact zw
 ·refine q48 ?_;exact jE (zm.1 (d.mono l).cells) 0 (h.mono l)
omit hT in
theorem vT{e:qid}{c d:Array qhC}(h:AsR Z c d):SR Q P (λO a b=>∃i j,a=⟨i,0,none⟩/\b=⟨j,0,none⟩/\BR O i j) (newRow e c) Z (newRow e d) :=
 .bnd (Kk (.cells e h λo k g=>absurd g (by simp))) λO i j l f=>qe ⟨i,j,rfl,rfl,f⟩
omit hT in
theorem QN{e:qid}{v c:qhC}(h:VR Z v c):SR Q P (λO a b=>∃i j,a=⟨i,0,none⟩/\b=⟨j,0,none⟩/\BR O i j) (newVar e v) Z (newVar e c):=vT h.cells
theorem q1r(t:qid):SR Q P EqR (elemOf t) Z (elemOf t):=.bndE (qC hT t) λO d _=>by
 cases d with
 | pointer e=>exact qe rfl
 | _=>exact qh
theorem jJ{t:qid}{c e:Array qhC}(h:AsR Z c e)(a:Nat):SR Q P VR (part t c a) Z (part t e a):=by
 refine .bndE (q4b hT t) λO b l=>?_;cases b with
 | true=>exact .bndE (qV hT t) λV n f=>qe (((h.mono (l.trans f)).extract _ _).agg)
 | false=>
  simp only[qiC,if_false];cases hc:c[a]? with
  | some v=>
   have⟨i,d,g⟩:=h.get hc;simp only[d];exact qe (g.mono l)
  | none=>exact qh
theorem qy(p:Gl P Z)(e:RuntimeError):SR Q P R (qlr e) Z (qlr e):=by
 have d:P.rt=Q.rt:=by rw[hT]
 refine zJ ?_;dsimp only;rw[d];have k:∀(O:Ren) (l:Le Z O) (t:qid),VR O (qpD Q t) (qpD P t):=λO l t=>by
  unfold qpD;have:P.globals.size=Q.globals.size:=by rw[hT]
  rw[<- this];exact .ptr _ _ ((p _ (qhz _)).mono l)
 cases e with
 | bounds x y s c=>exact yh (vJ.vr _ (q3p rfl) |> λh=>.iface _ h)
 | error m=>exact yh (.iface _ (.string _))
 | plain m=>exact yh (.iface _ (.string _))
 | nilDeref=>exact yh (.iface _ (.string _))
 | typeAssertion i c a m=>
  refine .bndE (q1r hT _) λO q l=>.bnd (QN (AsR.agg ?_)) λV x y n b=>?_
  ·have f:∀o:Option qid,VR O (match o with | some t=>qpD Q t | none=>.pointer none) (match o with | some t=>qpD P t | none=>.pointer none):=λo=>by
    cases o with
    | none=>exact .ptrNil
    | some t=>exact k O l t
   rw[zm];exact .cons (f i) (.cons (f c) (.cons (f (some a)) (.cons (.string _) .nil)))
  ·obtain⟨i,j,rfl,rfl,g⟩:=b;exact yh (.iface _ (.ptr _ _ g))
 | panicNil=>
  refine .bndE (q1r hT _) λO q l=>.bnd (QN (AsR.agg .nil)) λV x y n b=>?_;obtain⟨i,j,rfl,rfl,g⟩:=b;exact yh (.iface _ (.ptr _ _ g))
 | unhashable t=>exact yh (.iface _ (AsR.agg (.one (k Z (.refl Z) t))))
theorem ji(a:Gl P Z)(k:IntKind)(x y:Int)(c:qr5):SR Q P R (qmf k x y c) Z (qmf k x y c):=by
 unfold qmf;dsimp only;refine qD (λ_=>?_) λ_=>?_
 ·exact .bndE (qb6 vV) λO n l=>qy hT (a.mono l) _
 ·exact(qy hT a (.bounds (IntKind.i64.wrap x) y (k != IntKind.u64) c):SR Q P R _ Z _)
omit hT in
theorem xG{v a:qhC}(h:VR Z v a):SR Q P EqR (asIntOf v) Z (asIntOf a):=by
 cases h<;>first | exact qe rfl | exact qh | exact qq
omit hT in
theorem ZZ{v b:qhC}(h:VR Z v b):SR Q P EqR (asInt v) Z (asInt b):=.bndE (xG h) λO a _=>qe rfl
omit hT in
theorem q8y{v a:qhC}(h:VR Z v a):SR Q P EqR (asBool v) Z (asBool a):=by
 cases h<;>first | exact qe rfl | exact qh
omit hT in
theorem qbc{v a:qhC}(h:VR Z v a):SR Q P AsR (asAgg v) Z (asAgg a):=by
 cases h with
 | agg c b=>exact qe ⟨c,b⟩
 | _=>exact qh
def AdR:Rel qj5 qj5:=λZ a b=>∃i j o s,a=⟨i,o,s⟩/\b=⟨j,o,s⟩/\BR Z i j
theorem q1s(b:Gl P Z){v a:qhC}(h:VR Z v a):SR Q P AdR (qru v) Z (qru a):=by
 cases h with
 | ptr o s h=>exact qe ⟨_,_,o,s,rfl,rfl,h⟩
 | ptrNil=>
  show SR Q P AdR (qlr .nilDeref) Z (qlr .nilDeref);exact qy hT b _
 | _=>exact qh
end
section
variable[JunkSet]{Q P:qi4}(hT:P.toTables=Q.toTables){Z:Ren}
def yZ{v a:qhC}(h:VR Z v a):SR Q P AdR (qs5 v) Z (qs5 a):=by
 cases h with
 | ptr o s h=>exact qe ⟨_,_,o,s,rfl,rfl,h⟩
 | _=>exact qh
include hT
theorem q8x(t:qid){v d:qhC}(h:VR Z v d):SR Q P VR (Instr.loadAt t v) Z (Instr.loadAt t d) :=
 .bnd (yZ h) λO a b l c=>by obtain⟨i,j,o,s,rfl,rfl,e⟩:=c;exact Kl hT e
theorem q66(t:qid){v e x d:qhC}(h:VR Z v e)(f:VR Z x d):SR Q P (λ_ _ _=>True) (qs8 t v x) Z (qs8 t e d) :=
 .bnd (yZ h) λO a b l c=>by obtain⟨i,j,o,s,rfl,rfl,g⟩:=c;exact q47 hT g (f.mono l)
theorem qbe{t:qid}(f:vh Q t=true):SR Q P VR (Instr.alloc t true (.tuple #[])) Z (Instr.alloc t true (.tuple #[])):=by
 refine .bnd (zt hT f) λO z e l c=>?_;show SR Q P VR (newVar t z>>=λa=>pure (.pointer (some a))) O (newVar t e>>=λa=>pure (.pointer (some a)));exact .bnd (QN c) λV a b l d=>by obtain⟨i,j,rfl,rfl,g⟩:=d;exact qe (.ptr _ _ g)
omit hT in
theorem qfv(t:qid){v d:qhC}(h:VR Z v d):SR Q P VR (Instr.box t v) Z (Instr.box t d) :=
 .bnd (QN h) λV a b l c=>by obtain⟨i,j,rfl,rfl,e⟩:=c;exact qe (.ptr _ _ e)
def q2m(Z:Ren)(a b:Nat × qhC):Prop:=b.1=a.1/\VR Z a.2 b.2
omit hT in
theorem q58(b:Nat->Option (Nat × Nat)):∀(l n:List (Nat × qhC)) (c j:Array qhC),LsR (q2m Z) l n->AsR Z c j ->(qnp b c l=none/\qnp b j n=none)\/∃r F,qnp b c l=some r/\qnp b j n=some F/\AsR Z r F:=by
 intro l;induction l with
 | nil=>intro n c j h s;cases h;exact .inr ⟨c,j,rfl,rfl,s⟩
 | cons x l L=>
  intro n c j h s;cases h with
  | @cons _ y _ n z O=>
   obtain⟨i,v⟩:=x;obtain⟨N,u⟩:=y;obtain⟨rfl,G⟩:=z;simp only[qnp];cases hp:b N with
   | none=>exact .inl ⟨rfl,rfl⟩
   | some I=>
    obtain⟨f,q⟩:=I;dsimp only;have U:u.cells.size=v.cells.size:=G.cells.1.symm;rw[U,<- s.1];by_cases e:(decide (v.cells.size≠q) || decide (f+v.cells.size > c.size))=true
    ·rw[if_pos e,if_pos e];exact .inl ⟨rfl,rfl⟩
    ·rw[if_neg e,if_neg e];refine L n _ _ O ?_;have D:∀(p g:List qhC) (k:Nat) (d t:Array qhC),LsR (VR Z) p g->AsR Z d t ->
       AsR Z ((p.zipIdx k).foldl (λo (x:qhC × Nat)=>o.setIfInBounds (f+x.2) x.1) d) ((g.zipIdx k).foldl (λo (x:qhC × Nat)=>o.setIfInBounds (f+x.2) x.1) t):=by
      intro p;induction p with
      | nil=>intro g k d t B C;cases B;exact C
      | cons a p w=>
       intro g k d t B C;cases B with
       | cons T A=>exact w _ (k+1) _ _ A (C.set _ T)
     have:=D v.cells.toList u.cells.toList 0 c j (zm.1 G.cells) s;have H:∀(a d:Array qhC),a.zipIdx.foldl (λo (x:qhC × Nat)=>o.setIfInBounds (f+x.2) x.1) d=(a.toList.zipIdx 0).foldl (λo (x:qhC × Nat)=>o.setIfInBounds (f+x.2) x.1) d:=λa d=>by
      rw[<- qo5,Array.toList_zipIdx]
     exact(H v.cells c ▸ H u.cells j ▸ this :)
theorem qbb{t:qid}(v:vh Q t=true){g a:Array (Nat × qhC)}(h:LsR (q2m Z) g.toList a.toList):SR Q P VR (Instr.build t g) Z (Instr.build t a):=by
 refine .bnd (zt hT v) λO z q l k=>.bndE (qC hT t) λV d u=>?_;have y:LsR (q2m V) g.toList a.toList:=h.imp λ_ _ x=>⟨x.1,x.2.mono (l.trans u)⟩;have A:AsR V z.cells q.cells:=k.cells.mono u;have fin:∀(j:Nat->Option (Nat × Nat)) (U:Ren) (b:String),Le V U->SR Q P VR
   (match qnp j z.cells g.toList with | some cells=>pure (.agg cells) | _=>stuck b) U (match qnp j q.cells a.toList with | some cells=>pure (.agg cells) | _=>stuck b):=λj U b c=>by
  rcases q58 (Z:=U) j _ _ _ _ (y.imp λ_ _ x=>⟨x.1,x.2.mono c⟩) (A.mono c) with⟨p,o⟩ | ⟨r,B,p,o,w⟩
  ·rw[p,o];exact qh
  ·rw[p,o];exact qe w.agg
 cases d with
 | struct C=>
  refine .bndE (qdv λO f=>?_) λU i c=>fin _ U _ c;exact .bndE (qV hT _) λ_ n _=>qe rfl
 | array n e=>exact .bndE (qV hT _) λU s c=>fin _ U _ c
 | _=>exact qh
end
end
section
def PVR[JunkSet]:Rel qhC qhC:=λZ a b=>VR Z a b/\a≠.tuple #[]/\∀r,a≠.chan r
section
variable[JunkSet]{Q P:qi4}(hT:P.toTables=Q.toTables)
include hT
theorem yT(t:qid):P.cellsOf t=Q.cellsOf t:=by unfold Program.cellsOf;rw[hT]
theorem kZ(t:qid):P.bytesOf t=Q.bytesOf t:=by unfold Program.bytesOf;rw[hT]
theorem QI:P.depth=Q.depth:=by unfold Program.depth;rw[hT]
theorem ZI:P.globals=Q.globals:=by rw[hT]
theorem vG:∀d t a,qpE P d t a=qpE Q d t a:=by
 intro d;induction d with
 | zero=>intro t a;rfl
 | succ d b=>intro t a;simp only[qpE,kN hT,yT hT,kZ hT,b]
theorem q14:∀d t a,cellOfByte P d t a=cellOfByte Q d t a:=by
 intro d;induction d with
 | zero=>intro t a;rfl
 | succ d b=>intro t a;simp only[cellOfByte,kN hT,yT hT,kZ hT,b]
theorem q0b(d:Nat)(e:qid)(c o:Nat)(b:Int):qob P d e c o b=qob Q d e c o b:=by
 simp only[qob,yT hT,kZ hT,vG hT,q14 hT]
theorem qd5:∀d t u,P.alikeButTags d t u=Q.alikeButTags d t u:=by
 intro d;induction d with
 | zero=>intro t u;rfl
 | succ d a=>intro t u;simp only[Program.alikeButTags,YY hT,a]
theorem q5H(t:qid):P.underlyingId t=Q.underlyingId t:=by unfold Program.underlyingId;rw[hT]
theorem qaG(t:qid):P.stoodInHeld t=Q.stoodInHeld t:=by
 unfold Program.stoodInHeld Program.stoodInAs;simp only[kN hT,qd5 hT,q5H hT,YY hT,QI hT];rw[show P.cutTypes=Q.cutTypes by rw[hT]]
theorem q37:∀d t,P.eqGuardType d t=Q.eqGuardType d t:=by
 intro d;induction d with
 | zero=>intro t;rfl
 | succ d a=>intro t;simp only[Program.eqGuardType,kN hT,a]
omit hT in
theorem qbB:Q.info? (kx Q)=none:=by
 unfold kx Tables.info?;rw[if_neg (qnf _)];have e:∀(f:Nat) (t:qid),Made.infoAt Q.toTables (f+1) t=if t<Q.types.size then Q.types[t]? else(Made.decode (t - Q.types.size)).bind (Made.reckon (Made.infoAt Q.toTables f)):=λ_ _=>rfl;show Made.infoAt Q.toTables (99+1) Q.types.size=none;rw[e,if_neg (qnf _),Nat.sub_self];rfl
omit hT in
theorem q7e:Q.cellsOf (kx Q)=0:=by unfold Program.cellsOf;rw[qbB];rfl
variable{Z:Ren}{Y M:Type}{R:Rel Y M}
omit hT in
theorem q1n{i j:Nat}(h:BR Z i j):SR Q P (λ_ a b=>a=none/\b=none) (viewAt i) Z (viewAt j):=by
 refine .bnd (Qn h) λO x c l d=>?_;have e:c.isSome=x.isSome:=by
  rcases d with⟨_,rfl⟩ | ⟨_,_,rfl,e,n,rfl⟩<;>rfl
 rw[e];cases x.isSome with
 | true=>exact qe ⟨rfl,rfl⟩
 | false=>
  refine .bnd (jR (h.mono l)) λV o g k f=>?_;cases f<;>exact qe ⟨rfl,rfl⟩
omit hT in
theorem q4a{i j:Nat}(h:BR Z i j):SR Q P (λO a b=>(a=none/\b=none)\/∃i j o s x,a=some (⟨i,o,s⟩,x)/\b=some (⟨j,o,s⟩,x)/\BR O i j) (numberAt i) Z (numberAt j):=by
 refine .bnd (Qn h) λO x c l d=>?_;have e:c.isSome=x.isSome:=by
  rcases d with⟨_,rfl⟩ | ⟨_,_,rfl,e,n,rfl⟩<;>rfl
 rw[e];cases x.isSome with
 | true=>exact qe (.inl ⟨rfl,rfl⟩)
 | false=>
  refine .bnd (jR (h.mono l)) λV o g k f=>?_;cases f with
  | number o s x h=>exact qe (.inr ⟨_,_,o,s,x,rfl,rfl,h⟩)
  | _=>exact qe (.inl ⟨rfl,rfl⟩)
omit hT in
theorem q1o{i j:Nat}{o e:Nat}{s d:Option Nat}(h:BR Z i j):SR Q P (λ_ _ _=>True) (noView ⟨i,o,s⟩) Z (noView ⟨j,e,d⟩) :=
 .bnd (q1n h) λO a b l c=>by obtain⟨rfl,rfl⟩:=c;exact qe trivial
omit hT in
theorem jS{i j:Nat}{o:Nat}{s:Option Nat}(h:BR Z i j):SR Q P (λO a b=>∃i j o s x,a=(⟨i,o,s⟩,x)/\b=(⟨j,o,s⟩,x)/\BR O i j) (qkr ⟨i,o,s⟩) Z (qkr ⟨j,o,s⟩) :=
 .bnd (q4a h) λO a b l c=>by
  rcases c with⟨rfl,rfl⟩ | ⟨k,g,f,e,x,rfl,rfl,d⟩
  ·exact qe ⟨_,_,_,_,_,rfl,rfl,h.mono l⟩
  ·exact qe ⟨_,_,_,_,_,rfl,rfl,d⟩
theorem QO{i j:Nat}{o:Nat}{s:Option Nat}(h:BR Z i j)(k:i<Q.globals.size):SR Q P EqR (qpF ⟨i,o,s⟩) Z (qpF ⟨j,o,s⟩):=by
 unfold qpF;cases s with
 | some s=>exact qe rfl
 | none=>
  dsimp only;refine zJ ?_;refine .bnd (q1o h) λO _ _ l _=>.bnd (Qn (h.mono l)) λV x a g c=>?_;have e:a=x:=by
   rcases c with⟨_,h⟩ | ⟨_,d,_⟩
   ·exact h
   ·omega
  subst e;cases a with
  | none=>exact qh
  | some f=>
   obtain⟨e,n⟩:=f;dsimp only;rw[yT hT];refine qD (λ_=>qe rfl) λ_=>?_;rw[QI hT,vG hT,kZ hT];cases qpE Q Q.depth e (o % Q.cellsOf e) with
   | none=>exact qh
   | some b=>exact qe rfl
theorem ZW{i j c e:Nat}{o k:Nat}{s g:Option Nat}(h:BR Z i j)(n:BR Z c e)(p:Gl P Z) :SR Q P EqR (Op.twoPlaces ⟨i,o,s⟩ ⟨c,k,g⟩) Z (Op.twoPlaces ⟨j,o,s⟩ ⟨e,k,g⟩):=by
 unfold Op.twoPlaces;refine zJ ?_;dsimp only;by_cases f:i<Q.globals.size
 ·have t:P.globals.size=Q.globals.size:=by rw[ZI hT]
  have r:j=i:=(p i (by omega)).fn h |>.symm;by_cases d:c=i
  ·subst d;have q:e=j:=n.fn h;subst q;subst r;simp only[bne_self_eq_false,Bool.false_or,ZI hT];rw[if_neg (by simpa using f)];exact .bndE (QO hT h f) λO a l=>.bndE (QO hT (n.mono l) f) λV b _=>qe rfl
  ·have:(i != c || decide (i>=Q.globals.size))=true:=by
    simp[Ne.symm d]
   rw[if_pos this];exact jc
 ·have:(i != c || decide (i>=Q.globals.size))=true:=by
   have:i>=Q.globals.size:=by omega
   simp[this]
  rw[if_pos this];exact jc
theorem q6h{i j e d:Nat}{o c:Nat}{s b:Option Nat}(k:IntKind)(h:BR Z i j)(g:BR Z e d)(f:Gl P Z) :SR Q P VR (Op.addrSub k ⟨i,o,s⟩ ⟨e,c,b⟩) Z (Op.addrSub k ⟨j,o,s⟩ ⟨d,c,b⟩) :=
 .bndE (ZW hT h g f) λO a l=>qe (.int _ _)
theorem q6j{i j f e:Nat}{o d:Nat}{s c:Option Nat}(b:BinOp)(h:BR Z i j)(k:BR Z f e)(g:Gl P Z) :SR Q P VR (Op.addrCmp b ⟨i,o,s⟩ ⟨f,d,c⟩) Z (Op.addrCmp b ⟨j,o,s⟩ ⟨e,d,c⟩) :=
 .bndE (ZW hT h k g) λO a l=>by
  obtain⟨x,y⟩:=a;cases b<;>first | exact qe (.bool _) | exact qq
omit hT in
theorem xE{i j:Nat}(h:BR Z i j)(b:¬ JunkSet.jk i):SR Q P EqR (shape i) Z (shape j) :=
 (Qn h).imp λO x c _ a=>by
  rcases a with⟨_,e⟩ | ⟨h,_⟩
  ·exact e
  ·exact absurd h b
omit hT in
theorem Zh{i j:Nat}(h:BR Z i j)(c:JunkSet.jk i):SR Q P (λ_ x a=>x=some (kx Q,0)/\∃e n,a=some (e,n)) (shape i) Z (shape j) :=
 (Qn h).imp λO x a _ b=>by
  rcases b with⟨h,_⟩ | ⟨_,_,h⟩
  ·exact absurd c h
  ·exact h
omit hT in
theorem q69{f:qm8->Sem Y}{a:Sem M}:SR Q P R (qlG (kx Q)>>=f) Z a:=by
 refine .bad ?_;refine Bad.bind (f:=f) ?_;show Bad Q (match Q.info? (kx Q) with
  | some i=>(pure i:Sem qm8)
  | none=>stuck "no such type")
 rw[qbB];trivial
theorem q6f{i j:Nat}{o:Nat}{s:Option Nat}(h:BR Z i j)(a:¬ JunkSet.jk i):SR Q P EqR (qpF ⟨i,o,s⟩) Z (qpF ⟨j,o,s⟩):=by
 unfold qpF;cases s with
 | some s=>exact qe rfl
 | none=>
  dsimp only;refine zJ ?_;refine .bnd (q1o h) λO _ _ l _=>.bndE (xE (h.mono l) a) λV x d=>?_;cases x with
  | none=>exact qh
  | some c=>
   obtain⟨e,n⟩:=c;dsimp only;rw[yT hT];refine qD (λ_=>qe rfl) λ_=>?_;rw[QI hT,vG hT,kZ hT];cases qpE Q Q.depth e (o % Q.cellsOf e) with
   | none=>exact qh
   | some b=>exact qe rfl
theorem q6i{i j:Nat}{o:Nat}{s:Option Nat}(k:IntKind)(n:Int)(h:BR Z i j):SR Q P VR (Op.addrMod k ⟨i,o,s⟩ n) Z (Op.addrMod k ⟨j,o,s⟩ n):=by
 by_cases a:JunkSet.jk i
 ·refine .bnd (Zh h a) λO x g l d=>?_;obtain⟨rfl,e,m,rfl⟩:=d;exact q69
 ·refine .bndE (xE h a) λO x l=>?_;cases x with
  | none=>exact qq
  | some f=>
   obtain⟨e,m⟩:=f;refine .bndE (zv hT e) λV p c=>?_;dsimp only;refine qD (λ_=>jc) λ_=>?_;exact .bndE (q6f hT (h.mono (l.trans c)) a) λU b _=>qe (.int _ _)
theorem Zg{t z:qid}{y c:Array qid}{v w x g:qhC}(h:VR Z v w)(C:VR Z x g) :SR Q P PVR (qke y t #[v,x]) Z (qke c z #[w,g]):=by
 have f:∀(p q:Option qj5),VR Z (.pointer p) (.pointer q)->SR Q P PVR (qke y t #[.pointer p,x]) Z (qke c z #[.pointer q,g]):=by
  intro p q A;unfold qke;dsimp only;refine .bndE (ZZ C) λO n l=>?_;refine qD (λ_=>?_) λ_=>?_
  ·cases A with
   | ptrNil=>exact qq
   | ptr o s h=>
    dsimp only;refine .bnd (q1n (h.mono l)) λV a b k u=>?_;obtain⟨rfl,rfl⟩:=u;exact qe ⟨.ptr _ _ (h.mono (l.trans k)),by simp⟩
  ·refine qD (λ_=>jc) λ_=>?_;cases A with
   | ptrNil=>exact qq
   | @ptr i j o s h=>
    dsimp only;by_cases B:JunkSet.jk i
    ·refine .bnd (Zh (h.mono l) B) λV x g k r=>?_;obtain⟨rfl,e,m,rfl⟩:=r;refine .bad ?_;show Bad Q (match qob Q Q.depth (kx Q) (0 / Q.cellsOf (kx Q)) o n with
      | some d=>(pure (.pointer (some ⟨i,d,s⟩)):Sem qhC)
      | none=>unsupported (.unsafePointer "Add"))
     have:qob Q Q.depth (kx Q) (0 / Q.cellsOf (kx Q)) o n=none:=by
      unfold qob;simp[q7e]
     rw[this];trivial
    ·refine .bndE (xE (h.mono l) B) λV x k=>?_;cases x with
     | none=>exact qq
     | some D=>
      obtain⟨e,m⟩:=D;dsimp only;refine zJ ?_;rw[q0b hT,QI hT,yT hT];cases qob Q Q.depth e (m / Q.cellsOf e) o n with
      | none=>exact qq
      | some d=>exact qe ⟨.ptr _ _ (h.mono (l.trans k)),by simp⟩
 cases h with
 | ptrNil=>exact f _ _ .ptrNil
 | ptr o s h=>exact f _ _ (.ptr o s h)
 | _=>exact qh
theorem q2w{t e:qid}{d a:Array qid}{v c x b:qhC}(h:VR Z v c)(f:VR Z x b) :SR Q P VR (qke d t #[v,x]) Z (qke a e #[c,b]):=(Zg hT h f).imp λ_ _ _ _ h=>h.1
theorem jh{t:qid}{v g x f:qhC}(h:VR Z v g)(G:VR Z x f):SR Q P VR (qpp t v x) Z (qpp t g f):=by
 have p:∀O,Le Z O->SR Q P VR (do
   let .pointer (some n):=v | qke #[] t #[v,x]
   let (a,c) <- qkr n
   match <- qke #[] t #[.pointer (some a),x] with
    | .pointer (some b)=>asNumber b c
    | v=>pure v) O (do
   let .pointer (some n):=g | qke #[] t #[g,f]
   let (a,c) <- qkr n
   match <- qke #[] t #[.pointer (some a),f] with
    | .pointer (some b)=>asNumber b c
    | v=>pure v):=by
  intro O l;have q:=G.mono l;have e:SR Q P VR (qke #[] t #[v,x]) O (qke #[] t #[g,f]):=q2w hT (h.mono l) q;cases h with
  | ptr o s h=>
   dsimp only;refine .bnd (jS (h.mono l)) λV a b F z=>?_;obtain⟨S,N,B,A,c,rfl,rfl,H⟩:=z;dsimp only;refine .bnd (Zg hT (.ptr B A H) (q.mono F)) λU y D L r=>?_;obtain⟨C,u⟩:=r;have k:SR Q P VR (pure y) U (pure D):=qe C;cases C with
   | ptr B A I=>exact .bnd (Kk (.number _ _ _ I)) λX i j _ w=>qe (.ptr _ _ w)
   | wild _ _=>exact absurd rfl (u.2 _)
   | _=>exact k
  | _=>exact e
 unfold qpp;refine .bndE (qC hT t) λO d l=>?_;cases d<;>first | exact p O l | exact qq
def q2E(Q:qi4)(t:qid):Bool :=
 match Q.underlying t with
 | some .unsafePointer=>false
 | _=>true
theorem qS(t:qid):SR Q P (λ_ a b=>b=a/\Q.underlying t=some a) (qlj t) Z (qlj t):=by
 refine zJ ?_;rw[kN hT];cases Q.underlying t with
 | some i=>exact qe ⟨rfl,rfl⟩
 | none=>exact qh
def q0B:BinOp->Bool
 | .eql | .neq=>true
 | _=>false
theorem qbd{c:BinOp}(f:q0B c=false){t:qid}(X:q2E Q t=true){v v' x x':qhC}(h:VR Z v v')(N:VR Z x x')(W:Gl P Z) :SR Q P VR (binOp c t v x) Z (binOp c t v' x'):=by
 have L:∀(k:IntKind) (a:Int) (D:IntKind) (b:Int),SR Q P VR (binOp c t (.int k a) (.int D b)) Z (binOp c t (.int k a) (.int D b)):=by
  intro k a D b;have T:∀c,SR Q P VR (Op.intDiv c k a b) Z (Op.intDiv c k a b):=λc=>by
   unfold Op.intDiv;refine qD (λ_=>qy hT W _) λ_=>?_;cases c<;>first | exact qe (.int _ _) | exact qh
  have q:∀c,SR Q P VR (Op.shift c k a D b) Z (Op.shift c k a D b):=λc=>by
   unfold Op.shift;refine qD (λ_=>qy hT W _) λ_=>?_;dsimp only;cases c<;>first | exact qe (.int _ _) | exact qh
  cases c<;>first
   | exact q .shl
   | exact q .shr
   | (refine qD (λ_=>qh) λ_=>?_;first | exact T .quo | exact T .rem | exact qe (.int _ _) | exact qe (.bool _))
   | exact absurd f (by decide)
 have r:c=.add->∀(p U:Option qj5) (k:IntKind) (b:Int),VR Z (.pointer p) (.pointer U)->SR Q P VR (binOp .add t (.pointer p) (.int k b)) Z (binOp .add t (.pointer U) (.int k b)):=by
  intro _ p U k b hp;refine .bnd (qS hT t) λO d d' l hd=>?_;obtain⟨rfl,hd⟩:=hd;have:SR Q P VR (qpp t (.pointer p) (.int k b)) O (qpp t (.pointer U) (.int k b)):=jh hT (hp.mono l) (.int k b);unfold q2E at X;rw[hd] at X;cases d'<;>first | exact this | cases X
 have z:∀(y:BinOp) {i j G F o s B A},BR Z i j->BR Z G F->SR Q P VR (do Op.addrCmp y (<- qkr ⟨i,o,s⟩).1 (<- qkr ⟨G,B,A⟩).1) Z (do Op.addrCmp y (<- qkr ⟨j,o,s⟩).1 (<- qkr ⟨F,B,A⟩).1):=by
  intro y i j G F o s B A S h2;refine .bnd (jS S) λO a b l e=>?_;obtain⟨_,_,_,_,_,rfl,rfl,u⟩:=e;refine .bnd (jS (h2.mono l)) λV a b I e=>?_;obtain⟨_,_,_,_,_,rfl,rfl,H⟩:=e;exact q6j hT y (u.mono I) H (W.mono (l.trans I))
 have sub:∀{i j G F o s B A},BR Z i j->BR Z G F->SR Q P VR (do Op.addrSub .u64 (<- qkr ⟨i,o,s⟩).1 (<- qkr ⟨G,B,A⟩).1) Z (do Op.addrSub .u64 (<- qkr ⟨j,o,s⟩).1 (<- qkr ⟨F,B,A⟩).1):=by
  intro i j G F o s B A S h2;refine .bnd (jS S) λO a b l e=>?_;obtain⟨_,_,_,_,_,rfl,rfl,u⟩:=e;refine .bnd (jS (h2.mono l)) λV a b I e=>?_;obtain⟨_,_,_,_,_,rfl,rfl,H⟩:=e;exact q6h hT .u64 (u.mono I) H (W.mono (l.trans I))
 have C:∀{i j o s} (k:IntKind) (n:Int),BR Z i j->SR Q P VR (do Op.addrMod k (<- qkr ⟨i,o,s⟩).1 n) Z (do Op.addrMod k (<- qkr ⟨j,o,s⟩).1 n):=by
  intro i j o s k n S;refine .bnd (jS S) λO a b l e=>?_;obtain⟨_,_,_,_,_,rfl,rfl,u⟩:=e;exact q6i hT k n u
 cases h with
 | int k a=>
  cases N with
  | int D b=>exact L k a D b
  | ptr o s g=>cases c<;>first | exact jh hT (.ptr o s g) (.int k a) | exact C k (a+1) g | exact qq | exact absurd f (by decide)
  | ptrNil=>cases c<;>first | exact jh hT .ptrNil (.int k a) | exact qq | exact absurd f (by decide)
  | _=>cases c<;>first | exact qh | exact absurd f (by decide)
 | string a=>
  cases N with
  | string b=>
   cases c<;>first
    | exact qe (.bool _)
    | exact qh
    | (refine qD (λ_=>qq) λ_=>?_;exact qe (.string _))
    | exact absurd f (by decide)
  | ptr o s g=>cases c<;>first | exact qq | exact qh | exact absurd f (by decide)
  | ptrNil=>cases c<;>first | exact qq | exact qh | exact absurd f (by decide)
  | _=>cases c<;>first | exact qh | exact absurd f (by decide)
 | ptr o s g=>
  cases N with
  | int k b=>cases c<;>first | exact r rfl _ _ k b (.ptr o s g) | exact jh hT (.ptr o s g) (.int k (-b)) | exact C k b g | exact C k (b+1) g | exact qq | exact absurd f (by decide)
  | ptr B A w=>cases c<;>first | exact sub g w | exact z .lss g w | exact z .leq g w | exact z .gtr g w | exact z .geq g w | exact qq | exact absurd f (by decide)
  | ptrNil=>cases c<;>first | exact qq | exact absurd f (by decide)
  | _=>cases c<;>first | exact qq | exact qh | exact absurd f (by decide)
 | ptrNil=>
  cases N with
  | int k b=>cases c<;>first | exact r rfl _ _ k b .ptrNil | exact jh hT .ptrNil (.int k (-b)) | exact qq | exact absurd f (by decide)
  | _=>cases c<;>first | exact qq | exact qh | exact absurd f (by decide)
 | _=>
  cases N with
  | ptr o s g=>cases c<;>first | exact qq | exact qh | exact absurd f (by decide)
  | ptrNil=>cases c<;>first | exact qq | exact qh | exact absurd f (by decide)
  | _=>cases c<;>first | exact qh | exact absurd f (by decide)
end
end
section
def q7C(Q:qi4)(t:qid):Bool :=
 match Q.info? t with
 | some i=>match i.desc with | .named n _=>n != "sync.copyChecker" | _=>true
 | none=>true
def eqB(Q:qi4):Nat->qid->Bool
 | 0,_=>false
 | n+1,t=>
  match Q.underlying t with
  | some .bool | some .string | some (.slice _) | some (.map ..) | some (.func ..)=>true
  | some (.int _)=>q7C Q t
  | some (.struct a)=>a.all λf=>f.name == "_" || eqB Q n f.type
  | some (.array _ e)=>eqB Q n e
  | _=>false
def j3{Q:qi4}{v:qhC}(e:v=.tuple #[]\/∃r,v=.chan r)(d:Nat){t:qid}(f:∀a b,Q.underlying t≠some (.chan a b))(x:qhC):Bad Q (Op.equalIn d t v x):=by
 cases d with
 | zero=>exact rfl
 | succ d=>
  unfold Op.equalIn;show Bad Q ((match Q.underlying t with | some i=>(pure i:Sem TypeDesc) | none=>stuck "no such type").bind _);cases hu:Q.underlying t with
  | none=>exact rfl
  | some c=>
   rcases e with rfl | ⟨r,rfl⟩
   ·cases c<;>cases x<;>first | exact rfl | (rename_i p;cases p<;>exact rfl)
   ·cases c<;>first | exact absurd hu (f _ _) | (cases x<;>first | exact rfl | (rename_i p;cases p<;>exact rfl))
def zZ{Q:qi4}{v:qhC}(e:v=.tuple #[]\/∃r,v=.chan r)(d:Nat){t:qid}(f:∀a b,Q.underlying t≠some (.chan a b))(x:qhC):Bad Q (Op.equalIn d t x v):=by
 cases d with
 | zero=>exact rfl
 | succ d=>
  unfold Op.equalIn;show Bad Q ((match Q.underlying t with | some i=>(pure i:Sem TypeDesc) | none=>stuck "no such type").bind _);cases hu:Q.underlying t with
  | none=>exact rfl
  | some c=>
   rcases e with rfl | ⟨r,rfl⟩
   ·cases c<;>cases x<;>first | exact rfl | (rename_i p;cases p<;>exact rfl) | (rename_i p _;cases p<;>exact rfl) | (rename_i p _ _;cases p<;>exact rfl)
   ·cases c<;>first | exact absurd hu (f _ _) | (cases x<;>first | exact rfl | (rename_i p;cases p<;>exact rfl) | (rename_i p _;cases p<;>exact rfl) | (rename_i p _ _;cases p<;>exact rfl))
def yu{Q:qi4}{n:Nat}{t:qid}(h:eqB Q n t=true):∀a b,Q.underlying t≠some (.chan a b):=by
 intro a b e;cases n with
 | zero=>cases h
 | succ n=>
  unfold eqB at h;rw[e] at h;cases h
section
variable[JunkSet]{Q P:qi4}(hT:P.toTables=Q.toTables){Z:Ren}{Y M W:Type}{R:Rel Y M}
def zM{σT:Type}{K:Ren->Prop}(g:∀Z O,Le Z O->K Z->K O){f c:Y->σT->Sem (ForInStep σT)}(l:List Y)(h:∀a∈l,∀Z b,K Z->SR Q P EqR (f a b) Z (c a b)):∀(Z:Ren) (b:σT),K Z->SR Q P EqR (forIn l b f) Z (forIn l b c):=by
 induction l with
 | nil=>intro Z b _;exact qe rfl
 | cons a l d=>
  intro Z b k;rw[qs1,qs1];refine .bndE (h a (qpi ..) Z b k) λO s lσ=>?_;cases s with
  | done b=>exact qe rfl
  | yield b=>exact d (λa e=>h a (qoH _ e)) O b (g _ _ lσ k)
include hT
theorem Zz:∀(n d:Nat) {Z:Ren} {t:qid} {x x' y y':qhC},eqB Q n t=true->VR Z x x'->VR Z y y'->Gl P Z ->SR Q P EqR (Op.equalIn d t x y) Z (Op.equalIn d t x' y'):=by
 intro n;induction n with
 | zero=>intro d Z t x x' y y' h;cases h
 | succ n ih=>
  intro d Z t x x' y y' h z g hG;cases d with
  | zero=>exact qq
  | succ d=>
   unfold Op.equalIn;refine .bnd (qS hT t) λO ty b9 l v=>?_;obtain⟨rfl,v⟩:=v;replace z:=z.mono l;replace g:=g.mono l;replace hG:=hG.mono l;unfold eqB at h;rw[v] at h;cases b9 with
   | bool=>cases z<;>first | exact qh | (cases g<;>first | exact qh | exact qe rfl)
   | string=>cases z<;>first | exact qh | (cases g<;>first | exact qh | exact qe rfl)
   | slice e=>cases z<;>first | exact qh | (cases g<;>first | exact qh | exact qe rfl)
   | map k e=>cases z<;>first | exact qh | (cases g<;>first | exact qh | exact qe rfl)
   | func a b c=>cases z<;>first | exact qh | (cases g<;>first | exact qh | exact qe rfl)
   | int k=>
    have c3:∀{i j i' j' o s o' s'},BR O i j->BR O i' j'->SR Q P EqR (do
      let (a,b):=((<- qkr ⟨i,o,s⟩).1,(<- qkr ⟨i',o',s'⟩).1)
      if a.block == b.block && a.block<(<- program).globals.size then return (<- qpF a) == (<- qpF b)
      let .named "sync.copyChecker" _:=(<- qlG t).desc | unsupported .addressObserved
      if a == b then pure true else unsupported .addressObserved) O (do
      let (a,b):=((<- qkr ⟨j,o,s⟩).1,(<- qkr ⟨j',o',s'⟩).1)
      if a.block == b.block && a.block<(<- program).globals.size then return (<- qpF a) == (<- qpF b)
      let .named "sync.copyChecker" _:=(<- qlG t).desc | unsupported .addressObserved
      if a == b then pure true else unsupported .addressObserved):=by
     intro i j i' j' o s o' s' h1 h2;refine .bnd (jS h1) λO a b l D=>?_;obtain⟨_,_,_,_,_,rfl,rfl,T⟩:=D;refine .bnd (jS (h2.mono l)) λV a b I D=>?_;obtain⟨_,_,_,_,_,rfl,rfl,C⟩:=D;dsimp only;refine zJ ?_
     rename_i L j1 o1 s1 x1 i2 j2 o2 s2 x2
     have hP:P.globals.size=Q.globals.size:=by rw[ZI hT]
     by_cases hc:(L == i2 && decide (L<Q.globals.size))=true
     ·rw[if_pos hc];simp only[qio,beq_iff_eq,decide_eq_true_eq] at hc;obtain⟨rfl,A⟩:=hc;have e:j2=j1:=C.fn (T.mono I);subst e;have e1:j2=L:=(((hG.mono l).mono I) L (by omega)).fn C |>.symm;rw[if_pos (by simp[e1,hP,A])];exact .bndE (QO hT (T.mono I) A) λU a w=>.bndE (QO hT (C.mono w) A) λX b _=>qe rfl
     ·rw[if_neg hc];refine .bad ?_;show Bad Q ((qlG t).bind _);have B:∃F,Q.info? t=some F:=by
       unfold Program.underlying at v;cases S:Q.info? t with
       | none=>rw[S] at v;cases v
       | some F=>exact⟨F,rfl⟩
      obtain⟨F,N⟩:=B;unfold q7C at h;simp only[N] at h;show Bad Q ((match Q.info? t with
       | some i=>(pure i:Sem qm8)
       | none=>stuck "no such type").bind _)
      rw[N];show Bad Q (match F.desc with
       | .named "sync.copyChecker" _=>if((⟨L,o1,s1⟩:qj5) == ⟨i2,o2,s2⟩)=true then pure true else unsupported .addressObserved
       | _=>unsupported .addressObserved)
      split
      ·rename_i u hd
       rw[hd] at h;simp at h
      ·trivial
    cases z with
    | int k1 a=>
     cases g with
     | int k2 b=>exact qD (λ_=>qe rfl) λ_=>qh
     | ptr o s hb=>
      cases a with
      | ofNat m=>cases m with
       | zero=>exact qe rfl
       | succ m=>exact qq
      | negSucc m=>exact qq
     | ptrNil=>exact qq
     | _=>exact qh
    | ptr o s hb=>
     cases g with
     | int k2 b=>
      cases b with
      | ofNat m=>cases m with
       | zero=>exact qe rfl
       | succ m=>exact qq
      | negSucc m=>exact qq
     | ptr o' s' d8=>exact c3 hb d8
     | ptrNil=>exact qq
     | _=>exact qq
    | ptrNil=>cases g<;>exact qq
    | _=>cases g<;>first | exact qh | exact qq
   | struct fs=>
    cases z with
    | agg h1 h2=>
     cases g with
     | agg h3 h4=>
      dsimp only;refine zJ ?_;rw[qaG hT];refine qD (λ_=>jc) λ_=>?_;rw[<- qmm,<- qmm];dsimp only at h;rw[qjD] at h;refine .bndE (zM (K:=λX=>Le O X) (λ_ _ l k=>k.trans l) _ (λf hf U b w=>?_) O _ (.refl O)) λU r w=>?_
      ·refine qD (λd6=>?_) λ_=>qe rfl;have d7:eqB Q n f.type=true:=by
        have:=h f (qkq.1 hf);simp only[qky,beq_iff_eq] at this;exact this.resolve_left d6
       exact .bnd (jJ hT (AsR.mono w ⟨h1,h2⟩) _) λω1 p p' H hp=>.bnd (jJ hT (AsR.mono (w.trans H) ⟨h3,h4⟩) _) λω2 q q' G S=>
        .bndE (ih d d7 (hp.mono G) S (hG.mono ((w.trans H).trans G))) λω3 r _=>qD (λ_=>qe rfl) λ_=>qe rfl
      ·obtain⟨r,u⟩:=r;cases r<;>exact qe rfl
     | _=>exact qh
    | _=>exact qh
   | array h9 e=>
    cases z with
    | agg h1 h2=>
     cases g with
     | agg h3 h4=>
      dsimp only;refine .bndE (qV hT e) λV n I=>?_;rw[qka,qka];refine .bndE (zM (K:=λX=>Le O X) (λ_ _ l k=>k.trans l) _ (λf hf U b w=>?_) V _ I) λU r w=>?_
      ·exact .bnd (jJ hT (AsR.mono w ⟨h1,h2⟩) _) λω1 p p' H hp=>.bnd (jJ hT (AsR.mono (w.trans H) ⟨h3,h4⟩) _) λω2 q q' G S=>
        .bndE (ih d h (hp.mono G) S (hG.mono ((w.trans H).trans G))) λω3 r _=>qD (λ_=>qe rfl) λ_=>qe rfl
      ·obtain⟨r,u⟩:=r;cases r<;>exact qe rfl
     | _=>exact qh
    | _=>exact qh
   | _=>cases h
theorem Kn:∀(n d:Nat) {Z:Ren} {t:qid} {x j y i:qhC},eqB Q n t=true->VR Z x j->VR Z y i ->SR Q P EqR (Op.eqGuardIn d t x y) Z (Op.eqGuardIn d t j i):=by
 intro n;induction n with
 | zero=>intro d Z t x j y i h;cases h
 | succ n L=>
  intro d Z t x j y i h s o;cases d with
  | zero=>exact qq
  | succ d=>
   unfold Op.eqGuardIn;refine .bnd (qS hT t) λO ty v l c=>?_;obtain⟨rfl,c⟩:=c;replace s:=s.mono l;replace o:=o.mono l;unfold eqB at h;rw[c] at h;cases v with
   | struct fs=>
    cases s with
    | agg I H=>
     cases o with
     | agg G F=>
      dsimp only;rw[<- qmm,<- qmm];dsimp only at h;rw[qjD] at h;refine .bndE (zM (K:=λX=>Le O X) (λ_ _ l k=>k.trans l) _ (λf N U b a=>?_) O _ (.refl O)) λU r a=>?_
      ·refine qD (λC=>?_) λ_=>qe rfl;have D:eqB Q n f.type=true:=by
        have:=h f (qkq.1 N);simp only[qky,beq_iff_eq] at this;exact this.resolve_left C
       exact .bnd (jJ hT (AsR.mono a ⟨I,H⟩) _) λω1 p T z B=>.bnd (jJ hT (AsR.mono (a.trans z) ⟨G,F⟩) _) λω2 q S w A=>
        .bndE (L d D (B.mono w) A) λω3 r _=>qD (λ_=>qe rfl) λ_=>qe rfl
      ·obtain⟨r,u⟩:=r;cases r<;>exact qe rfl
     | wild _ g=>cases i<;>first | exact qe rfl | cases g
     | _=>exact qe rfl
    | wild _ g=>cases j<;>first | exact qe rfl | cases g
    | _=>exact qe rfl
   | array a6 e=>
    cases s with
    | agg I H=>
     cases o with
     | agg G F=>
      dsimp only;refine .bndE (qV hT e) λV n l'=>?_;rw[qka,qka];refine .bndE (zM (K:=λX=>Le O X) (λ_ _ l k=>k.trans l) _ (λf N U b a=>?_) V _ l') λU r a=>?_
      ·exact .bnd (jJ hT (AsR.mono a ⟨I,H⟩) _) λω1 p T z B=>.bnd (jJ hT (AsR.mono (a.trans z) ⟨G,F⟩) _) λω2 q S w A=>
        .bndE (L d h (B.mono w) A) λω3 r _=>qD (λ_=>qe rfl) λ_=>qe rfl
      ·obtain⟨r,u⟩:=r;cases r<;>exact qe rfl
     | wild _ g=>cases i<;>first | exact qe rfl | cases g
     | _=>exact qe rfl
    | wild _ g=>cases j<;>first | exact qe rfl | cases g
    | _=>exact qe rfl
   | interface ms=>cases h
   | _=>cases s<;>first | exact qe rfl | (cases o<;>exact qe rfl)
def kV:qj0->Bool
 | .const .nilIface=>true
 | _=>false
def q9C(Q:qi4)(t:qid)(x y:qj0):Bool:=eqB Q 6 t || (kV x || kV y) && (match Q.underlying t with | some (.interface _)=>true | _=>false)
theorem qfs{f:BinOp}(j:q0B f=true){t:qid}(a:eqB Q 6 t=true){v d x c:qhC}(h:VR Z v d)(g:VR Z x c)(i:Gl P Z) :SR Q P VR (binOp f t v x) Z (binOp f t d c):=by
 have e:SR Q P VR (do pure (.bool (<- Op.equal t v x))) Z (do pure (.bool (<- Op.equal t d c))):=.bndE (Zz hT 6 _ a h g i) λO b _=>qe (.bool _);have n:SR Q P VR (do pure (.bool (!(<- Op.equal t v x)))) Z (do pure (.bool (!(<- Op.equal t d c)))):=.bndE (Zz hT 6 _ a h g i) λO b _=>qe (.bool _);cases f<;>first | exact absurd j (by decide) | skip
 ·cases h<;>first | exact e | exact .bad (Bad.bind (j3 (.inl rfl) _ (yu a) _) _) | exact .bad (Bad.bind (j3 (.inr ⟨_,rfl⟩) _ (yu a) _) _) | (cases g<;>first | exact e | exact .bad (Bad.bind (zZ (.inl rfl) _ (yu a) _) _) | exact .bad (Bad.bind (zZ (.inr ⟨_,rfl⟩) _ (yu a) _) _) | exact qe (.bool _) | exact qD (λ_=>qh) λ_=>qe (.bool _))
 ·cases h<;>first | exact n | exact .bad (Bad.bind (j3 (.inl rfl) _ (yu a) _) _) | exact .bad (Bad.bind (j3 (.inr ⟨_,rfl⟩) _ (yu a) _) _) | (cases g<;>first | exact n | exact .bad (Bad.bind (zZ (.inl rfl) _ (yu a) _) _) | exact .bad (Bad.bind (zZ (.inr ⟨_,rfl⟩) _ (yu a) _) _) | exact qe (.bool _) | exact qD (λ_=>qh) λ_=>qe (.bool _))
end
end
section
section
variable[JunkSet]{Q P:qi4}(hT:P.toTables=Q.toTables){Z:Ren}{Y M W:Type}{R:Rel Y M}
include hT
theorem qb9{o:BinOp}(u:q0B o=true){t:qid}(s:∃q,Q.underlying t=some (.interface q)){v i x g:qhC}(h:VR Z v i)(f:VR Z x g)(p:v=.nilIface\/x=.nilIface) :SR Q P VR (binOp o t v x) Z (binOp o t i g):=by
 obtain⟨q,k⟩:=s;have c:∀a b,Q.underlying t≠some (.chan a b):=λa b e=>by rw[k] at e;cases e
 have j:SR Q P EqR (Op.equal t v x) Z (Op.equal t i g):=by
  refine .bnd (qS hT t) λO w r l d=>?_;obtain⟨rfl,d⟩:=d;rw[k] at d;cases d;rcases p with rfl | rfl
  ·cases h;cases f<;>first | exact qe rfl | exact qh
  ·cases f;cases h<;>first | exact qe rfl | exact qh
 have e:SR Q P VR (do pure (.bool (<- Op.equal t v x))) Z (do pure (.bool (<- Op.equal t i g))):=.bndE j λO b _=>qe (.bool _);have n:SR Q P VR (do pure (.bool (!(<- Op.equal t v x)))) Z (do pure (.bool (!(<- Op.equal t i g)))):=.bndE j λO b _=>qe (.bool _);cases o<;>first | exact absurd u (by decide) | skip
 ·rcases p with rfl | rfl
  ·cases h;cases f<;>first | exact e | exact .bad (Bad.bind (zZ (.inl rfl) _ c _) _) | exact .bad (Bad.bind (zZ (.inr ⟨_,rfl⟩) _ c _) _)
  ·cases f;cases h<;>first | exact e | exact .bad (Bad.bind (j3 (.inl rfl) _ c _) _) | exact .bad (Bad.bind (j3 (.inr ⟨_,rfl⟩) _ c _) _)
 ·rcases p with rfl | rfl
  ·cases h;cases f<;>first | exact n | exact .bad (Bad.bind (zZ (.inl rfl) _ c _) _) | exact .bad (Bad.bind (zZ (.inr ⟨_,rfl⟩) _ c _) _)
  ·cases f;cases h<;>first | exact n | exact .bad (Bad.bind (j3 (.inl rfl) _ c _) _) | exact .bad (Bad.bind (j3 (.inr ⟨_,rfl⟩) _ c _) _)
theorem Kq{d:BinOp}{t:qid}{x y:qj0}(c:q0B d=true->q9C Q t x y=true){v f u g:qhC}(h:VR Z v f)(l:VR Z u g)(o:kV x=true->v=.nilIface)(n:kV y=true->u=.nilIface)(k:q0B d=true->∀w,(w=v\/w=u)->w≠.chan none) :SR Q P (λ_ _ _=>True) (eqGuard d t x y v u) Z (eqGuard d t x y f g):=by
 have core:q0B d=true->SR Q P (λ_ _ _=>True) (eqGuard .eql t x y v u) Z (eqGuard .eql t x y f g):=by
  intro j;have c:=c j;have i:=k j v (.inl rfl);have e:=k j u (.inr rfl);unfold q9C at c;simp only[qky,qio] at c;cases h with
  | wild _ _=>exact absurd rfl i
  | nilIface=>
   cases l with
   | nilIface=>
    refine qD (λh=>absurd h (by decide)) λ_=>?_;refine qD (λ_=>qe trivial) λp=>?_;rcases c with c | ⟨a,_⟩
    ·refine .bndE (Kn hT 6 _ c .nilIface .nilIface) λO b _=>?_;exact qD (λ_=>qq) λ_=>qe trivial
    ·exfalso;apply p;rcases a with a | a
     ·cases x<;>first | rfl | (exact absurd a (by simp[kV]))
     ·cases y<;>first | exact absurd a Bool.false_ne_true | (simp;done)
   | wild _ _=>exact absurd rfl e
   | _=>exact qe trivial
  | agg z s=>
   cases l with
   | agg r q=>
    refine qD (λh=>absurd h (by decide)) λ_=>?_;refine zJ (zJ ?_);rw[q37 hT,QI hT];refine qD (λ_=>qe trivial) λ_=>?_;rcases c with c | ⟨a,_⟩
    ·refine .bndE (Kn hT 6 _ c (.agg z s) (.agg r q)) λO b _=>?_;exact qD (λ_=>qq) λ_=>qe trivial
    ·rcases a with a | a
     ·have:=o a;cases this
     ·have:=n a;cases this
   | wild _ _=>exact absurd rfl e
   | _=>exact qe trivial
  | _=>exact qe trivial
 cases d<;>first | exact core rfl | exact qe trivial
theorem qeA{c:BinOp}(e:q0B c=true){t:qid}(d:∀a b,Q.underlying t≠some (.chan a b)){x y:qj0}{v u:qhC}(h:v=.chan none\/u=.chan none):Bad Q (do eqGuard c t x y v u;binOp c t v u):=by
 rcases h with rfl | rfl
 ·cases c<;>first | (cases e;done) | exact Bad.bind (j3 (.inr ⟨_,rfl⟩) _ d _) _
 ·cases c<;>first | (cases e;done) | (cases v<;>exact Bad.bind (zZ (.inr ⟨_,rfl⟩) _ d _) _)
omit hT in
theorem q6d{v b:qhC}(h:VR Z v b)(i:Nat):SR Q P VR (qqC v i) Z (qqC b i):=by
 cases h with
 | @tuple a j g f=>
  have e:AsR Z a j:=⟨g,f⟩;unfold qqC;dsimp only;cases hc:a[i]? with
  | none=>exact qh
  | some x=>
   have⟨y,c,d⟩:=e.get hc;rw[c];exact qe d
 | _=>exact qh
theorem qb8(t:qid){v b:qhC}(h:VR Z v b)(i:Nat):SR Q P VR (Instr.field t v i) Z (Instr.field t b i):=by
 refine .bndE (qC hT t) λO d l=>?_;cases d with
 | struct e=>
  dsimp only;cases e[i]? with
  | none=>exact qh
  | some f=>exact .bnd (qbc (h.mono l)) λV a j g c=>jJ hT c _
 | _=>exact qh
theorem qb7(r:Gl P Z)(t:qid){v c x b:qhC}(h:VR Z v c)(q:VR Z x b):SR Q P VR (qoc t v x) Z (qoc t c b):=by
 refine .bndE (xG q) λO p l=>?_;obtain⟨k,i⟩:=p;refine .bndE (qC hT t) λV d f=>?_;have g:=h.mono (l.trans f);have a:=r.mono (l.trans f);cases d with
 | array o e=>
  cases g with
  | agg w u=>
   dsimp only;refine qD (λ_=>?_) λ_=>ji hT a _ _ _ _;exact .bndE (qV hT e) λU n j=>jJ hT (AsR.mono j ⟨w,u⟩) _
  | _=>exact qh
 | string=>
  cases g with
  | string s=>
   dsimp only;split
   ·exact qe (.int _ _)
   ·exact ji hT a _ _ _ _
  | _=>exact qh
 | _=>exact qh
theorem JB(t:qid){v a:qhC}(h:VR Z v a):SR Q P VR (qqv t v) Z (qqv t a):=by
 refine .bndE (qC hT t) λO d l=>?_;cases d<;>first | exact qe (.iface t (h.mono l)) | exact qh
theorem qb2{a:UnOp}{v b:qhC}(h:VR Z v b):SR Q P VR (Op.unary a v) Z (Op.unary a b):=by
 cases h<;>cases a<;>first | exact qh | exact qq | exact qe (.int _ _) | exact qe (.bool _)
theorem q0s(w:Gl P Z){t a:qid}(r:vh Q a=true)(c:Bool){v n:qhC}(h:VR Z v n):SR Q P VR (qlE v t a c) Z (qlE n t a c):=by
 have f:∀{O:Ren} {u i:qhC},VR O u i->SR Q P VR (pure (if c then .tuple #[u,.bool true] else u):Sem qhC) O (pure (if c then .tuple #[i,.bool true] else i)):=by
  intro O u i p;cases c with
  | true=>exact qe (AsR.tuple (zm.2 (.cons p (.cons (.bool _) .nil))))
  | false=>exact qe p
 have b:∀{O:Ren} (s d:Option qid) (m:String),Le Z O->SR Q P VR (if c then do pure (.tuple #[<- qmE a,.bool false]) else qlr (.typeAssertion s d a m):Sem qhC) O (if c then do pure (.tuple #[<- qmE a,.bool false]) else qlr (.typeAssertion s d a m)):=by
  intro O s d m l;cases c with
  | true=>exact .bnd (zt hT r) λV z x _ j=>qe (AsR.tuple (zm.2 (.cons j (.cons (.bool _) .nil))))
  | false=>exact qy hT (w.mono l) (.typeAssertion s d a m)
 unfold qlE;dsimp only;refine .bndE (qC hT a) λO d l=>?_;have q:=h.mono l;cases d with
 | interface A=>
  cases q with
  | nilIface=>exact b none none "" l
  | iface g k=>
   dsimp only;refine .bndE (zv hT g) λV y o=>?_;split
   ·exact f (.iface g (k.mono o))
   ·exact b none (some g) _ (l.trans o)
  | _=>exact qh
 | _=>
  cases q with
  | nilIface=>exact b (some t) none "" l
  | iface g k=>
   dsimp only;by_cases e:g=a
   ·rw[if_pos e,if_pos e];exact f k
   ·rw[if_neg e,if_neg e];exact b (some t) (some g) "" l
  | _=>exact qh
def qbg(Q:qi4)(t:qid):Bool :=
 match Q.info? t with
 | some i=>i.size != 0
 | none=>true
theorem q68{t:qid}(h:qbg Q t=true):SR Q P (λ_ a b=>b=a/\a≠0) (sizeOf t) Z (sizeOf t):=by
 refine .bnd (xD hT t) λO i d l c=>?_;obtain⟨rfl,c⟩:=c;refine qe ⟨rfl,?_⟩;unfold qbg at h;rw[c] at h;simpa using h
def q3a(Q:qi4)(s:qid)(f:Nat):Bool :=
 match Q.underlying s with
 | some (.struct a)=>match a[f]? with | some f=>qbg Q f.type | none=>true
 | _=>true
theorem q6c{s:qid}{f:Nat}(c:q3a Q s f=true){v x:qhC}(h:VR Z v x):SR Q P VR (qs9 s v f) Z (qs9 s x f):=by
 refine .bnd (qS hT s) λO d D l r=>?_;obtain⟨rfl,r⟩:=r;unfold q3a at c;rw[r] at c;cases D with
 | struct A=>
  dsimp only at c ⊢;cases hfs:A[f]? with
  | none=>exact qh
  | some w=>
   rw[hfs] at c;dsimp only at c ⊢;refine .bnd (yZ (h.mono l)) λV a b N u=>?_;obtain⟨i,j,o,g,rfl,rfl,z⟩:=u;show SR Q P VR (fieldPlace ⟨i,o,g⟩ w>>=λp=>pure (.pointer (some p))) V (fieldPlace ⟨j,o,g⟩ w>>=λp=>pure (.pointer (some p)));refine .bnd (R:=AdR) ?_ λU p q _ k=>by obtain⟨T,S,I,G,rfl,rfl,t⟩:=k;exact qe (.ptr _ _ t)
   refine .bnd (q68 hT c) λU n L y e=>?_;obtain⟨rfl,e⟩:=e;rw[if_neg e,if_neg e];have⟨H,F,C,B⟩:=yA i j o w.offset g;rw[C,B];exact qe ⟨_,_,_,_,rfl,rfl,z.mono y⟩
 | _=>exact qh
theorem q6b(I:Gl P Z)(t:qid){v A x z:qhC}(h:VR Z v A)(H:VR Z x z):SR Q P VR (qqD t v x) Z (qqD t A z):=by
 unfold qqD;refine .bndE (xG H) λO G l=>?_;obtain⟨k,i⟩:=G;dsimp only;refine .bndE (qC hT t) λV d B=>?_;have F:=h.mono (l.trans B);have r:=I.mono (l.trans B);have fin:∀(U:Ren) (b p:Option qj5) (f:Nat) (e:qid) (g:Bool),Le V U->VR U (.pointer b) (.pointer p) ->
   SR Q P VR (match b with
    | some a=>if 0<=i/\i<f then do pure (.pointer (some (a.add (i.toNat*(<- sizeOf e))))) else if g then unsupported (.noEntry "op/indexAddr.an index out of range at an array of length 0 or 1 (ledger 616)") else qmf k i f .index
    | none=>qmf k i 0 .index) U (match p with
    | some a=>if 0<=i/\i<f then do pure (.pointer (some (a.add (i.toNat*(<- sizeOf e))))) else if g then unsupported (.noEntry "op/indexAddr.an index out of range at an array of length 0 or 1 (ledger 616)") else qmf k i f .index
    | none=>qmf k i 0 .index):=by
  intro U b p f e g q j;cases j with
  | ptrNil=>exact ji hT (r.mono q) _ _ _ _
  | @ptr D C o s j=>
   dsimp only;refine qD (λ_=>?_) λ_=>qD (λ_=>qq) λ_=>ji hT (r.mono q) _ _ _ _;refine .bndE (qV hT e) λX n u=>?_;have⟨T,S,N,L⟩:=yA D C o (i.toNat*n) s;rw[N,L];exact qe (.ptr _ _ (j.mono u))
 have y:∀(U:Ren) (b p:Option qj5) (f:Nat) (e:qid),Le V U->VR U (.pointer b) (.pointer p)->SR Q P VR (do
    let g:=f<=1 && (match <- qlj t with | .array ..=>true | _=>false)
    match b with
    | some a=>if 0<=i/\i<f then do pure (.pointer (some (a.add (i.toNat*(<- sizeOf e))))) else if g then unsupported (.noEntry "op/indexAddr.an index out of range at an array of length 0 or 1 (ledger 616)") else qmf k i f .index
    | none=>qmf k i 0 .index) U (do
    let g:=f<=1 && (match <- qlj t with | .array ..=>true | _=>false)
    match p with
    | some a=>if 0<=i/\i<f then do pure (.pointer (some (a.add (i.toNat*(<- sizeOf e))))) else if g then unsupported (.noEntry "op/indexAddr.an index out of range at an array of length 0 or 1 (ledger 616)") else qmf k i f .index
    | none=>qmf k i 0 .index):=λU b p f e q j=>
   .bndE (qC hT t) λX d u=>fin X b p f e _ (q.trans u) (j.mono u)
 cases d with
 | array f e=>
  refine .bnd (yZ F) λU a b q w=>?_;obtain⟨D,C,o,s,rfl,rfl,j⟩:=w;exact y U _ _ f e q (.ptr o s j)
 | slice e=>
  cases F with
  | sliceNil n c=>exact y V none none n e (.refl _) .ptrNil
  | slice o s n c j=>exact y V _ _ n e (.refl _) (.ptr o s j)
  | _=>exact zw
 | _=>exact zw
theorem yU(d:Gl P Z){x a:qhC}(h:VR Z x a)(y:Nat)(c:qr5):SR Q P EqR (qlg x y c) Z (qlg a y c):=by
 refine .bndE (xG h) λO b l=>?_;obtain⟨k,i⟩:=b;exact qD (λ_=>qe rfl) λ_=>ji hT (d.mono l) _ _ _ _
def ZP(Z:Ren)(a b:Option qhC):Prop:=(a=none/\b=none)\/∃x y,a=some x/\b=some y/\VR Z x y
theorem jg(r:Gl P Z)(b:Bool)(g n:Nat){q f u k o d:Option qhC}(C:ZP Z q f)(B:ZP Z u k)(s:ZP Z o d) :SR Q P EqR (qpq b g n q u o) Z (qpq b g n f k d):=by
 have j:∀(O:Ren) (m h:Nat) (c:qr5),Le Z O->SR Q P EqR (do
   let l <- match q with
    | some v=>qlg v h c
    | none=>pure 0
   pure (l,h,m)) O (do
   let l <- match f with
    | some v=>qlg v h c
    | none=>pure 0
   pure (l,h,m)):=by
  intro O m h c l;rcases C with⟨rfl,rfl⟩ | ⟨x,y,rfl,rfl,e⟩
  ·exact qe rfl
  ·exact .bndE (yU hT (r.mono l) (e.mono l) _ _) λV a _=>qe rfl
 have i:∀(O:Ren) (m:Nat) (A z w:qr5),Le Z O->SR Q P EqR (do
   let h <- match u,o with
    | some v,some _=>qlg v m A
    | some v,none=>qlg v m z
    | none,none=>pure g
    | none,some _=>stuck "Slice: max without high"
   let l <- match q with
    | some v=>qlg v h w
    | none=>pure 0
   pure (l,h,m)) O (do
   let h <- match k,d with
    | some v,some _=>qlg v m A
    | some v,none=>qlg v m z
    | none,none=>pure g
    | none,some _=>stuck "Slice: max without high"
   let l <- match f with
    | some v=>qlg v h w
    | none=>pure 0
   pure (l,h,m)):=by
  intro O m A z w l;rcases s with⟨rfl,rfl⟩ | ⟨x,y,rfl,rfl,e⟩
  ·rcases B with⟨rfl,rfl⟩ | ⟨x,y,rfl,rfl,e⟩
   ·exact j O _ _ _ l
   ·exact .bndE (yU hT (r.mono l) (e.mono l) _ _) λU a t=>j U _ _ _ (l.trans t)
  ·rcases B with⟨rfl,rfl⟩ | ⟨x,y,rfl,rfl,e⟩
   ·exact zw
   ·exact .bndE (yU hT (r.mono l) (e.mono l) _ _) λU a t=>j U _ _ _ (l.trans t)
 have D:d.isSome=o.isSome:=by rcases s with⟨rfl,rfl⟩ | ⟨x,y,rfl,rfl,_⟩<;>rfl
 unfold qpq;rw[D];rcases h3':o with _ | x
 ·have p:d=none:=by rcases s with⟨_,rfl⟩ | ⟨x,y,rfl,rfl,_⟩<;>first | rfl | cases h3'
  subst h3';subst p;exact i Z n _ _ _ (.refl Z)
 ·obtain⟨y,p,e⟩:∃y,d=some y/\VR Z x y:=by
   rcases s with⟨rfl,_⟩ | ⟨F,y,rfl,p,e⟩
   ·cases h3'
   ·cases h3';exact⟨y,p,e⟩
  subst h3';subst p;exact .bndE (yU hT r e _ _) λV a l=>i V a _ _ _ l
theorem qb5(A:Gl P Z)(t:qid){v v':qhC}(h:VR Z v v'){lo q hi u I i:Option qhC}(H:ZP Z lo q)(G:ZP Z hi u)(F:ZP Z I i) :SR Q P VR (qqh t v lo hi I) Z (qqh t v' q u i):=by
 have f:∀{O:Ren} {a b:Option qhC},Le Z O->ZP Z a b->ZP O a b:=λl h=>h.imp id λ⟨x,y,j,B,hv⟩=>⟨x,y,j,B,hv.mono l⟩;refine .bndE (qC hT t) λO d l=>?_;have h':=h.mono l;cases d with
 | string=>
  cases h' with
  | string s=>
   dsimp only;have e:i.isSome=I.isSome:=by rcases F with⟨rfl,rfl⟩ | ⟨x,y,rfl,rfl,_⟩<;>rfl
   rw[e];refine qD (λ_=>zw) λ_=>?_;exact .bndE (jg hT (A.mono l) false _ _ (f l H) (f l G) (.inl ⟨rfl,rfl⟩)) λV r p=>qe (.string _)
  | _=>exact qh
 | slice e=>
  cases h' with
  | sliceNil n c=>
   refine .bndE (jg hT (A.mono l) true _ _ (f l H) (f l G) (f l F)) λV r p=>?_;obtain⟨a,b,C⟩:=r;refine .bndE (qV hT e) λU z _=>?_;have j:(if C=a then(none:Option qj5) else Option.map (λ(x:qj5)=>x.add (a*z)) none)=none:=by split<;>rfl
   rw[j];exact qe (.sliceNil _ _)
  | @slice N L o s n c w=>
   refine .bndE (jg hT (A.mono l) true _ _ (f l H) (f l G) (f l F)) λV r p=>?_;obtain⟨a,b,C⟩:=r;refine .bndE (qV hT e) λU z k=>?_;have⟨o1,s1,j,B⟩:=yA N L o (a*z) s;by_cases g:C=a
   ·rw[if_pos g,if_pos g];exact qe (.slice _ _ _ _ (w.mono (p.trans k)))
   ·rw[if_neg g,if_neg g];simp only[qjo,j,B];exact qe (.slice _ _ _ _ (w.mono (p.trans k)))
  | _=>exact qh
 | pointer a7=>
  refine .bnd (q1s hT (A.mono l) h') λV a b p S=>?_;obtain⟨N,L,o,s,rfl,rfl,w⟩:=S;refine .bndE (qC hT a7) λU d k=>?_;cases d with
  | array n e=>
   dsimp only;have D:=(l.trans p).trans k;refine .bndE (jg hT (A.mono D) false _ _ (f D H) (f D G) (f D F)) λX r l3=>?_;obtain⟨a,b,C⟩:=r;refine .bndE (qV hT e) λT z l4=>?_;dsimp only;have⟨o1,s1,j,B⟩:=yA N L o (a*z) s;by_cases g:C=a
   ·rw[if_pos g,if_pos g];exact qe (.slice _ _ _ _ (w.mono ((k.trans l3).trans l4)))
   ·rw[if_neg g,if_neg g,j,B];exact qe (.slice _ _ _ _ (w.mono ((k.trans l3).trans l4)))
  | _=>exact qh
 | _=>exact qh
theorem q67(I:Gl P Z)(t:qid){v q:qhC}(h:VR Z v q){w i A j u g:Option qhC}(S:ZP Z w i)(N:ZP Z A j)(L:ZP Z u g) :SR Q P VR (qsa t v w A u) Z (qsa t q i j g):=by
 have c:∀{O:Ren} {a b:Option qhC},Le Z O->ZP Z a b->ZP O a b:=λl h=>h.imp id λ⟨x,y,D,C,hv⟩=>⟨x,y,D,C,hv.mono l⟩;refine .bndE (qC hT t) λO d l=>?_;have U:=h.mono l;have f:SR Q P VR (qqh t v w A u) O (qqh t q i j g):=qb5 hT (I.mono l) t U (c l S) (c l N) (c l L);cases d with
 | array n e=>
  refine .bnd (yZ U) λV a b l' B=>?_;obtain⟨i1,j1,o,s,rfl,rfl,H⟩:=B;have k:=l.trans l';refine .bndE (jg hT (I.mono k) false _ _ (c k S) (c k N) (c k L)) λX r G=>?_;obtain⟨a,b,c'⟩:=r;refine .bndE (qV hT e) λT z F=>?_;have⟨o1,s1,D,C⟩:=yA i1 j1 o (a*z) s;by_cases p:c'=a
  ·rw[if_pos p,if_pos p];exact qe (.slice _ _ _ _ (H.mono (G.trans F)))
  ·rw[if_neg p,if_neg p,D,C];exact qe (.slice _ _ _ _ (H.mono (G.trans F)))
 | _=>exact f
end
end
section
section
variable[JunkSet]{Q P:qi4}(hT:P.toTables=Q.toTables){Z:Ren}{Y M W:Type}{R:Rel Y M}
def Km{v a:qhC}(h:VR Z v a):SR Q P EqR (qqE v) Z (qqE a):=by
 cases h<;>first | exact qe rfl | exact qh
def zH(a n:Nat){v e:qhC}(h:VR Z v e):SR Q P AsR (qpj a n v) Z (qpj a n e):=by
 cases h with
 | sliceNil=>exact qe .nil
 | slice o s _ _ d=>exact ZX _ d
 | string s=>
  refine qe ⟨rfl,λi x y c f=>?_⟩;rw[c] at f;cases f;rw[qo6] at c;cases d:(s.extract 0 n).data[i]? with
  | none=>rw[d] at c;cases c
  | some b=>rw[d] at c;cases c;exact .int _ _
 | _=>exact qh
def AsR.getBang{a b:Array qhC}(h:AsR Z a b)(i:Nat):VR Z a[i]! b[i]!:=by
 rw[qpG,qpG];exact h.getD i (.bool _)
def vH{n:Nat}{f g:Nat->qhC}(h:∀i,VR Z (f i) (g i)):AsR Z ((qlH n).map f) ((qlH n).map g):=by
 refine⟨by simp,λi x y a b=>?_⟩;simp only[qo6] at a b;cases hr:(qlH n)[i]? with
 | none=>rw[hr] at a;cases a
 | some k=>rw[hr] at a b;cases a;cases b;exact h k
def AsR.zeroCells{z a:Array qhC}(h:AsR Z z a)(n:Nat):AsR Z (qkl z n) (qkl a n):=by
 unfold qkl;rw[<- h.1];exact vH λi=>h.getBang _
def ZA(n:Nat):SR Q P (λ_ _ _=>True) (askRoom n) Z (askRoom n):=by
 unfold askRoom;refine qD (λ_=>?_) λ_=>qe trivial;exact .inr ⟨rfl,_,rfl,(),rfl,trivial⟩
def NP(Q:qi4){Y:Type}:Sem Y->Prop
 | .pure _=>True
 | .load _ _ k=>∀v,NP Q (k v)
 | .store _ _ _ k=>NP Q k
 | .new o k=>zP o=false/\∀r,NP Q (k r)
 | .shape _ k=>∀x,NP Q (k x)
 | .freeze _ _ k=>NP Q k
 | .frozen _ k=>∀b,NP Q (k b)
 | .getObj _ k=>∀o,NP Q (k o)
 | .setObj _ o k=>zP o=false/\NP Q k
 | .choose _ k=>∀n,NP Q (k n)
 | .sys _ k=>∀r,NP Q (k r)
 | .program k=>NP Q (k Q)
 | .mark _ k=>NP Q k
 | .halt h=>odd h=false
def NP.bind{s:Sem Y}{f:Y->Sem W}(h:NP Q s)(d:∀a,NP Q (f a)):NP Q (s>>=f):=by
 show NP Q (s.bind f);induction s with
 | pure a=>exact d a
 | load m a k b=>exact λv=>b v (h v)
 | store m a v k b=>exact b h
 | new o k b=>exact⟨h.1,λv=>b v (h.2 v)⟩
 | shape r k b=>exact λv=>b v (h v)
 | freeze a n k b=>exact b h
 | frozen a k b=>exact λv=>b v (h v)
 | getObj r k b=>exact λv=>b v (h v)
 | setObj r o k b=>exact⟨h.1,b h.2⟩
 | choose q k b=>exact λv=>b v (h v)
 | sys c k b=>exact λv=>b v (h v)
 | program k b=>exact b Q h
 | mark m k b=>exact b h
 | halt x=>exact h
def Bad.of_np{s:Sem Y}{f:Y->Sem W}(h:NP Q s)(d:∀a,Bad Q (f a)):Bad Q (s>>=f):=by
 show Bad Q (s.bind f);induction s with
 | pure a=>exact d a
 | load m a k b=>exact λv=>b v (h v)
 | store m a v k b=>exact b h
 | new o k b=>exact⟨h.1,λv=>b v (h.2 v)⟩
 | shape r k b=>exact λv=>b v (h v)
 | freeze a n k b=>exact b h
 | frozen a k b=>exact λv=>b v (h v)
 | getObj r k b=>exact λv=>b v (h v)
 | setObj r o k b=>exact⟨h.1,b h.2⟩
 | choose q k b=>exact λv=>b v (h v)
 | sys c k b=>exact λv=>b v (h v)
 | program k b=>exact b Q h
 | mark m k b=>exact b h
 | halt x=>exact h
theorem np_holds(a:qj5)(c:Nat):NP Q (qr6 a c):=λx=>by
 cases x with
 | none=>trivial
 | some p=>trivial
def Yk(c e n:Nat)(base:Option qj5)(x:qhC):NP Q (qrv c e n base x):=by
 have d:∀b:Bool,NP Q (if(!b)=true then(pure true:Sem Bool) else match x with
   | .slice (some b) _ _=>do pure (!(<- qr6 b (n*c)) || base.any (·.block == b.block))
   | _=>pure false):=λb=>by
  split
  ·trivial
  ·split
   ·exact NP.bind (np_holds _ _) λ_=>trivial
   ·trivial
 unfold qrv;cases base with
 | none=>exact d true
 | some a=>exact NP.bind (np_holds _ _) λp=>NP.bind (s:=frozen _) (λb=>trivial) λq=>d _
def q4e{v a:qhC}(h:VR Z v a):(∃b d n c,v=.slice b n c/\a=.slice d n c/\VR Z (.pointer b) (.pointer d))\/∀b n c,v≠.slice b n c:=by
 cases h with
 | sliceNil n c=>exact .inl ⟨none,none,n,c,rfl,rfl,.ptrNil⟩
 | slice o s n c e=>exact .inl ⟨_,_,n,c,rfl,rfl,.ptr o s e⟩
 | _=>exact .inr λb n c=>by simp
def VR.slice_of{b d:Option qj5}(a:VR Z (.pointer b) (.pointer d))(n c:Nat):VR Z (.slice b n c) (.slice d n c):=by
 cases a with
 | ptrNil=>exact .sliceNil n c
 | ptr o s a=>exact .slice o s n c a
def qgc(Q:qi4)(a:Array qid):Bool :=
 (match a[0]? with
  | some c=>match Q.underlying c with | some (.slice e)=>vh Q e | _=>true
  | none=>true) &&
 (match a[1]? with
  | some b=>match Q.underlying b with | some (.int _)=>false | _=>true
  | none=>true)
include hT in
theorem q8z(hG:Gl P Z){L:Array qid}{t:qid}{a a':Array qhC}(h:AsR Z a a')(hB:qgc Q L=true) :SR Q P VR (qlz L t a) Z (qlz L t a'):=by
 unfold qgc at hB;simp only[qio] at hB;obtain⟨p,v⟩:=hB;unfold qlz;cases ht0:L[0]? with
 | none=>exact qh
 | some st=>
  rw[ht0] at p;cases h0:a[0]? with
  | none=>exact qh
  | some s0=>
   have⟨k0,e0,hs⟩:=h.get h0;cases h1:a[1]? with
   | none=>exact qh
   | some x=>
    have⟨x',S,I⟩:=h.get h1;rw[e0,S];dsimp only;refine .bnd (qS hT st) λO d d' l hd=>?_;obtain⟨rfl,hd⟩:=hd;dsimp only at p;rw[hd] at p;cases d' with
    | slice e=>
     dsimp only at p ⊢;rcases q4e (hs.mono l) with⟨b,b',g,w,rfl,rfl,hb⟩ | d6
     ·dsimp only;refine .bndE (qV hT e) λV f l1=>?_;cases ht1:L[1]? with
      | none=>
       dsimp only;simp only[qiC,if_false,qmF,if_true,false_or,pure_bind];have LL:=l.trans l1;have LB:=l1;refine .bndE (Km (I.mono LL)) λU n N=>?_;have H:=LL.trans N;have u:=hb.mono (LB.trans N);refine qD (λ_=>?_) λ_=>?_
       ·refine .bnd (zH f n (I.mono H)) λX c c' q D=>?_;have F:=u.mono q;cases F with
        | ptrNil=>exact qe (.sliceNil _ _)
        | @ptr i j o s r=>
         dsimp only;have⟨o1,s1,S,e2⟩:=yA i j o (g*f) s;rw[S,e2];exact .bnd (jE (zm.1 D) 0 r) λT _ _ y _=>qe (.slice _ _ _ _ (r.mono y))
       ·refine .bndE (zv hT e) λX ti q=>?_;refine qD (λ_=>?_) λ_=>?_
        ·exact .bnd (R:=λ_ _ _=>False) (qy hT (hG.mono (H.trans q)) _) λ_ _ _ _ hf=>hf.elim
        ·refine .bndE (zv hT e) λω2 b0 y=>?_;refine qD (λ_=>?_) λ_=>?_
         ·exact .bad (Bad.bind (Bad.of_np (Yk _ _ _ _ _) λb=>by cases b<;>trivial) _)
         ·refine .bndE vV λω3 nc l4=>?_;refine .bndE (zv hT e) λω4 a9 l5=>?_;refine .bnd (ZA _) λω5 _ _ l6 _=>?_;have L6:=((((q.trans y).trans l4).trans l5).trans l6);refine .bnd (zH f g ((u.mono L6).slice_of g w)) λω6 c c' l7 D=>?_;refine .bnd (zH f n (I.mono ((H.trans L6).trans l7))) λω7 d d' l8 C=>?_;refine .bnd (zt hT p) λω8 z z' l9 hz=>?_;refine .bnd (vT ((((D.mono l8).append C).mono l9).append (hz.cells.zeroCells _))) λω9 a b c9 G=>?_;obtain⟨i,j,rfl,rfl,A⟩:=G;exact qe (.slice _ _ _ _ A)
      | some xt=>
       rw[ht1] at v;dsimp only at v ⊢;refine .bnd (qS hT xt) λU dx e5 q B=>?_;obtain⟨rfl,B⟩:=B;rw[B] at v;cases e5 with
       | int k=>cases v
       | _=>
        simp only[qiC,if_false,qmF,if_true,false_or,pure_bind];have LL:=(l.trans l1).trans q;have LB:=l1.trans q;refine .bndE (Km (I.mono LL)) λU n N=>?_;have H:=LL.trans N;have u:=hb.mono (LB.trans N);refine qD (λ_=>?_) λ_=>?_
        ·refine .bnd (zH f n (I.mono H)) λX c c' q D=>?_;have F:=u.mono q;cases F with
         | ptrNil=>exact qe (.sliceNil _ _)
         | @ptr i j o s r=>
          dsimp only;have⟨o1,s1,S,e2⟩:=yA i j o (g*f) s;rw[S,e2];exact .bnd (jE (zm.1 D) 0 r) λT _ _ y _=>qe (.slice _ _ _ _ (r.mono y))
        ·refine .bndE (zv hT e) λX ti q=>?_;refine qD (λ_=>?_) λ_=>?_
         ·exact .bnd (R:=λ_ _ _=>False) (qy hT (hG.mono (H.trans q)) _) λ_ _ _ _ hf=>hf.elim
         ·refine .bndE (zv hT e) λω2 b0 y=>?_;refine qD (λ_=>?_) λ_=>?_
          ·exact .bad (Bad.bind (Bad.of_np (Yk _ _ _ _ _) λb=>by cases b<;>trivial) _)
          ·refine .bndE vV λω3 nc l4=>?_;refine .bndE (zv hT e) λω4 a9 l5=>?_;refine .bnd (ZA _) λω5 _ _ l6 _=>?_;have L6:=((((q.trans y).trans l4).trans l5).trans l6);refine .bnd (zH f g ((u.mono L6).slice_of g w)) λω6 c c' l7 D=>?_;refine .bnd (zH f n (I.mono ((H.trans L6).trans l7))) λω7 d d' l8 C=>?_;refine .bnd (zt hT p) λω8 z z' l9 hz=>?_;refine .bnd (vT ((((D.mono l8).append C).mono l9).append (hz.cells.zeroCells _))) λω9 a b c9 G=>?_;obtain⟨i,j,rfl,rfl,A⟩:=G;exact qe (.slice _ _ _ _ A)
     ·split
      ·exact absurd rfl (d6 _ _ _)
      ·exact qh
    | _=>exact qh
end
end
section
def qc2(Q:qi4)(a:Array qid):Bool:=match a[0]? with | some t=>(match Q.underlying t with | some (.chan _ _)=>false | _=>true) | none=>true
section
variable[JunkSet]{Q P:qi4}(hT:P.toTables=Q.toTables){Z:Ren}{Y M W:Type}{R:Rel Y M}
include hT
theorem qdw{g:Array qid}{t:qid}{a z:Array qhC}(h:AsR Z a z):SR Q P VR (qpt g t a) Z (qpt g t z):=by
 unfold qpt;cases ht0:g[0]? with
 | none=>exact qh
 | some G=>
  cases h0:a[0]? with
  | none=>exact qh
  | some d=>
   have⟨I,F,A⟩:=h.get h0;cases h1:a[1]? with
   | none=>exact qh
   | some x=>
    have⟨H,D,v⟩:=h.get h1;rw[F,D];dsimp only;refine .bndE (qC hT G) λO u l=>?_;cases u with
    | slice e=>
     dsimp only;rcases q4e (A.mono l) with⟨b,N,w,y,rfl,rfl,C⟩ | i
     ·dsimp only;refine .bndE (Km (v.mono l)) λV n r=>.bndE (qV hT e) λU f q=>?_;refine .bnd (zH f _ (v.mono ((l.trans r).trans q))) λX c L p B=>?_;have k:=C.mono ((r.trans q).trans p);cases k with
      | ptrNil=>exact qe (.int _ _)
      | ptr o s j=>exact .bnd (jE (zm.1 B) 0 j) λT _ _ p _=>qe (.int _ _)
     ·split
      ·exact absurd rfl (i _ _ _)
      ·exact qh
    | _=>exact qh
theorem qfr{i:Array qid}{t:qid}{a r:Array qhC}(g:qc2 Q i=true)(h:AsR Z a r):SR Q P VR (qrf i t a) Z (qrf i t r):=by
 unfold qrf;cases ht0:i[0]? with
 | none=>exact qh
 | some B=>
  cases h0:a[0]? with
  | none=>exact qh
  | some d=>
   have⟨F,A,x⟩:=h.get h0;rw[A];dsimp only;refine .bnd (qS hT B) λO u s l j=>?_;obtain⟨rfl,j⟩:=j;have f:=x.mono l;cases s with
   | array n e=>exact qe (.int _ _)
   | pointer q=>
    refine .bndE (qC hT q) λV u l=>?_;cases u with
    | array n e=>exact qe (.int _ _)
    | _=>exact qh
   | string=>cases f<;>first | exact qh | exact qe (.int _ _)
   | slice e=>cases f<;>first | exact qh | exact qe (.int _ _)
   | map k e=>
    cases f with
    | mapNil=>exact qe (.int _ _)
    | map y=>
     refine .bnd (jR y) λV o C D v=>?_;cases v with
     | @map z p c w=>
      dsimp only;have:z.size=p.size:=w.length;rw[this];exact qe (.int _ _)
     | _=>exact qh
    | _=>exact qh
   | chan a b=>
    unfold qc2 at g;rw[ht0] at g;dsimp only at g;rw[j] at g;cases g
   | _=>exact qh
theorem qfu{f:Array qid}{t:qid}{a k:Array qhC}(c:qc2 Q f=true)(h:AsR Z a k):SR Q P VR (qrg f t a) Z (qrg f t k):=by
 unfold qrg;cases ht0:f[0]? with
 | none=>exact qh
 | some r=>
  cases h0:a[0]? with
  | none=>exact qh
  | some d=>
   have⟨s,q,p⟩:=h.get h0;rw[q];dsimp only;refine .bnd (qS hT r) λO u o l g=>?_;obtain⟨rfl,g⟩:=g;have i:=p.mono l;cases o with
   | array n e=>exact qe (.int _ _)
   | pointer j=>
    refine .bndE (qC hT j) λV u l=>?_;cases u with
    | array n e=>exact qe (.int _ _)
    | _=>exact qh
   | slice e=>cases i<;>first | exact qh | exact qe (.int _ _)
   | chan a b=>
    unfold qc2 at c;rw[ht0] at c;dsimp only at c;rw[g] at c;cases c
   | _=>exact qh
omit hT in
theorem qdt{v c x b:qhC}(h:VR Z v c)(a:VR Z x b):SR Q P VR (Builtin.min2 v x) Z (Builtin.min2 c b):=by
 cases h with
 | int k n=>cases a<;>first | exact qe (.int _ _) | exact qh | exact qq
 | string s=>
  cases a with
  | string u=>exact(qe (VR.string _):SR Q P VR (pure (Value.string _)) Z (pure (Value.string _)))
  | _=>first | exact qh | exact qq
 | ptr o s d=>exact qq
 | _=>cases a<;>first | exact qh | exact qq
omit hT in
theorem qdu{v c x b:qhC}(h:VR Z v c)(a:VR Z x b):SR Q P VR (qsf v x) Z (qsf c b):=by
 cases h with
 | int k n=>cases a<;>first | exact qe (.int _ _) | exact qh | exact qq
 | string s=>
  cases a with
  | string u=>exact(qe (VR.string _):SR Q P VR (pure (Value.string _)) Z (pure (Value.string _)))
  | _=>first | exact qh | exact qq
 | ptr o s d=>exact qq
 | _=>cases a<;>first | exact qh | exact qq
omit hT in
theorem q4c{f g:qhC->qhC->Sem qhC}(o:∀{O:Ren} {v b x d:qhC},VR O v b->VR O x d->SR Q P VR (f v x) O (g b d)):∀{l c:List qhC} {Z:Ren} {v b:qhC},LsR (VR Z) l c->VR Z v b ->SR Q P VR (l.foldlM f v) Z (c.foldlM g b):=by
 intro l;induction l with
 | nil=>intro c Z v b h e;cases h;exact qe e
 | cons a l i=>
  intro c Z v b h e;cases h with
  | cons p n=>
   rw[qrw,qrw];exact .bnd (o e p) λO x d lσ j=>i (n.imp λ_ _ k=>k.mono lσ) j
omit hT in
theorem qfp{e:Array qid}{t:qid}{a d:Array qhC}(h:AsR Z a d):SR Q P VR (qpe e t a) Z (qpe e t d):=by
 have c:=zm.1 h;unfold qpe;generalize a.toList=l at c ⊢;generalize d.toList=l' at c ⊢;cases c with
 | nil=>exact qh
 | cons b f=>exact q4c (λh b=>qdt h b) f b
omit hT in
theorem qfq{e:Array qid}{t:qid}{a d:Array qhC}(h:AsR Z a d):SR Q P VR (qrh e t a) Z (qrh e t d):=by
 have c:=zm.1 h;unfold qrh;generalize a.toList=l at c ⊢;generalize d.toList=l' at c ⊢;cases c with
 | nil=>exact qh
 | cons b f=>exact q4c (λh b=>qdu h b) f b
def QF(Q:qi4)(t:qid):Bool:=match Q.underlying t with | some (.slice e)=>vh Q e | _=>true
theorem qba{g:Array qid}{t:qid}{a v:Array qhC}(h:AsR Z a v)(f:(match g[0]? with | some st=>QF Q st | none=>true)=true):SR Q P VR (qoh g t a) Z (qoh g t v):=by
 unfold qoh;cases ht0:g[0]? with
 | none=>exact qh
 | some C=>
  rw[ht0] at f;cases h0:a[0]? with
  | none=>exact qh
  | some d=>
   have⟨H,B,y⟩:=h.get h0;rw[B];dsimp only at f ⊢;refine .bnd (qS hT C) λO u b l q=>?_;obtain⟨rfl,q⟩:=q;unfold QF at f;rw[q] at f;have r:=y.mono l;have fin:∀U,SR Q P VR (pure (.tuple #[]):Sem qhC) U (pure (.tuple #[])):=λU=>qe (AsR.tuple .nil);cases r with
   | mapNil=>cases b<;>exact fin _
   | sliceNil n c=>cases b<;>exact fin _
   | @map i j k=>
    have A:SR Q P VR (do
      let .map _ clock <- getObj i | stuck "clear: map expected"
      setObj i (.map #[] clock)
      pure (.tuple #[])) O (do
      let .map _ clock <- getObj j | stuck "clear: map expected"
      setObj j (.map #[] clock)
      pure (.tuple #[])):=by
     refine .bnd (jR k) λV o F p x=>?_;cases x with
     | map c G=>exact .bnd (jQ (k.mono p) (.map c .nil)) λU _ _ _ _=>fin U
     | _=>exact qh
    cases b<;>exact A
   | slice o s n c k=>
    cases n with
    | zero=>cases b<;>exact fin _
    | succ n=>
     cases b with
     | slice e=>
      refine .bnd (zt hT f) λV z D p w=>?_;exact .bnd (jE (zm.1 (w.cells.zeroCells _)) 0 (k.mono p)) λU _ _ _ _=>fin U
     | _=>exact qh
   | _=>cases b<;>exact qh
theorem q2y(hG:Gl P Z){t:qid}(p:QF Q t=true){v A x y:qhC}(h:VR Z v A)(S:VR Z x y):SR Q P VR (qp8 t v x) Z (qp8 t A y):=by
 refine .bnd (qS hT t) λO d d' l s=>?_;obtain⟨rfl,s⟩:=s;unfold QF at p;rw[s] at p;cases d' with
 | slice e=>
  dsimp only at p ⊢;refine .bndE (ZZ (h.mono l)) λV G D=>.bndE (ZZ (S.mono (l.trans D))) λU a8 I=>?_;refine .bndE (zv hT e) λX ti H=>?_;have L:=((l.trans D).trans I).trans H;have HG:=hG.mono L;have c:∀(O:Ren) (m:String) {f F:PUnit->Sem qhC},Le X O->SR Q P VR ((qlr (.error m):Sem PUnit)>>=f) O ((qlr (.error m):Sem PUnit)>>=F):=λO m f F lσ=>.bnd (R:=λ_ _ _=>False) (qy hT (HG.mono lσ) _) λ_ _ _ _ T=>T.elim;have g:∀(O:Ren) (n:Nat) {z k:Array qhC} (q w:Nat),AsR O z k->SR Q P VR (do
    let a <- newRow e ((qlH n).map λx=>z[x % z.size]!)
    pure (.slice (some a) q w)) O (do
    let a <- newRow e ((qlH n).map λx=>k[x % k.size]!)
    pure (.slice (some a) q w)):=λO n z k q w o=>by
   refine .bnd (vT (by rw[<- o.1];exact vH λi=>o.getBang _)) λω9 a b N u=>?_;obtain⟨i,j,rfl,rfl,r⟩:=u;exact qe (.slice _ _ _ _ r)
  refine qD (λ_=>?_) λ_=>?_
  ·refine qD (λ_=>c X _ (.refl X)) λ_=>qD (λ_=>c X _ (.refl X)) λ_=>?_;exact .bndE vV λω1 n C=>c ω1 _ C
  ·refine .bnd (ZA _) λω1 _ _ C _=>.bndE (qV hT e) λω2 B l5=>?_;refine qD (λ_=>g ω2 _ _ _ .nil) λ_=>?_;exact .bnd (zt hT p) λω4 z k _ o=>g ω4 _ _ _ o.cells
 | _=>exact qh
theorem q0v{t:qid}(p:QF Q t=true)(n:Nat){k f:Array (Nat × qhC)}(h:LsR (q2m Z) k.toList f.toList):SR Q P VR (qrx t n k) Z (qrx t n f):=by
 refine .bnd (qS hT t) λO d F l u=>?_;obtain⟨rfl,u⟩:=u;unfold QF at p;rw[u] at p;cases F with
 | slice e=>
  dsimp only at p ⊢;refine .bndE (qV hT e) λV c A=>?_;refine qD (λ_=>jc) λ_=>?_;have fin:∀(U:Ren) {z g:Array qhC},Le V U->AsR U z g->SR Q P VR (do
    let some cells:=qnp (λi=>some (i*c,c)) ((qlH (n*c)).map (λx=>z[x % z.size]!)) k.toList | stuck "buildSlice: a part of the wrong size"
    pure (.slice (some (<- newRow e cells)) n n)) U (do
    let some cells:=qnp (λi=>some (i*c,c)) ((qlH (n*c)).map (λx=>g[x % g.size]!)) f.toList | stuck "buildSlice: a part of the wrong size"
    pure (.slice (some (<- newRow e cells)) n n)):=by
   intro U z g q o;have C:LsR (q2m U) k.toList f.toList:=h.imp λ_ _ x=>⟨x.1,x.2.mono ((l.trans A).trans q)⟩;have D:AsR U ((qlH (n*c)).map (λx=>z[x % z.size]!)) ((qlH (n*c)).map (λx=>g[x % g.size]!)):=by rw[<- o.1];exact vH λi=>o.getBang _
   rcases q58 (λi=>some (i*c,c)) _ _ _ _ C D with⟨y,w⟩ | ⟨r,G,y,w,B⟩
   ·rw[y,w];exact qh
   ·rw[y,w];refine .bnd (vT B) λX a b _ v=>?_;obtain⟨i,j,rfl,rfl,s⟩:=v;exact qe (.slice _ _ _ _ s)
  refine qD (λ_=>fin V (.refl V) .nil) λ_=>?_;exact .bnd (zt hT p) λU z g q o=>fin U q o.cells
 | _=>exact qh
theorem q6a(t:qid){r b:Option qhC}(h:ZP Z r b):SR Q P VR (qpu t r) Z (qpu t b):=by
 have fin:∀O,SR Q P VR (do pure (.map (some (<- newObj (.map #[] 0))))) O (do pure (.map (some (<- newObj (.map #[] 0))))):=λO=>.bnd (Kk (.map 0 .nil)) λV i j _ a=>qe (.map a);unfold qpu;rcases h with⟨rfl,rfl⟩ | ⟨x,y,rfl,rfl,c⟩
 ·exact fin Z
 ·refine .bndE (qC hT t) λO d l=>?_;cases d with
  | map k e=>exact .bndE (ZZ (c.mono l)) λV n _=>fin V
  | _=>exact qh
theorem Y5(z:Bool):∀(n d:Nat) {Z:Ren} {t:qid} {x i:qhC},eqB Q n t=true->VR Z x i->SR Q P (λ_ _ _=>True) (qm0 z d t x) Z (qm0 z d t i):=by
 intro n;induction n with
 | zero=>intro d Z t x i h;cases h
 | succ n w=>
  intro d Z t x i h g;cases d with
  | zero=>exact qq
  | succ d=>
   unfold qm0;refine .bnd (qS hT t) λO F j l a=>?_;obtain⟨rfl,a⟩:=a;replace g:=g.mono l;unfold eqB at h;rw[a] at h;cases j with
   | interface G=>cases h
   | struct H=>
    cases g with
    | agg v u=>
     dsimp only;rw[<- qmm,<- qmm];dsimp only at h;rw[qjD] at h;refine .bndE (zM (K:=λX=>Le O X) (λ_ _ l k=>k.trans l) _ (λf y U b c=>?_) O _ (.refl O)) λU r c=>qe trivial;refine qD (λq=>?_) λ_=>qe rfl;have s:eqB Q n f.type=true:=by
      have:=h f (qkq.1 y);simp only[qky,beq_iff_eq] at this;exact this.resolve_left q
     exact .bnd (jJ hT (AsR.mono c ⟨v,u⟩) _) λω1 p A C o=>.bnd (w d s o) λω3 _ _ _ _=>qe rfl
    | _=>exact qh
   | array B e=>
    cases g with
    | agg v u=>
     dsimp only;rw[qka,qka];refine .bndE (zM (K:=λX=>Le O X) (λ_ _ l k=>k.trans l) _ (λf y U b c=>?_) O _ (.refl O)) λU r c=>qe trivial;exact .bndE (qV hT e) λω0 n D=>.bnd (jJ hT (AsR.mono (c.trans D) ⟨v,u⟩) _) λω1 p A C o=>.bnd (w d h o) λω3 _ _ _ _=>qe rfl
    | _=>exact qh
   | _=>cases g<;>exact qe trivial
def q3t(Z:Ren)(a b:Option (Nat × qhC)):Prop:=(a=none/\b=none)\/∃i x y,a=some (i,x)/\b=some (i,y)/\VR Z x y
omit hT in
theorem q6o(d:TypeDesc){x c y b:qhC}(f:VR Z x c)(e:VR Z y b):qoE d c b=qoE d x y:=by
 have a:∀{u:qhC},qcm u=true->∀d v,qoE d u v=none/\qoE d v u=none:=by
  intro u g d v;cases u<;>first | (cases g;done) | (cases d<;>cases v<;>exact⟨rfl,rfl⟩)
 cases f with
 | wild _ h=>rw[(a h d _).1,(a (u:=.chan none) rfl d _).1]
 | _=>first
  | (cases d<;>rfl)
  | (
    cases e with
   | wild _ h=>rw[(a h d _).2,(a (u:=.chan none) rfl d _).2]
   | _=>cases d<;>rfl)
omit hT in
theorem q56(d:TypeDesc){k f:qhC}(o:VR Z k f):∀{c a:List qlp} (i:Nat),LsR (kI Z) c a ->(qoF d k c i=none/\qoF d f a i=none)\/∃r j,qoF d k c i=some r/\qoF d f a i=some j/\q3t Z r j:=by
 intro c;induction c with
 | nil=>intro a i h;cases h;exact .inr ⟨none,none,rfl,rfl,.inl ⟨rfl,rfl⟩⟩
 | cons e c n=>
  intro a i h;cases h with
  | cons l g=>
   simp only[qoF,q6o d o l.key];cases qoE d k e.key with
   | none=>exact .inl ⟨rfl,rfl⟩
   | some b=>
    cases b with
    | true=>exact .inr ⟨_,_,rfl,rfl,.inr ⟨i,_,_,rfl,rfl,l.val⟩⟩
    | false=>exact n (i+1) g
theorem q0t{t:qid}(p:eqB Q 6 t=true){k j:qhC}:∀{c a:List qlp} {Z:Ren} (i:Nat),VR Z k j->Gl P Z->LsR (kI Z) c a ->SR Q P q3t (qmg t k c i) Z (qmg t j a i):=by
 intro c;induction c with
 | nil=>intro a Z i d g h;cases h;exact qe (.inl ⟨rfl,rfl⟩)
 | cons e c o=>
  intro a Z i d g h;cases h with
  | cons n f=>
   refine .bndE (Zz hT 6 _ p d n.key g) λO b l=>?_;refine qD (λ_=>qe (.inr ⟨i,_,_,rfl,rfl,n.val.mono l⟩)) λ_=>?_;exact o (i+1) (d.mono l) (g.mono l) (f.imp λ_ _ x=>x.mono l)
theorem Ko{t:qid}(j:eqB Q 6 t=true){k f:qhC}{b a:List qlp}(g:VR Z k f)(o:Gl P Z)(h:LsR (kI Z) b a) :SR Q P q3t (qmz t k b) Z (qmz t f a):=by
 refine .bndE (qC hT t) λO d l=>?_;have i:LsR (kI O) b a:=h.imp λ_ _ x=>x.mono l;rcases q56 d (g.mono l) 0 i with⟨e,c⟩ | ⟨r,p,e,c,n⟩
 ·rw[e,c];exact q0t hT j 0 (g.mono l) (o.mono l) i
 ·rw[e,c];exact qe n
end
end
section
section
variable[JunkSet]{Q P:qi4}(hT:P.toTables=Q.toTables){Z:Ren}{Y M W:Type}{R:Rel Y M}
include hT
def KI(Q:qi4)(t:qid):Bool:=match Q.underlying t with | some (.map k e)=>eqB Q 6 k && vh Q e | _=>true
theorem q8w(I:Gl P Z){t:qid}(f:KI Q t=true)(c:Bool){m w k n:qhC}(hm:VR Z m w)(A:VR Z k n):SR Q P VR (qny t m k c) Z (qny t w n c):=by
 refine .bnd (qS hT t) λO d L l u=>?_;obtain⟨rfl,u⟩:=u;unfold KI at f;rw[u] at f;cases L with
 | map kt B=>
  dsimp only at f ⊢;simp only[qio] at f;have fin:∀(V:Ren) {h a:Array qlp},Le Z V->LsR (kI V) h.toList a.toList->SR Q P VR (do
    qm0 h.isEmpty 10000 kt k
    let (v,e) <- match <- qmz kt k h.toList with
     | some (_,v)=>pure (v,true)
     | none=>pure (<- qmE B,false)
    pure (if c then .tuple #[v,.bool e] else v)) V (do
    qm0 a.isEmpty 10000 kt n
    let (v,e) <- match <- qmz kt n a.toList with
     | some (_,v)=>pure (v,true)
     | none=>pure (<- qmE B,false)
    pure (if c then .tuple #[v,.bool e] else v)):=by
   intro V h a lτ q;have g:a.isEmpty=h.isEmpty:=by
    have:=q.length;simp only[qqw] at this;simp[Array.isEmpty,this]
   rw[g];refine .bnd (Y5 hT _ 6 _ f.1 (A.mono lτ)) λU _ _ s _=>?_;refine .bnd (Ko hT f.1 (A.mono (lτ.trans s)) (I.mono (lτ.trans s)) (q.imp λ_ _ x=>x.mono s)) λX r S l2 F=>?_;have b:∀(T:Ren) {v j:qhC} (e:Bool),VR T v j->SR Q P VR (pure (if c then .tuple #[v,.bool e] else v):Sem qhC) T (pure (if c then .tuple #[j,.bool e] else j)):=by
    intro T v j e p;cases c with
    | true=>exact qe (AsR.tuple (zm.2 (.cons p (.cons (.bool _) .nil))))
    | false=>exact qe p
   rcases F with⟨rfl,rfl⟩ | ⟨i,x,y,rfl,rfl,p⟩
   ·exact .bnd (zt hT f.2) λT z N _ D=>b T false D
   ·exact b X true p
  cases(hm.mono l) with
  | mapNil=>exact fin O l .nil
  | map H=>
   refine .bnd (jR H) λV o o' C G=>?_;cases G with
   | map c q=>exact fin V (l.trans C) q
   | _=>exact zw
  | _=>exact zw
 | _=>exact qh
omit hT in
theorem LsR.get{Y M:Type}{R:Y->M->Prop}{l:List Y}{m:List M}(h:LsR R l m)(i:Nat):(l[i]?=none/\m[i]?=none)\/∃x y,l[i]?=some x/\m[i]?=some y/\R x y:=by
 induction h generalizing i with
 | nil=>exact .inl ⟨by simp,by simp⟩
 | cons b c a=>
  cases i with
  | zero=>exact .inr ⟨_,_,rfl,rfl,b⟩
  | succ i=>simpa using a i
omit hT in
theorem q5e{l k:Array qlp}(h:LsR (kI Z) l.toList k.toList)(i:Nat){f g:qlp->qlp}(o:∀e n,kI Z e n->kI Z (f e) (g n)):LsR (kI Z) (l.modify i f).toList (k.modify i g).toList:=by
 rw[q81] at h ⊢;simp only[qqw,qot] at h ⊢;refine⟨by simpa using h.1,λj x y d c=>?_⟩;rw[qmq] at d c;by_cases e:i=j
 ·rw[if_pos e] at d c;cases hx':l[j]? with
  | none=>rw[hx'] at d;cases d
  | some a=>
   cases hy':k[j]? with
   | none=>rw[hy'] at c;cases c
   | some b=>
    rw[hx'] at d;rw[hy'] at c;cases d;cases c;exact o _ _ (h.2 j a b hx' hy')
 ·rw[if_neg e] at d c;exact h.2 j x y d c
def q89(Q:qi4)(s d:qid):Bool:=match Q.underlying s,Q.underlying d with | some (.int _),some (.int _)=>true | _,_=>false
theorem q6e{s d:qid}(c:q89 Q s d=true){v g:qhC}(h:VR Z v g):SR Q P VR (convert s d v) Z (convert s d g):=by
 refine .bnd (qS hT s) λO a j l f=>.bnd (qS hT d) λV b i o e=>?_;obtain⟨rfl,f⟩:=f;obtain⟨rfl,e⟩:=e;unfold q89 at c;rw[f,e] at c;cases j with
 | int q=>
  cases i with
  | int p=>
   cases h with
   | int k n=>exact qe (.int _ _)
   | _=>first | exact qq | exact qh
  | _=>cases c
 | _=>cases i<;>cases c
end
end
section
inductive zV [JunkSet] (Z:Ren):qmt->qmt->Prop
 | value {v v':qhC}:VR Z v v'->zV Z (.value v) (.value v')
 | skip:zV Z .skip .skip
 | enter {f:qjf} {a a':Array qhC}:JunkSet.okf f->AsR Z a a'->zV Z (.enter f a) (.enter f a')
 | round {l l':Nat} (f:qjf) {t t':Array qhC} {a b:qkk}:BR Z l l'->AsR Z t t'->JunkSet.okg f->JunkSet.okc a->JunkSet.okc b->zV Z (.round l f t a b) (.round l' f t' a b)
 | defer {d d':qk6}:ku Z d d'->zV Z (.defer d) (.defer d')
 | recover:zV Z .recover .recover
def biB(Q:qi4)(b:Builtin)(a:Array qid):Bool :=
 match b with
 | .append=>qgc Q a
 | .len | .cap=>qc2 Q a
 | .copy | .min | .max | .recover | .panic=>true
 | .clear=>match a[0]? with | some st=>QF Q st | none=>true
 | _=>false
structure Pair[JunkSet](Q P:qi4):Prop where
 bis:∀b ts,JunkSet.okb b ts->biB Q b ts=true
 tables:P.toTables=Q.toTables
 funcs:∀f,JunkSet.okf f->∃fq fp,Q.funcs[f]?=some fq/\P.funcs[f]?=some fp/\fq.body.isNone=false/\fp.body.isNone=false/\(fq.name == "runtime.NumGoroutine")=false/\(fp.name == "runtime.NumGoroutine")=false
 meths:∀n,JunkSet.okm n->∀t i m,Q.info? t=some i->i.methods.find? (·.name == n)=some m->m.path=#[]/\∃f b,m.func=some (f,b)/\JunkSet.okf f/\∀e,Q.underlying t=some (.pointer e)->b=true
 nometh:∀i,Q.info? 0=some i->(i.methods.find? (·.name == "")).isNone=true
section
variable[JunkSet]{Q P:qi4}(H:Pair Q P){Z:Ren}{Y M W:Type}{R:Rel Y M}
def yH{l a:Nat}(h:BR Z l a):SR Q P Zr (qqF l) Z (qqF a) :=
 .bnd (jR h) λO o c _ b=>by
  cases b with
  | loop h=>exact qe h
  | _=>exact qh
def q0D:∀{e:List (Tmp × qhC)} {d:List (Tmp × qhC)} {t f:Array qhC},LsR (λa b=>b.1=a.1/\VR Z a.2 b.2) e d->AsR Z t f ->AsR Z (e.foldl (λc (x:Tmp × qhC)=>c.setIfInBounds x.1 x.2) t) (d.foldl (λc (x:Tmp × qhC)=>c.setIfInBounds x.1 x.2) f):=by
 intro e;induction e with
 | nil=>intro d t f h g;cases h;exact g
 | cons p e j=>
  intro d t f h g;cases h with
  | @cons _ q _ n l i=>
   obtain⟨a,x⟩:=p;obtain⟨b,y⟩:=q;obtain⟨rfl,k⟩:=l;simp only[List.foldl_cons];exact j i (g.set _ k)
def qde{c:List Tmp}:∀{a d:List qhC},LsR (VR Z) a d->LsR (λ(a b:Tmp × qhC)=>b.1=a.1/\VR Z a.2 b.2) (c.zip a) (c.zip d):=by
 induction c with
 | nil=>intro a d h;exact .nil
 | cons p c e=>
  intro a d h;cases h with
  | nil=>exact .nil
  | cons f g=>exact .cons ⟨rfl,f⟩ (e g)
def qb1{l c:Nat}(h:BR Z l c){a e:Array qhC}(d:AsR Z a e):SR Q P zV (Instr.yield l a) Z (Instr.yield c e):=by
 refine .bnd (yH h) λO r f lσ b=>?_;dsimp only;rw[b.params,<- d.1,b.fn,b.assign,b.body];refine qD (λ_=>zw) λ_=>q48 ?_;refine qe (.round _ (h.mono lσ) ?_ b.okF b.okA b.okB);rw[<- qo5,<- qo5,qry,qry];exact q0D (qde (zm.1 (d.mono lσ))) b.tmps
include H
theorem Y7{f:qjf}(b:JunkSet.okf f){a c:Array qhC}(d:AsR Z a c):SR Q P zV (callFunc f a) Z (callFunc f c):=by
 have⟨l,n,k,j,i,h,g,e⟩:=H.funcs f b;refine zJ ?_;rw[k,j];dsimp only;rw[g,e,i,h];exact qe (.enter b d)
theorem q8v(n:String)(B:JunkSet.okm n)(g c:Nat)(C:(g=0↔c=0)){t:qid}{v j:qhC}(h:VR Z v j) :SR Q P (λO a b=>b.1=a.1/\JunkSet.okf a.1/\VR O a.2 b.2) (method g t v n) Z (method c t j n):=by
 cases g with
 | zero=>exact qq
 | succ k=>
  cases c with
  | zero=>omega
  | succ L=>
   unfold method;refine .bnd (xD H.tables t) λO i w l s=>?_;obtain⟨rfl,s⟩:=s;cases hm:w.methods.find? (·.name == n) with
   | none=>exact qh
   | some m=>
    have⟨A,f,b,D,q,o⟩:=H.meths n B t w m s hm;dsimp only;rw[A,D];have e:(follow (#[]:Array qrz).toList t (.val v))=pure (t,.val v):=rfl;have F:(follow (#[]:Array qrz).toList t (.val j))=pure (t,.val j):=rfl;rw[e,F];have p:SR Q P VR (receiverAt t (.val v) b (if(#[]:Array qrz).isEmpty=true then some ((n.splitOn ".").getLastD n) else none)) O (receiverAt t (.val j) b (if(#[]:Array qrz).isEmpty=true then some ((n.splitOn ".").getLastD n) else none)):=by
     refine .bnd (qS H.tables t) λV d G y u=>?_;obtain⟨rfl,u⟩:=u;have x:=h.mono (l.trans y);cases G with
     | pointer e=>
      have:=o e u;subst this;exact qe x
     | _=>
      cases b with
      | true=>exact qh
      | false=>exact qe x
    exact SR.bnd (S:=λO a b=>b.1=a.1/\JunkSet.okf a.1/\VR O a.2 b.2) (f:=λr=>pure (f,r)) (f':=λr=>pure (f,r)) p λV r I _ z=>qe ⟨rfl,q,z⟩
theorem q0u(p:Gl P Z)(n:String)(k:JunkSet.okm n){v e:qhC}(h:VR Z v e){a g:Array qhC}(o:AsR Z a g):SR Q P zV (callMethod v n a) Z (callMethod e n g):=by
 cases h with
 | iface t i=>
  refine zJ ?_;have:P.types.size=Q.types.size:=by rw[H.tables]
  rw[this];refine .bnd (q8v H n k _ _ Iff.rfl i) λO a b l d=>?_;obtain⟨f,r⟩:=a;obtain⟨s,q⟩:=b;obtain⟨rfl,c,j⟩:=d;exact Y7 H c ((AsR.one j).append (o.mono l))
 | nilIface=>exact(qy H.tables p .nilDeref:SR Q P zV (qlr .nilDeref) Z (qlr .nilDeref))
 | _=>exact qh
omit [JunkSet] H in
theorem Zo{Y:Type}(a:∀i,Q.info? 0=some i->(i.methods.find? (·.name == "")).isNone=true)(f:qm8->Sem Y)(b:∀i,i.methods.find? (·.name == "")=none->Bad Q (f i)):Bad Q (qlG 0>>=f):=by
 show Bad Q ((match Q.info? 0 with | some i=>(pure i:Sem qm8) | none=>stuck "no such type").bind f);cases h:Q.info? 0 with
 | none=>exact rfl
 | some i=>exact b i (by simpa using a i h)
theorem q0i(a:Array qhC):Bad Q (callMethod (.iface 0 .nilIface) "" a):=by
 show Bad Q ((method (Q.types.size+_) 0 .nilIface "").bind _);refine Bad.bind ?_ _;generalize Q.types.size+_=n;cases n with
 | zero=>exact rfl
 | succ n=>
  unfold method;refine Zo H.nometh _ λi b=>?_;rw[b];exact rfl
theorem qa6:Bad Q (do
  if(<- nilAhead ((<- program).types.size+Made.depth) 0 .nilIface "") != some false then
   unsupported (.noEntry "op/nilCheck.the method's receiver behind this interface value is a nil pointer, or cannot be seen to be none, and the arguments act or may panic (ledger 612)")
  pure (Next.value (.func (.method "") #[.iface 0 .nilIface] #[]))):=by
 show Bad Q ((nilAhead (Q.types.size+Made.depth) 0 .nilIface "").bind _);cases hn:Q.types.size+Made.depth with
 | zero=>exact rfl
 | succ n=>
  refine Bad.bind ?_ _;unfold nilAhead;refine Zo H.nometh _ λi a=>?_;rw[a];exact rfl
omit H in
theorem qft:SR Q P EqR (sys .env) Z (sys .env):=.inr ⟨rfl,_,rfl,λr=>⟨r,rfl,rfl⟩⟩
theorem q49:SR Q P EqR qoi Z qoi:=by
 unfold qoi;refine .bndE qft λO r l=>?_;cases r with
 | strings e=>
  dsimp only;refine zJ ?_;have:P.godebug=Q.godebug:=by rw[H.tables]
  rw[this];exact qe rfl
 | _=>exact qh
theorem Kj{R:Rel qhC qhC}{v a:qhC}(c:Gl P Z)(h:VR Z v a):SR Q P R (Instr.panic v) Z (Instr.panic a):=by
 cases h with
 | iface t b=>exact(yh (.iface t b):SR Q P R (goPanic _) Z (goPanic _))
 | nilIface=>
  show SR Q P R (qoi>>=_) Z (qoi>>=_);refine .bndE (q49 H) λO n l=>?_;exact qD (λ_=>yh .nilIface) λ_=>qy H.tables (c.mono l) _
 | _=>exact qh
theorem yg{s d:Sem qhC}(h:SR Q P VR s Z d):SR Q P zV (do pure (.value (<- s))) Z (do pure (.value (<- d))):=.bnd h λO a b _ c=>qe (.value c)
theorem sr_u{s c:Sem Unit}(h:SR Q P (λ_ _ _=>True) s Z c):SR Q P zV (do s;pure .skip) Z (do c;pure .skip):=.bnd h λO a b _ _=>qe .skip
theorem q6g(f:Gl P Z){b:Builtin}{e:Array qid}{t:qid}{g:Array Bool}(d:biB Q b e=true){a h:Array qhC}(c:AsR Z a h) :SR Q P zV (builtin b e t g a) Z (builtin b e t g h):=by
 cases b<;>first | (cases d;done) | skip
 ·exact yg H (q8z H.tables f c d)
 ·exact yg H (qfu H.tables d c)
 ·exact yg H (qba H.tables c d)
 ·exact yg H (qdw H.tables c)
 ·exact yg H (qfr H.tables d c)
 ·exact yg H (qfq c)
 ·exact yg H (qfp c)
 ·exact yg H (Kj H f (c.getD 0 .nilIface))
 ·exact qe .recover
theorem Zy{v d:qhC}(h:VR Z v d){a f:Array qhC}(e:AsR Z a f):SR Q P ku (Deferred.ofValue v a) Z (Deferred.ofValue d f):=by
 cases h with
 | func g l k j i=>exact qe (.mk (.fn g ⟨j,i⟩) (AsR.append ⟨l,k⟩ e))
 | nilFunc=>exact qe (.mk .nil e)
 | meth n b c=>exact qe (.bound rfl (by simp[qln]) ⟨_,_,rfl⟩)
 | _=>exact qh
theorem vU(j:Gl P Z){d g:qk6}(h:ku Z d g):SR Q P zV (invoke d.target d.args) Z (invoke g.target g.args):=by
 obtain⟨t,a⟩:=d;obtain⟨y,B⟩:=g;rcases h with⟨k,c⟩ | ⟨p,o,_⟩
 case bound=>
  dsimp only at p o ⊢;subst p;unfold invoke;dsimp only;rw[o];exact .bad (q0i H _)
 dsimp only at k c ⊢;cases k with
 | fn u v=>
  cases u with
  | func f i=>exact Y7 H i (c.append v)
  | yield l=>exact qb1 l c
 | meth n s=>
  unfold invoke;dsimp only;cases h0:a[0]? with
  | none=>exact qh
  | some r=>
   have⟨z,e,q⟩:=c.get h0;rw[e,<- c.1];exact q0u H j n s q (c.extract _ _)
 | nil=>exact(qy H.tables j .nilDeref:SR Q P zV (qlr .nilDeref) Z (qlr .nilDeref))
 | builtin b x t A w=>exact q6g H j (H.bis _ _ w) c
 | collected l=>exact qh
end
end
section
inductive qH [JunkSet] (Q:qi4):qj0->Prop
 | tmp (t:Tmp):qH Q (.tmp t)
 | const {v:qhC}:vJ v->qH Q (.const v)
 | global {g:Nat}:g<Q.globals.size->qH Q (.global g)
 | func {f:qjf}:JunkSet.okf f->qH Q (.func f)
def jq[JunkSet](Q:qi4)(l:List qj0):Prop:=∀x∈l,qH Q x
inductive kB [JunkSet] (Q:qi4):Call->Prop
 | value {f:qj0} {a:Array qj0} {ts:Array qid}:qH Q f->jq Q a.toList->kB Q ⟨.value f,a,ts⟩
 | invoke {r:qj0} {n:String} {a:Array qj0} {ts:Array qid}:qH Q r->JunkSet.okm n->jq Q a.toList->kB Q ⟨.invoke r n,a,ts⟩
 | builtin {b:Builtin} {a:Array qj0} {ts:Array qid}:JunkSet.okb b ts->jq Q a.toList->kB Q ⟨.builtin b,a,ts⟩
inductive qP [JunkSet] (Q:qi4):Op->Prop
 | move {x:qj0}:qH Q x->qP Q (.move x)
 | assign {x:qj0}:qH Q x->qP Q (.assign x)
 | pick {c a b:qj0}:qH Q c->qH Q a->qH Q b->qP Q (.pick c a b)
 | alloc {t:qid}:vh Q t=true->qP Q (.alloc t)
 | box {t:qid} {x:qj0}:qH Q x->qP Q (.box t x)
 | build {t:qid} {ps:Array (Nat × qj0)}:vh Q t=true->jq Q (ps.toList.map (·.2))->qP Q (.build t ps)
 | buildSlice {t:qid} {n:Nat} {ps:Array (Nat × qj0)}:QF Q t=true->jq Q (ps.toList.map (·.2))->qP Q (.buildSlice t n ps)
 | load {t:qid} {x:qj0}:qH Q x->qP Q (.load t x)
 | store {t:qid} {a x:qj0}:qH Q a->qH Q x->qP Q (.store t a x)
 | nilCheck {x:qj0}:qH Q x->qP Q (.nilCheck x)
 | arith {op:BinOp} {t u:qid} {x y:qj0}:q0B op=false->q2E Q t=true->qH Q x->qH Q y->qP Q (.binOp op t x y u)
 | eql {op:BinOp} {t u:qid} {x y:qj0}:q0B op=true->q9C Q t x y=true->qH Q x->qH Q y->qP Q (.binOp op t x y u)
 | unOp {op:UnOp} {t:qid} {x:qj0}:qH Q x->qP Q (.unOp op t x)
 | convert {s d:qid} {x:qj0}:q89 Q s d=true->qH Q x->qP Q (.convert s d x)
 | makeInterface {t:qid} {x:qj0}:qH Q x->qP Q (.makeInterface t x)
 | makeFunc {f:qjf} {a b:Array qj0}:JunkSet.okf f->jq Q a.toList->jq Q b.toList->qP Q (.makeFunc (.func f) a b)
 | makeMap {t:qid} {r:Option qj0}:jq Q r.toList->qP Q (.makeMap t r)
 | makeSlice {t:qid} {l c:qj0}:QF Q t=true->qH Q l->qH Q c->qP Q (.makeSlice t l c)
 | slice {t:qid} {x:qj0} {l h m:Option qj0}:qH Q x->jq Q l.toList->jq Q h.toList->jq Q m.toList->qP Q (.slice t x l h m)
 | fieldAddr {t:qid} {x:qj0} {f:Nat}:q3a Q t f=true->qH Q x->qP Q (.fieldAddr t x f)
 | field {t:qid} {x:qj0} {f:Nat}:qH Q x->qP Q (.field t x f)
 | indexAddr {t:qid} {x i:qj0}:qH Q x->qH Q i->qP Q (.indexAddr t x i)
 | index {t:qid} {x i:qj0}:qH Q x->qH Q i->qP Q (.index t x i)
 | lookup {t:qid} {x i:qj0} {c:Bool}:KI Q t=true->qH Q x->qH Q i->qP Q (.lookup t x i c)
 | mapUpdate {t:qid} {m k x:qj0}:KI Q t=true->qH Q m->qH Q k->qH Q x->qP Q (.mapUpdate t m k x)
 | insert {t:qid} {m k x:qj0}:KI Q t=true->qH Q m->qH Q k->qH Q x->qP Q (.insert t m k x)
 | typeAssert {x:qj0} {t a:qid} {c:Bool}:vh Q a=true->qH Q x->qP Q (.typeAssert x t a c)
 | extract {x:qj0} {i:Nat}:qH Q x->qP Q (.extract x i)
 | call {c:Call}:kB Q c->qP Q (.call c)
 | defer {c:Call}:kB Q c->qP Q (.defer c)
 | panic {x:qj0}:qH Q x->qP Q (.panic x)
section
variable[JunkSet]{Q P:qi4}(H:Pair Q P){Z:Ren}{e e':qj0->qhC}
def xL(d:∀x,qH Q x->VR Z (e x) (e' x)){a:Array qj0}(f:jq Q a.toList):AsR Z (a.map e) (a.map e'):=by
 refine⟨by simp,λi x y b c=>?_⟩;rw[qo6] at b c;cases h:a[i]? with
 | none=>rw[h] at b;cases b
 | some o=>
  rw[h] at b c;cases b;cases c;exact d o (f o (by rw[qkq];exact qk4 h))
def q1A(f:∀x,qH Q x->VR Z (e x) (e' x)){a:Array (Nat × qj0)}(b:jq Q (a.toList.map (·.2))) :LsR (q2m Z) (a.map λ(x:Nat × qj0)=>(x.1,e x.2)).toList (a.map λ(x:Nat × qj0)=>(x.1,e' x.2)).toList:=by
 simp only[Array.toList_map];generalize a.toList=l at b;induction l with
 | nil=>exact .nil
 | cons p l c=>exact .cons ⟨rfl,f _ (b _ (qpi ..))⟩ (c λx d=>b x (qoH _ d))
def YW(b:∀x,qH Q x->VR Z (e x) (e' x)){o:Option qj0}(a:jq Q o.toList):ZP Z (o.map e) (o.map e'):=by
 cases o with
 | none=>exact .inl ⟨rfl,rfl⟩
 | some x=>exact .inr ⟨_,_,rfl,rfl,b x (a x (by simp))⟩
def JK(a:∀v,e (.const v)=v){x:qj0}(h:kV x=true):e x=.nilIface:=by
 unfold kV at h;split at h
 ·exact a _
 ·cases h
include H
theorem xF(a:∀x,qH Q x->VR Z (e x) (e' x)){c:Call}(h:kB Q c)(t:qid):SR Q P ku (resolve e c t) Z (resolve e' c t):=by
 cases h with
 | value g b=>exact Zy H (a _ g) (xL a b)
 | invoke d f b=>exact qe (.mk (.meth _ f) ((AsR.one (a _ d)).append (xL a b)))
 | builtin i b=>exact qe (.mk (.builtin _ _ _ _ i) (xL a b))
def qc5:Op->Bool
 | .mapUpdate .. | .insert ..=>true
 | _=>false
theorem q1q(g:∀x,qH Q x->VR Z (e x) (e' x))(r:Gl P Z)(Y:Inj Z)(B:∀v,e (.const v)=v){o:qjx}(M:qP Q o.op)(A:qc5 o.op=false):SR Q P zV (ql0 e o) Z (ql0 e' o):=by
 have T:=H.tables;obtain⟨V,R,X,N,after,guard⟩:=o;dsimp only at M A;cases M with
 | move h=>exact qe (.value (g _ h))
 | assign h=>exact qe (.value (g _ h))
 | pick j i q=>
  refine .bndE (q8y (g _ j)) λO b l=>?_;refine qe (.value ?_);cases b with
  | true=>exact(g _ i).mono l
  | false=>exact(g _ q).mono l
 | alloc h=>exact yg H (qbe T h)
 | box h=>exact yg H (qfv _ (g _ h))
 | build j i=>exact yg H (qbb T j (q1A g i))
 | buildSlice j i=>exact yg H (q0v T j _ (q1A g i))
 | load h=>exact yg H (q8x T _ (g _ h))
 | store j i=>exact sr_u H (q66 T _ (g _ j) (g _ i))
 | @nilCheck x h=>
  have D:=g _ h;unfold ql0;dsimp only;generalize e x=v at D ⊢;generalize e' x=v' at D ⊢;have k:SR Q P zV (pure (.value v)) Z (pure (.value v')):=qe (.value D);cases D with
  | ptrNil=>exact qy T r .nilDeref
  | nilIface=>exact qy T r .nilDeref
  | nilFunc=>exact qy T r .nilDeref
  | func U j i q s=>
   cases U with
   | func f S=>exact k
   | yield hb=>exact k
  | wild _ h=>cases v'<;>first | exact k | (cases h;done) | (rename_i p;cases p<;>first | exact k | (cases h;done)) | (rename_i p _ _;cases p<;>first | exact k | (cases h;done))
  | meth n a c=>exact .bad (qa6 H)
  | _=>exact k
 | arith j i q s=>
  refine yg H (.bnd (Kq T (λh=>by rw[j] at h;cases h) (g _ q) (g _ s) ?_ ?_ ?_) λO _ _ l _=>qbd T j i ((g _ q).mono l) ((g _ s).mono l) (r.mono l))
  ·exact λz=>JK B z
  ·exact λz=>JK B z
  ·exact λh=>by rw[j] at h;cases h
 | @eql R t u x y j i q s=>
  have I:∀a b,Q.underlying t≠some (.chan a b):=by
   unfold q9C at i;simp only[qky,qio] at i;rcases i with i | ⟨_,C⟩
   ·exact yu i
   ·intro a b e;rw[e] at C;cases C
  by_cases L:e x=.chan none\/e y=.chan none
  ·exact .bad (Bad.bind (qeA T j I L) _)
  have F:∀w,(w=e x\/w=e y)->w≠.chan none:=λw h e'=>L (by rcases h with rfl | rfl;exact .inl e';exact .inr e');refine yg H (.bnd (Kq T (λ_=>i) (g _ q) (g _ s) (λz=>JK B z) (λz=>JK B z) (λ_=>F)) λO _ _ l _=>?_);unfold q9C at i;simp only[qky,qio] at i;rcases i with i | ⟨i,C⟩
  ·exact qfs T j i ((g _ q).mono l) ((g _ s).mono l) (r.mono l)
  ·refine qb9 T j ?_ ((g _ q).mono l) ((g _ s).mono l) (i.imp (JK B) (JK B));split at C
   ·exact⟨_,‹_›⟩
   ·cases C
 | unOp h=>exact yg H (qb2 T (g _ h))
 | convert j i=>exact yg H (q6e T j (g _ i))
 | makeInterface h=>exact yg H (JB T _ (g _ h))
 | makeFunc j i q=>exact qe (.value (.func (.func _ j) (xL g i).1 (xL g i).2 (xL g q).1 (xL g q).2))
 | makeMap h=>exact yg H (q6a T _ (YW g h))
 | makeSlice j i q=>exact yg H (q2y T r j (g _ i) (g _ q))
 | slice j i q s=>exact yg H (q67 T r _ (g _ j) (YW g i) (YW g q) (YW g s))
 | fieldAddr j i=>exact yg H (q6c T j (g _ i))
 | field h=>exact yg H (qb8 T _ (g _ h) _)
 | indexAddr j i=>exact yg H (q6b T r _ (g _ j) (g _ i))
 | index j i=>exact yg H (qb7 T r _ (g _ j) (g _ i))
 | lookup j i q=>exact yg H (q8w T r j _ (g _ i) (g _ q))
 | mapUpdate j i q s=>cases A
 | insert j i q s=>cases A
 | typeAssert j i=>exact yg H (q0s T r j _ (g _ i))
 | extract h=>exact yg H (q6d (g _ h) _)
 | call h=>exact .bnd (xF H g h _) λO d W l G=>vU H (r.mono l) G
 | defer h=>exact .bnd (xF H g h _) λO d W l G=>qe (.defer G)
 | panic h=>exact yg H (Kj H r (g _ h))
end
end
section
inductive qA [JunkSet] (Q:qi4):qkk->Prop
 | skip:qA Q .skip
 | region {id:Nat} {ops:Array qjx} {d:Bool}:(∀o∈ops.toList,qP Q o.op)->qA Q (.region id ops d)
 | seq {a b:qkk}:qA Q a->qA Q b->qA Q (.seq a b)
 | cond {c:qj0} {a b:qkk}:qH Q c->qA Q a->qA Q b->qA Q (.cond c a b)
 | block {id:Nat} {c:qkk}:qA Q c->qA Q (.block id c)
 | loop {c:qkk}:qA Q c->qA Q (.loop c)
 | rangeFunc {f:qj0} {ps:Array Tmp} {a c:qkk}:qH Q f->qA Q a->qA Q c->qA Q (.rangeFunc f ps a c)
 | exit (id:Nat):qA Q (.exit id)
 | scope {c:qkk}:qA Q c->qA Q (.scope c)
 | label (l:Nat):qA Q (.label l)
 | goto (l:Nat):qA Q (.goto l)
 | ret:qA Q .ret
inductive zp [JunkSet] (Q:qi4) (Z:Ren):qm1->qm1->Prop
 | code {c:qkk}:qA Q c->zp Q Z (.code c) (.code c)
 | inBlock (id:Nat):zp Q Z (.inBlock id) (.inBlock id)
 | inLoop {c:qkk}:qA Q c->zp Q Z (.inLoop c) (.inLoop c)
 | inScope {c:qkk}:qA Q c->zp Q Z (.inScope c) (.inScope c)
 | inRegion {ops:Array qjx} (l:List Nat):(∀o∈ops.toList,qP Q o.op)->zp Q Z (.inRegion ops l) (.inRegion ops l)
 | inRangeFunc {l l':Nat}:BR Z l l'->zp Q Z (.inRangeFunc l) (.inRangeFunc l')
 | endRangeFunc {l l':Nat}:BR Z l l'->zp Q Z (.endRangeFunc l) (.endRangeFunc l')
 | beginRound:zp Q Z .beginRound .beginRound
structure Jq[JunkSet](Z:Ren)(a b:qn6):Prop where
 v:VR Z a.v b.v
 rcv:b.recovered=a.recovered
 goexit:b.goexit=a.goexit
inductive vd [JunkSet] (Z:Ren):FrameMode->FrameMode->Prop
 | run:vd Z .run .run
 | returning:vd Z .returning .returning
 | panicking {l l':List qn6}:LsR (Jq Z) l l'->vd Z (.panicking l) (.panicking l')
def OBR(Z:Ren)(a b:Option Nat):Prop:=(a=none/\b=none)\/∃i j,a=some i/\b=some j/\BR Z i j
structure qx[JunkSet](Q P:qi4)(Z:Ren)(f f':qi5):Prop where
 fn:f'.fn=f.fn
 same:∃g,Q.funcs[f.fn]?=some g/\P.funcs[f.fn]?=some g
 okf:Q.inits.idxOf? f.fn=none
 tmps:AsR Z f.tmps f'.tmps
 todo:LsR (zp Q Z) f.todo f'.todo
 defers:LsR (ku Z) f.defers f'.defers
 mode:vd Z f.mode f'.mode
 kind:f'.kind=f.kind
 round:OBR Z f.roundOf f'.roundOf
section
variable[JunkSet]{Q P:qi4}{Z O:Ren}
def zp.mono(l:Le Z O){a b:qm1}(h:zp Q Z a b):zp Q O a b:=by
 cases h with
 | code h=>exact .code h
 | inBlock id=>exact .inBlock id
 | inLoop h=>exact .inLoop h
 | inScope h=>exact .inScope h
 | inRegion l h=>exact .inRegion l h
 | inRangeFunc h=>exact .inRangeFunc (h.mono l)
 | endRangeFunc h=>exact .endRangeFunc (h.mono l)
 | beginRound=>exact .beginRound
def Jq.mono(l:Le Z O){a b:qn6}(h:Jq Z a b):Jq O a b:=⟨h.v.mono l,h.rcv,h.goexit⟩
def vd.mono(l:Le Z O){a b:FrameMode}(h:vd Z a b):vd O a b:=by
 cases h with
 | run=>exact .run
 | returning=>exact .returning
 | panicking h=>exact .panicking (h.imp λ_ _ k=>k.mono l)
def OBR.mono(l:Le Z O){a b:Option Nat}(h:OBR Z a b):OBR O a b:=h.imp id λ⟨i,j,e,d,c⟩=>⟨i,j,e,d,c.mono l⟩
def qx.mono(l:Le Z O){f a:qi5}(h:qx Q P Z f a):qx Q P O f a :=
 ⟨h.fn,h.same,h.okf,h.tmps.mono l,h.todo.imp λ_ _ k=>k.mono l,h.defers.imp λ_ _ k=>k.mono l,h.mode.mono l,h.kind,h.round.mono l⟩
structure ve[JunkSet](Q P:qi4)(Z:Ren)(g g':qhD):Prop where
 frame:qx Q P Z g.frame g'.frame
 callers:LsR (qx Q P Z) g.callers g'.callers
 st:g.status=.running
 st':g'.status=.running
 dy:g.dying=none
 dy':g'.dying=none
def kO(Z:Ren):VR Z qhE undef:=AsR.tuple .nil
def qx.eval(e:Gl P Z)(k:P.globals.size=Q.globals.size){f b:qi5}(h:qx Q P Z f b){x:qj0}(a:qH Q x):VR Z (f.eval x) (b.eval x):=by
 cases a with
 | tmp t=>exact h.tmps.getD t (kO Z)
 | const c=>exact c.vr Z
 | @global g j=>exact .ptr 0 none (e g (by omega))
 | func d=>exact .func (.func _ d) rfl (λi x y a=>by simp at a) rfl (λi x y a=>by simp at a)
def qx.finish{f f':qi5}(h:qx Q P Z f f'){v n:qhC}(x:VR Z v n):qx Q P Z (f.finish v) (f'.finish n):=by
 obtain⟨B,p,o,c,q,r,A⟩:=f;obtain⟨z,e,d,b,g,j,t⟩:=f';have s:=h.todo;dsimp only at s;unfold qpH;dsimp only;cases s with
 | nil=>exact h
 | cons w k=>
  cases w with
  | @inRegion u l a=>
   cases l with
   | nil=>exact h
   | cons i l=>
    dsimp only;refine⟨h.fn,h.same,h.okf,?_,.cons (.inRegion l a) k,h.defers,h.mode,h.kind,h.round⟩;dsimp only;split
    ·exact h.tmps.set _ x
    ·exact h.tmps
  | inRangeFunc y=>exact⟨h.fn,h.same,h.okf,h.tmps,.cons (.endRangeFunc y) k,h.defers,h.mode,h.kind,h.round⟩
  | beginRound=>exact⟨h.fn,h.same,h.okf,h.tmps,k,h.defers,h.mode,h.kind,h.round⟩
  | _=>exact h
def qx.raise{f j:qi5}(h:qx Q P Z f j){l p:List qn6}(i:LsR (Jq Z) l p):qx Q P Z (f.raise l) (j.raise p):=by
 obtain⟨v,n,k,b,o,q,u⟩:=f;obtain⟨t,d,c,a,e,g,r⟩:=j;have hm:=h.mode;dsimp only at hm;unfold qqi;cases hm with
 | run=>exact⟨h.fn,h.same,h.okf,h.tmps,h.todo,h.defers,.panicking i,h.kind,h.round⟩
 | returning=>exact⟨h.fn,h.same,h.okf,h.tmps,h.todo,h.defers,.panicking i,h.kind,h.round⟩
 | panicking s=>exact⟨h.fn,h.same,h.okf,h.tmps,h.todo,h.defers,.panicking (i.append s),h.kind,h.round⟩
def q74{id:Nat}:∀{l a:List qm1},LsR (zp Q Z) l a->(qnq id l=none/\qnq id a=none)\/∃k b,qnq id l=some k/\qnq id a=some b/\LsR (zp Q Z) k b:=by
 intro l a h;induction h with
 | nil=>exact .inl ⟨rfl,rfl⟩
 | cons d e c=>
  cases d with
  | inBlock j=>
   simp only[qnq];split
   ·exact .inr ⟨_,_,rfl,rfl,e⟩
   ·exact c
  | _=>exact c
def q39{l:Nat}:∀{c r:qkk},qA Q c->findLabel c l=some r->qA Q r:=by
 intro c;induction c with
 | seq a b g f=>
  intro r h d;cases h with
  | seq n k=>
   simp only[findLabel] at d;split at d
   ·rename_i i e
    cases d;exact .seq (g n e) k
   ·exact f k d
 | label j=>
  intro r h d;simp only[findLabel] at d;split at d
  ·cases d;exact .skip
  ·cases d
 | _=>intro r h d;cases d
def q6H{j:Nat}:∀{l a:List qm1},LsR (zp Q Z) l a->(qo7 j l=none/\qo7 j a=none)\/∃k b,qo7 j l=some k/\qo7 j a=some b/\LsR (zp Q Z) k b:=by
 intro l a h;induction h with
 | nil=>exact .inl ⟨rfl,rfl⟩
 | cons f g d=>
  cases f with
  | @inScope c e=>
   simp only[qo7];cases hf:findLabel c j with
   | none=>exact d
   | some r=>exact .inr ⟨_,_,rfl,rfl,.cons (.code (q39 e hf)) (.cons (.inScope e) g)⟩
  | _=>exact d
def q5B(a:Array qjx){t c:Array qhC}(h:AsR Z t c)(j:Nat):qjG a c j=qjG a t j:=by
 unfold qjG;cases((a[j]?).bind (·.dst)) with
 | none=>rfl
 | some d=>
  simp only[qnx];cases ht:t[d]? with
  | none=>rw[h.get_none ht]
  | some v=>
   have⟨e,b,f⟩:=h.get ht;rw[b];cases f<;>first | rfl | (rename_i h;cases e<;>first | rfl | cases h)
def kR(P:qi4)(i:qjf)(d:Array qjs):∀e∈seen P i d,e∈d:=by
 have g:∀(l:List qjs) (x:Bool × Array qjs) (all:List qjs),(∀e∈x.2,e∈all)->(∀e∈l,e∈all) ->
   ∀e∈(l.foldl (λ(y:Bool × Array qjs) (e:qjs)=>match e.loc with
    | .mark (.extern f)=>((P.funcs[f]?).any (·.norace),y.2)
    | _=>(y.1,if y.1 && !e.sync then y.2 else y.2.push e)) x).2,e∈all:=by
  intro l;induction l with
  | nil=>intro x all c _;exact c
  | cons a l j=>
   intro x all c h;rw[List.foldl_cons];refine j _ all ?_ λe b=>h e (qoH _ b);intro e b;split at b
   ·exact c e b
   ·dsimp only at b;split at b
    ·exact c e b
    ·rcases Array.mem_push.1 b with b | rfl
     ·exact c e b
     ·exact h _ (qpi ..)
 intro e b;have:=g d.toList ((P.funcs[i]?).any (·.norace),#[]) d.toList (by simp) (λe b=>b) e;rw[qkq] at this;apply this;unfold seen at b;dsimp only at b;rw[<- qo5] at b;exact b
end
end
section
section
variable[JunkSet]{Q P:qi4}{Z:Ren}{Y M:Type}{R:Rel Y M}
def SM(Q P:qi4)[JunkSet]{Y M:Type}(R:Rel Y M)(s:Sem Y)(Z:Ren)(d:Sem M):Prop :=
 ∀{base D:Nat} {wq w:qhy},base<=Z.length->WR Q base Z wq w->zD D wq w->(rwR (s.run Q wq)).drawn<=D->xy (s.run Q wq) ->
  ∃O a c b,q7j R O (s.run Q wq) a (d.run P w) c/\d.events P w #[]=b/\(∀e∈b,vg base O e)/\WR Q base O a c/\Eff base Z O w c
def SR.sm{s:Sem Y}{c:Sem M}(h:SR Q P R s Z c):SM Q P R s Z c:=λj e f i g=>by
 have⟨O,b,d,a,p,o,n,l,_,k,_⟩:=SR.runs (es:=#[]) h j e f i g;exact⟨O,b,d,a,p,by show(c.runT P _ #[]).2=a;rw[o];simp,n,l,k⟩
def wk:qk9:=.extern "map.whichKeyStays" 2
def qhA(kt:qid)(k v:qhC)(r:Nat)(c:Array qlp)(a:Nat)(b:Nat->Sem qhC):Sem Unit:=do
 qm0 false 10000 kt k
 match <- qmz kt k c.toList with
 | some (i,_)=>do
  let key <- b i
  setObj r (.map (c.modify i λe=>{ e with key,val:=v }) a)
 | none=>setObj r (.map (c.push { key:=k,val:=v,born:=a }) (a+1))
def zf(a:Array qlp)(i:Nat)(k:qhC):qhC:=((a[i]?).map (·.key)).getD k
def kX(kt:qid)(k:qhC)(a:Array qlp):Sem (Option (Nat × qhC)):=do
 qm0 false 10000 kt k
 qmz kt k a.toList
def jM(k v:qhC)(r:Nat)(c:Array qlp)(a:Nat)(b:Nat->Sem qhC):Option (Nat × qhC)->Sem Unit
 | some (i,_)=>do
  let key <- b i
  setObj r (.map (c.modify i λe=>{ e with key,val:=v }) a)
 | none=>setObj r (.map (c.push { key:=k,val:=v,born:=a }) (a+1))
def yV{t:qid}{k v:qhC}{w:qhy}{kt g:qid}(j:P.underlying t=some (.map kt g)){r:Nat}{b:Array qlp}{a:Nat}(l:w.heap[r]?=some (.map b a)) :(qjH t (.map (some r)) k v).run P w=(kX kt k b>>=jM k v r b a (λi=>qjl (zf b i k) k)).run P w /\(qjH t (.map (some r)) k v).events P w #[]=(kX kt k b>>=jM k v r b a (λi=>qjl (zf b i k) k)).events P w #[⟨.obj r,false,false⟩]:=by
 have e:qjH t (.map (some r)) k v=(qlj t).bind λd=>(match d with
   | .map kt _=>(getObj r).bind λo=>(match o with
    | .map b a=>(kX kt k b>>=jM k v r b a (λi=>qjl (zf b i k) k))
    | _=>stuck "MapUpdate: map expected")
   | _=>stuck "MapUpdate: map type expected"):=by
  unfold qjH;show(qlj t).bind _=_
  congr 1
  funext d
  cases d<;>try rfl
  show(getObj r).bind _=(getObj r).bind _
  congr 1
  funext o
  cases o<;>try rfl
  exact(Sem.bind_assoc' _ _ _).symm
 have h:∀b,(qlj t).runT P w b=(.ok (.map kt g) w,b):=λb=>by
  show(match P.underlying t with | some i=>(pure i:Sem TypeDesc) | none=>stuck "no such type").runT P w b=_;rw[j];rfl
 have n:∀c,(getObj r).runT P w c=(.ok (.map b a) w,c.push ⟨.obj r,false,false⟩):=λc=>by
  simp only[getObj,qmD,l];rfl
 have f:∀c,(qjH t (.map (some r)) k v).runT P w c=(kX kt k b>>=jM k v r b a (λi=>qjl (zf b i k) k)).runT P w (c.push ⟨.obj r,false,false⟩):=λc=>by
  rw[e,Sem.runT_bind',h];dsimp only;rw[Sem.runT_bind',n]
 refine⟨?_,?_⟩
 ·rw[<- Sem.runT_fst P _ w #[],f,Sem.runT_fst]
 ·show((qjH t (.map (some r)) k v).runT P w #[]).2=_;rw[f];rfl
omit [JunkSet] in
def qf8(a b:ByteArray)(h:(a == b)=true):a=b:=by
 obtain⟨a⟩:=a;obtain⟨b⟩:=b;have c:(a == b)=true:=h;rw[eq_of_beq c]
omit [JunkSet] in
def q8e:∀(n:Nat) {x y:qhC},qkz n x y=true->x=y:=by
 intro n;induction n with
 | zero=>
  intro x y h;cases x<;>cases y<;>first | (cases h;done) | rfl | (rw[qf8 _ _ h];done) | (simp only[qkz,qio,beq_iff_eq] at h;simp[h];done) | (simp only[qkz,qio,beq_iff_eq] at h;obtain⟨d,c⟩:=h;subst d c;rfl)
 | succ n e=>
  intro x y h;cases x<;>cases y<;>first | (cases h;done) | rfl | (rw[qf8 _ _ h];done) | skip
  all_goals simp only[qkz,qio,beq_iff_eq] at h
  case agg.agg a b=>
   obtain⟨d,c⟩:=h
   congr 1
   refine Array.ext d λi g f=>?_;rw[qje] at c;have:(a[i],b[i])∈a.toList.zip b.toList:=by
    rw[List.mem_iff_getElem];refine⟨i,by simp;omega,by simp⟩
   exact e (c _ this)
  case iface.iface t v u w=>
   rw[h.1,e h.2]
  all_goals first | (simp[h];done) | (obtain⟨d,c⟩:=h;subst d c;rfl) | (obtain⟨⟨d,c⟩,j⟩:=h;subst d c j;rfl)
def kS(s:Bool)(c:Nat)(b a:qhC):Sem qhC :=
 if s then pure (if qkz 10000 b a then a else if c=0 then a else b)
 else choose wk>>=λn=>pure (if qkz 10000 b a then a else if n=0 then a else b)
def qds{x e y d:qhC}(f:VR Z x e)(c:VR Z y d)(g:Nat):SR Q P VR (qjl x y) Z (kS (qkz 10000 x y) g e d):=by
 unfold qjl kS;by_cases b:qkz 10000 x y=true
 ·rw[if_pos b,if_pos b];refine qe ?_;split
  ·exact c
  ·split
   ·exact c
   ·rw[<- q8e _ b];exact f
 ·rw[if_neg b,if_neg b];refine .bndE vV λO n l=>?_;refine qe ?_;by_cases a:qkz 10000 e d=true
  ·rw[if_pos a];split
   ·exact c.mono l
   ·rw[<- q8e _ a];exact f.mono l
  ·rw[if_neg a];split
   ·exact c.mono l
   ·exact f.mono l
def But(d:Nat):qml Y->qml Y
 | .ok a u=>.ok a { u with drawn:=d }
 | .halt h u=>.halt h { u with drawn:=d }
omit [JunkSet] in
def q0d(r:qml Y):But (rwR r).drawn r=r:=by cases r<;>rfl
omit [JunkSet] in
def Kv(r:Nat)(o:Obj)(u:qhy)(d:Nat):(setObj r o).run P { u with drawn:=d }=But d ((setObj r o).run P u)/\∀a,(setObj r o).events P { u with drawn:=d } a=(setObj r o).events P u a:=by
 have e:setObj r o=qs4 r o (.pure ()):=rfl;rw[e];refine⟨?_,λa=>?_⟩
 ·simp only[qjk];show(match u.heap[r]? with | some (.cells ..)=>_ | some _=>_ | none=>_)=But d (match u.heap[r]? with | some (.cells ..)=>_ | some _=>_ | none=>_);cases u.heap[r]? with
  | none=>rfl
  | some x=>cases x<;>rfl
 ·unfold Sem.events;simp only[qmD];cases hh:u.heap[r]? with
  | none=>rfl
  | some x=>cases x<;>rfl
omit [JunkSet] in
def qbt{k v:qhC}{r:Nat}{es:Array qlp}{clock:Nat}{s:Nat->Bool}{u:qhy}(x:Option (Nat × qhC)) :∃d,(jM k v r es clock (λi=>qjl (zf es i k) k) x).run P u=But d ((jM k v r es clock (λi=>kS (s i) (wk.cut (u.tape u.drawn wk)) (zf es i k) k) x).run P u) /\∀a,(jM k v r es clock (λi=>qjl (zf es i k) k) x).events P u a=(jM k v r es clock (λi=>kS (s i) (wk.cut (u.tape u.drawn wk)) (zf es i k) k) x).events P u a:=by
 cases x with
 | none=>exact⟨_,(q0d _).symm,λ_=>rfl⟩
 | some x=>
  obtain⟨i,y⟩:=x;simp only[jM,qjz,qnc];have b:(choose wk).run P u=.ok (wk.cut (u.tape u.drawn wk)) { u with drawn:=u.drawn+1 }:=rfl;have h:∀a,(choose wk).events P u a=a:=λa=>rfl;by_cases c:qkz 10000 (zf es i k) k=true
  ·have l:(qjl (zf es i k) k).run P u=.ok k u:=by unfold qjl;rw[if_pos c];rfl
   have j:∀a,(qjl (zf es i k) k).events P u a=a:=λa=>by unfold qjl;rw[if_pos c];rfl
   rw[l];simp only[j];cases hs:s i with
   | true=>
    have g:(kS true (wk.cut (u.tape u.drawn wk)) (zf es i k) k).run P u=.ok k u:=by unfold kS;rw[if_pos rfl,if_pos c];rfl
    have f:∀a,(kS true (wk.cut (u.tape u.drawn wk)) (zf es i k) k).events P u a=a:=λa=>by unfold kS;rw[if_pos rfl];rfl
    rw[g];refine⟨_,(q0d _).symm,λa=>?_⟩;rw[f]
   | false=>
    have g:(kS false (wk.cut (u.tape u.drawn wk)) (zf es i k) k).run P u=.ok k { u with drawn:=u.drawn+1 }:=by
     unfold kS;rw[if_neg (by simp),qjz,b];simp only[qjv,if_pos c];rfl
    have f:∀a,(kS false (wk.cut (u.tape u.drawn wk)) (zf es i k) k).events P u a=a:=λa=>by
     unfold kS;rw[if_neg (by simp),qnc,b,h];rfl
    rw[g];simp only[f,qjv,qpz];have:=Kv (P:=P) r (.map (es.modify i λe=>{ e with key:=k,val:=v }) clock) { u with drawn:=u.drawn+1 } u.drawn;exact⟨u.drawn,this.1,λa=>this.2 a⟩
  ·have l:(qjl (zf es i k) k).run P u=.ok (if wk.cut (u.tape u.drawn wk)=0 then k else zf es i k) { u with drawn:=u.drawn+1 }:=by
    unfold qjl;rw[if_neg c,qjz];show((choose wk).run P u).andThen _=_;rw[b];rfl
   have j:∀a,(qjl (zf es i k) k).events P u a=a:=λa=>by
    unfold qjl;rw[if_neg c,qnc];show((choose wk).run P u).evThen _ _=_;rw[b,show(choose (.extern "map.whichKeyStays" 2)).events P u a=a from rfl];rfl
   rw[l];simp only[j];cases hs:s i with
   | true=>
    have g:(kS true (wk.cut (u.tape u.drawn wk)) (zf es i k) k).run P u=.ok (if wk.cut (u.tape u.drawn wk)=0 then k else zf es i k) u:=by unfold kS;rw[if_pos rfl,if_neg c];rfl
    have f:∀a,(kS true (wk.cut (u.tape u.drawn wk)) (zf es i k) k).events P u a=a:=λa=>by unfold kS;rw[if_pos rfl];rfl
    rw[g];simp only[f,qjv,qpz];have:=Kv (P:=P) r (.map (es.modify i λe=>{ e with key:=if wk.cut (u.tape u.drawn wk)=0 then k else zf es i k,val:=v }) clock) u (u.drawn+1);exact⟨u.drawn+1,this.1,λa=>this.2 a⟩
   | false=>
    have g:(kS false (wk.cut (u.tape u.drawn wk)) (zf es i k) k).run P u=.ok (if wk.cut (u.tape u.drawn wk)=0 then k else zf es i k) { u with drawn:=u.drawn+1 }:=by
     unfold kS;rw[if_neg (by simp),qjz,b];simp only[qjv,if_neg c];rfl
    have f:∀a,(kS false (wk.cut (u.tape u.drawn wk)) (zf es i k) k).events P u a=a:=λa=>by
     unfold kS;rw[if_neg (by simp),qnc,b,h];rfl
    rw[g];refine⟨_,(q0d _).symm,λa=>?_⟩;rw[f]
def q1p(I:P.toTables=Q.toTables)(V:Gl P Z){kt:qid}(L:eqB Q 6 kt=true){k g v B:qhC}(q:VR Z k g)(F:VR Z v B){r j:Nat}(H:BR Z r j){l c:Array qlp}(G:LsR (kI Z) l.toList c.toList)(d C:Nat) :SR Q P (λ_ _ _=>True) (kX kt k l>>=jM k v r l d (λi=>qjl (zf l i k) k)) Z (kX kt g c>>=jM g B j c d (λi=>kS (qkz 10000 (zf l i k) k) C (zf c i g) g)):=by
 have n:SR Q P q3t (kX kt k l) Z (kX kt g c) :=
  .bnd (Y5 I _ 6 _ L q) λU _ _ t _=>Ko I L (q.mono t) (V.mono t) (G.imp λ_ _ x=>x.mono t)
 refine .bnd n λX x x' f S=>?_;have h:=G.imp λ_ _ x=>kI.mono f x;rcases S with⟨rfl,rfl⟩ | ⟨i,y,W,rfl,rfl,O⟩
 ·refine jQ (H.mono f) (.map _ ?_);simp only[Array.toList_push];exact h.append (.cons ⟨q.mono f,F.mono f,rfl⟩ .nil)
 ·have o:VR X (zf l i k) (zf c i g):=by
   have:=h.get i;simp only[qot] at this;unfold zf;rcases this with⟨A,z⟩ | ⟨a,b,A,z,w⟩
   ·rw[A,z];exact q.mono f
   ·rw[A,z];exact w.key
  refine .bnd (qds o (q.mono f) C) λT N D s p=>?_;exact jQ (H.mono (f.trans s)) (.map _ (q5e (h.imp λ_ _ x=>x.mono s) i λe e' u=>⟨p,F.mono (f.trans s),u.born⟩))
def q4w(F:P.toTables=Q.toTables)(N:Gl P Z){t:qid}{base:Nat}{a w:qhy}(H:WR Q base Z a w){m C k k' v v':qhC}(hm:VR Z m C)(u:xy ((qjH t m k v).run Q a)) :SR Q P (λ_ _ _=>True) (qjH t m k v) Z (qjH t C k' v') \/∃r j kt n f p b,m=.map (some r)/\C=.map (some j)/\BR Z r j/\Q.underlying t=some (.map kt n)/\a.heap[r]?=some (.map f b)/\w.heap[j]?=some (.map p b)/\LsR (kI Z) f.toList p.toList:=by
 by_cases q:∃r j,m=.map (some r)/\C=.map (some j)/\BR Z r j
 ·obtain⟨r,j,rfl,rfl,B⟩:=q;by_cases z:∃kt n,Q.underlying t=some (.map kt n)
  ·obtain⟨kt,n,z⟩:=z;right;have I:r<a.heap.size:=by rw[<- H.len];exact(qic.1 B).1
   have A:∀o,a.heap[r]?=some o->(∀f c,o≠.map f c)->False:=λo x D=>by
    have T:(qlj t).run Q a=.ok (.map kt n) a:=by
     show(match Q.underlying t with | some i=>(pure i:Sem TypeDesc) | none=>stuck "no such type").run Q a=_;rw[z];rfl
    unfold qjH at u;rw[qjz,T] at u;simp only[qjv,qjz] at u;have g:(getObj r).run Q a=.ok o a\/∃s,(getObj r).run Q a=.halt (.stuck s) a:=by
     simp only[getObj,qjk,x];cases o<;>first | exact .inl rfl | exact .inr ⟨_,rfl⟩
    rcases g with g | ⟨s,g⟩
    ·rw[g] at u;simp only[qjv] at u;cases o<;>first | exact D _ _ rfl | exact absurd u (by intro h;cases h)
    ·rw[g] at u;exact absurd u (by intro h;cases h)
   cases x:a.heap[r]? with
   | none=>rw[qph] at x;omega
   | some o=>
    by_cases D:∃f c,o=.map f c
    ·obtain⟨f,c,rfl⟩:=D;rcases H.obj r j _ B x with⟨_,g,_⟩ | ⟨_,U,g,S⟩
     ·cases g
     ·cases S with
      | @map _ p _ L=>exact⟨r,j,kt,n,f,p,c,rfl,rfl,B,z,x,g,L⟩
    ·exact(A o x λf c e=>D ⟨f,c,e⟩).elim
  ·left;refine .bnd (qS F t) λO d G l y=>?_;obtain⟨rfl,y⟩:=y;cases G with
   | map kt n=>exact absurd ⟨kt,n,y⟩ z
   | _=>exact qh
 ·left;refine .bnd (qS F t) λO d G l y=>?_;obtain⟨rfl,y⟩:=y;cases G with
  | map kt n=>
   cases hm with
   | mapNil=>exact qy F (N.mono l) _
   | map B=>exact absurd ⟨_,_,rfl,rfl,B⟩ q
   | _=>exact qh
  | _=>exact qh
def q4y{t kt c:qid}(a:KI Q t=true)(b:Q.underlying t=some (.map kt c)):eqB Q 6 kt=true:=by
 unfold KI at a;rw[b] at a;simp only[qio] at a;exact a.1
def J0(U:P.toTables=Q.toTables)(hG:Gl P Z){t:qid}(hB:KI Q t=true){m W k b v l:qhC}(hm:VR Z m W)(hk:VR Z k b)(hv:VR Z v l) :SM Q P (λ_ _ _=>True) (qjH t m k v) Z (qjH t W b l):=by
 intro base D wq w hb C X T F;rcases q4w U hG C hm F with h | ⟨r,j,kt,et,es,a,clock,rfl,rfl,A,I,hq,hp,n⟩
 ·exact h.sm hb C X T F
 ·have H:P.underlying t=some (.map kt et):=by rw[kN U];exact I
  have⟨r1,_⟩:=yV (P:=Q) (t:=t) (k:=k) (v:=v) I hq;have⟨r2,e2⟩:=yV (P:=P) (t:=t) (k:=b) (v:=l) H hp;rw[r1] at T F ⊢;rw[r2,e2]
  let B:Nat:=match (kX kt b a).run P w with | .ok _ u=>wk.cut (u.tape u.drawn wk) | .halt _ _=>0
  have⟨O,G,w1,ev,V,h2,h3,o,_,g,_⟩:=SR.runs (es:=#[⟨.obj j,false,false⟩]) (q1p U hG (q4y hB I) hk hv A n clock B) hb C X T F;have p:∃d,(kX kt b a>>=jM b l j a clock (λi=>qjl (zf a i b) b)).run P w=But d ((kX kt b a>>=jM b l j a clock (λi=>kS (qkz 10000 (zf es i k) k) B (zf a i b) b)).run P w) /\
    ∀q,(kX kt b a>>=jM b l j a clock (λi=>qjl (zf a i b) b)).events P w q=(kX kt b a>>=jM b l j a clock (λi=>kS (qkz 10000 (zf es i k) k) B (zf a i b) b)).events P w q:=by
   simp only[qjz,qnc];have z:B=match (kX kt b a).run P w with | .ok _ u=>wk.cut (u.tape u.drawn wk) | .halt _ _=>0:=rfl
   generalize (kX kt b a).run P w=res at z;cases res with
   | ok x u=>
    simp only[qjv,qpz];rw[z];have⟨d,g1,g2⟩:=qbt (P:=P) (k:=b) (v:=l) (r:=j) (es:=a) (clock:=clock) (s:=λi=>qkz 10000 (zf es i k) k) (u:=u) x;exact⟨d,g1,λq=>g2 _⟩
   | halt x u=>exact⟨u.drawn,rfl,λ_=>rfl⟩
  obtain⟨d,N,L⟩:=p;rw[N,L];refine⟨O,G,{ w1 with drawn:=d },#[⟨.obj j,false,false⟩]++ev,?_,by unfold Sem.events;exact h2,?_,?_,?_⟩
  ·generalize qjk Q _ wq=x at V;generalize qjk P _ w=y at V;cases V with
   | ok _ _ h=>exact .ok _ _ h
   | panic _ _ h=>exact .panic _ _ h
  ·intro e n;rcases qlf.1 n with n | n
   ·simp only[qlh,qkv] at n;subst n;refine .obj false (A.mono g.le) (Nat.le_of_not_lt λS=>?_);have⟨c,e,f,h6,_⟩:=C.low r S;rw[hq] at h6;cases h6
   ·exact h3 e n
  ·exact⟨o.len,o.nodup,o.lt,o.obj,o.low,o.env,o.below,o.gar⟩
  ·exact⟨g.le,g.tape,g.os,g.output,g.size,g.keep,g.fresh,g.mine⟩
def SM.u{s i:Sem Unit}(h:SM Q P (λ_ _ _=>True) s Z i):SM Q P zV (do s;pure .skip) Z (do i;pure .skip):=by
 intro base D a w o l n f d;have j:∀(p:qi4) (x:Sem Unit) (u:qhy),((do x;pure Next.skip:Sem qmt)).run p u=match x.run p u with | .ok _ u'=>.ok .skip u' | .halt h u'=>.halt h u':=λp x u=>by
  rw[qjz];cases x.run p u<;>rfl
 have A:∀(p:qi4) (x:Sem Unit) (u:qhy),((do x;pure Next.skip:Sem qmt)).events p u #[]=x.events p u #[]:=λp x u=>by
  rw[qnc];cases x.run p u<;>rfl
 rw[j] at f d ⊢;have e:(rwR (s.run Q a)).drawn<=D:=by cases hx:s.run Q a<;>(rw[hx] at f;exact f)
 have c:xy (s.run Q a):=by cases hx:s.run Q a<;>(rw[hx] at d;exact d)
 have⟨O,b,k,z,g,v,t,r,q⟩:=h o l n e c;refine⟨O,b,k,z,?_,by rw[A];exact v,t,r,q⟩;rw[j];generalize qjk Q _ a=x at g;generalize qjk P _ w=y at g;cases g with
 | ok _ _ h=>exact .ok _ _ .skip
 | panic _ _ h=>exact .panic _ _ h
def q1v(H:Pair Q P){e i:qj0->qhC}(a:∀x,qH Q x->VR Z (e x) (i x))(c:Gl P Z)(k:Inj Z)(l:∀v,e (.const v)=v){o:qjx}(b:qP Q o.op):SM Q P zV (ql0 e o) Z (ql0 i o):=by
 cases hmu:qc5 o.op with
 | false=>exact(q1q H a c k l b hmu).sm
 | true=>
  obtain⟨n,q,p,j,after,guard⟩:=o;dsimp only at b hmu;cases b with
  | mapUpdate h g f d=>exact SM.u (J0 H.tables c h (a _ g) (a _ f) (a _ d))
  | insert h g f d=>exact SM.u (J0 H.tables c h (a _ g) (a _ f) (a _ d))
  | _=>cases hmu
end
end
section
structure Duo[JunkSet](Q P:qi4):Prop extends Pair Q P where
 codes:∀c,JunkSet.okc c↔qA Q c
 rfr:Q.follows .rangeFuncRecover=true
 bodies:∀f g,JunkSet.okf f->Q.funcs[f]?=some g->P.funcs[f]?=some g->∀c,g.body=some c->qA Q c
 inits:∀f,JunkSet.okf f->Q.inits.idxOf? f=none
 same:∀f,JunkSet.okg f↔(∃g,Q.funcs[f]?=some g/\P.funcs[f]?=some g)/\Q.inits.idxOf? f=none
def q0n[JunkSet](Q P:qi4)(Z:Ren)(g d:qhD):Prop :=
 (Q.funcs[g.frame.fn]?=P.funcs[g.frame.fn]?/\ve Q P Z g d) \/
 ∃f k a i c h e b,Q.funcs[f]?≠P.funcs[f]?/\JunkSet.okf f/\g={ frame:=qj1 Q f a k,callers:=c::e,status:=.running,dying:=none }/\d={ frame:=qj1 P f i k,callers:=h::b,status:=.running,dying:=none } /\
  AsR Z a i/\qx Q P Z c h/\LsR (qx Q P Z) e b/\(c.mode≠.run\/∀x l,c.todo≠.code x::l)
def q0n.k[JunkSet]{Q P:qi4}{Z:Ren}{g a:qhD}(h:ve Q P Z g a):q0n Q P Z g a :=
 .inl ⟨by have⟨x,c,b⟩:=h.frame.same;rw[c,b],h⟩
def vB[JunkSet](Q P:qi4)(base D:Nat)(Z:Ren)(wq w:qhy)(r h:qks):Prop :=
 ∀b a d,r=.go b a d->a.drawn<=D->b.status=.running->b.dying=none ->
  ∃O f c g,h=.go f c g/\q0n Q P O b f/\WR Q base O a c/\True/\Eff base Z O w c/\(∀e∈g,vg base O e)/\True/\wq.drawn<=a.drawn
section
variable[JunkSet]{Q P:qi4}(H:Duo Q P){Z:Ren}{base D:Nat}{wq w:qhy}
def Duo.gsize(H:Duo Q P):P.globals.size=Q.globals.size:=by rw[H.tables]
def qcs(H:Duo Q P){f:qjf}(n:JunkSet.okf f)(o:Q.funcs[f]?=P.funcs[f]?){a r:Array qhC}(p:AsR Z a r)(k:CallKind):qx Q P Z (qj1 Q f a k) (qj1 P f r k):=by
 have⟨s,h,d,b,q,_⟩:=H.funcs f n;have e:h=s:=by rw[d,b] at o;exact(qkH o).symm
 subst e;refine⟨rfl,⟨h,d,b⟩,H.inits f n,?_,?_,.nil,.run,rfl,.inl ⟨rfl,rfl⟩⟩
 ·unfold qj1;dsimp only;rw[d,b,<- p.1];refine p.append ⟨rfl,λi x y g j=>?_⟩;rw[Array.getElem?_replicate] at g j;split at g
  ·rename_i l
   rw[if_pos l] at j;cases g;cases j;exact kO Z
  ·cases g
 ·unfold qj1;dsimp only;rw[d,b];cases hb:h.body with
  | none=>rw[hb] at q;cases q
  | some c=>simp only[qnx,hb,qi0];exact .cons (.code (H.bodies f h n d b c hb)) .nil
def enterK(H:Duo Q P){f:qjf}(j:JunkSet.okf f){a h:Array qhC}(o:AsR Z a h){c g:qi5}(n:qx Q P Z c g){e b:List qi5}(d:LsR (qx Q P Z) e b)(hm:c.mode≠.run\/∀x l,c.todo≠.code x::l)(k:CallKind):q0n Q P Z { frame:=qj1 Q f a k,callers:=c::e,status:=.running,dying:=none } { frame:=qj1 P f h k,callers:=g::b,status:=.running,dying:=none }:=by
 by_cases i:Q.funcs[f]?=P.funcs[f]?
 ·exact .k ⟨qcs H j i o k,.cons n d,rfl,rfl,rfl,rfl⟩
 ·exact .inr ⟨f,k,a,h,c,g,e,b,i,j,rfl,rfl,o,n,d,hm⟩
def qbq(H:Duo Q P){l c:Nat}{f:qjf}(h:∃g,Q.funcs[f]?=some g/\P.funcs[f]?=some g)(i:Q.inits.idxOf? f=none){t d:Array qhC}{a b:qkk}(n:BR Z l c)(e:AsR Z t d)(o:qA Q a)(j:qA Q b)(k:CallKind) :qx Q P Z (Frame.round l f t a b k) (Frame.round c f d a b k) :=
 ⟨rfl,h,i,e,.cons (.code o) (.cons .beginRound (.cons (.code j) .nil)),.nil,.run,rfl,.inr ⟨l,c,rfl,rfl,n⟩⟩
def q7j.world{Y M:Type}{R:Rel Y M}{r:qml Y}{a:qhy}{c:qml M}{b:qhy}(h:q7j R Z r a c b):rwR r=a:=by
 cases h<;>rfl
def zl(c:WR Q base Z wq w)(l:zD D wq w){g a:qhD}(h:g.status=.running->g.dying=none->ve Q P Z g a):vB Q P base D Z wq w (.go g wq) (.go a w):=by
 intro i b j e n d f;cases e;exact⟨Z,a,w,#[],rfl,.k (h d f),c,trivial,.refl base w,by simp,trivial,qhz _⟩
def zF{o:Outcome}{u:qhy}{b:Array qjs}{a:qks}:vB Q P base D Z wq w (.ended o u b) a:=by
 intro _ _ _ e;cases e
def Qf{f i:qi5}(L:qx Q P Z f i):∀{e b:List qi5},LsR (qx Q P Z) e b ->(qis f e=none/\qis i b=none)\/∃v d k j,qis f e=some (v,k)/\qis i b=some (d,j)/\VR Z v d/\LsR (qx Q P Z) k j:=by
 intro e b h;induction h generalizing f i with
 | nil=>exact .inl ⟨by unfold qis;split<;>simp_all,by unfold qis;split<;>simp_all⟩
 | @cons c x e b a q F=>
  unfold qis;rw[L.kind];cases hk:f.kind with
  | deferred=>
   dsimp only;have hm:=a.mode;cases hmc:c.mode with
   | run=>rw[hmc] at hm;cases hm':x.mode<;>rw[hm'] at hm<;>cases hm;exact .inl ⟨rfl,rfl⟩
   | returning=>rw[hmc] at hm;cases hm':x.mode<;>rw[hm'] at hm<;>cases hm;exact .inl ⟨rfl,rfl⟩
   | panicking l=>
    rw[hmc] at hm;cases hm':x.mode with
    | run=>rw[hm'] at hm;cases hm
    | returning=>rw[hm'] at hm;cases hm
    | panicking C=>
     rw[hm'] at hm;cases hm with
     | panicking n=>
      cases n with
      | nil=>exact .inl ⟨rfl,rfl⟩
      | @cons p B l C I n=>
       obtain⟨v,r,g⟩:=p;obtain⟨d,A,M⟩:=B;obtain⟨s,z,y⟩:=I;dsimp only at s z y;subst z;subst y;cases A<;>cases M<;>first
        | exact .inl ⟨rfl,rfl⟩
        | exact .inr ⟨v,d,_,_,rfl,rfl,s,.cons ⟨a.fn,a.same,a.okf,a.tmps,a.todo,a.defers,.panicking (.cons ⟨s,rfl,rfl⟩ n),a.kind,a.round⟩ q⟩
  | wrapped=>
   dsimp only;rcases F a with⟨u,t⟩ | ⟨v,d,k,j,u,t,G,o⟩
   ·rw[u,t];exact .inl ⟨rfl,rfl⟩
   ·rw[u,t];exact .inr ⟨v,d,_,_,rfl,rfl,G,.cons a o⟩
  | _=>exact .inl ⟨rfl,rfl⟩
def zd{p:qi4}{e:qi5}{i:List qi5}{m:String}{u d:qhy}{g:qhD}{f:Array qjs}(h:qp0 p e i none m u=.go g d f):g.dying≠none:=by
 unfold qp0 at h;dsimp only at h;generalize (qjk p _ u:qml (List (ByteArray × String) × List ByteArray))=r at h;cases r with
 | ok a c=>
  obtain⟨t,b⟩:=a;simp only[dieOf,qm2] at h;rw[<- h.1];simp
 | halt x c=>cases x<;>simp at h
def ja{a:Array qjs}{s:qks}{g:qhD}{u:qhy}{e:Array qjs}(h:qjg a s=.go g u e):∃b,s=.go g u b/\e=a++b:=by
 cases s<;>simp only[qjg,qm2] at h<;>first | (obtain⟨rfl,rfl,rfl⟩:=h;exact⟨_,rfl,rfl⟩) | cases h
def SR.ends{Y M:Type}{R:Rel Y M}{s:Sem Y}{e:Sem M}(g:SR Q P R s Z e)(i:base<=Z.length)(c:WR Q base Z wq w)(h:xy (s.run Q wq)) :(∃a u,s.run Q wq=.ok a u)\/∃v u,s.run Q wq=.halt (.panic v) u:=by
 have d:WR Q base Z wq { w with tape:=λn q=>wq.tape (n - w.drawn+wq.drawn) q }:=⟨c.len,c.nodup,c.lt,c.obj,c.low,c.env,c.below,c.gar⟩;have⟨O,f,k,j,b,_⟩:=SR.runs (es:=#[]) (D:=(rwR (s.run Q wq)).drawn) g i d (λn q _=>by
  show wq.tape (wq.drawn+n) q=wq.tape (w.drawn+n - w.drawn+wq.drawn) q;rw[show w.drawn+n - w.drawn+wq.drawn=wq.drawn+n by omega]) (qhz _) h
 generalize s.run Q wq=r at b;generalize (qjk P e _)=r' at b;cases b with
 | ok _ _ _=>exact .inl ⟨_,_,rfl⟩
 | panic _ _ _=>exact .inr ⟨_,_,rfl⟩
def SM.ends{Y M:Type}{R:Rel Y M}{s:Sem Y}{e:Sem M}(g:SM Q P R s Z e)(i:base<=Z.length)(c:WR Q base Z wq w)(h:xy (s.run Q wq)) :(∃a u,s.run Q wq=.ok a u)\/∃v u,s.run Q wq=.halt (.panic v) u:=by
 have d:WR Q base Z wq { w with tape:=λn q=>wq.tape (n - w.drawn+wq.drawn) q }:=⟨c.len,c.nodup,c.lt,c.obj,c.low,c.env,c.below,c.gar⟩;have⟨O,f,k,j,b,_⟩:=g (D:=(rwR (s.run Q wq)).drawn) i d (λn q _=>by
  show wq.tape (wq.drawn+n) q=wq.tape (w.drawn+n - w.drawn+wq.drawn) q;rw[show w.drawn+n - w.drawn+wq.drawn=wq.drawn+n by omega]) (qhz _) h
 generalize s.run Q wq=r at b;generalize (qjk P e _)=r' at b;cases b with
 | ok _ _ _=>exact .inl ⟨_,_,rfl⟩
 | panic _ _ _=>exact .inr ⟨_,_,rfl⟩
def QQ(H:Duo Q P)(hb:base<=Z.length)(hw:WR Q base Z wq w)(ht:zD D wq w){f f':qi5}(hf:qx Q P Z f f'){W M:List qi5}(g9:LsR (qx Q P Z) W M)(U:∀x l,f.todo≠.code x::l){s s':Sem qmt}(hs:SM Q P zV s Z s'):vB Q P base D Z wq w (qjp Q true f W none s wq) (qjp P true f' M none s' w):=by
 intro B y m9 o hD C G;have e7:(∀d r s k,f.todo≠.call d true r s::k)/\∀d r s k,f'.todo≠.call d true r s::k:=by
  have:=hf.todo;generalize f.todo=l at this;generalize f'.todo=l' at this;cases this with
  | nil=>exact⟨by simp,by simp⟩
  | cons hx _=>cases hx<;>exact⟨by simp,by simp⟩
 obtain⟨k9,k8⟩:=e7;unfold qjp at o;simp only[if_true,qiE] at o;have F:xy (s.run Q wq):=by
  cases T:s.run Q wq with
  | ok a w1=>trivial
  | halt h w1=>
   rw[T] at o;cases h with
   | panic v=>rfl
   | goexit=>rfl
   | unsupported u=>cases u<;>first | rfl | (simp[qjg] at o;done)
   | blocked=>simp only[qjg,qm2] at o;rw[<- o.1] at C;cases C
   | waiting=>simp only[qjg,qm2] at o;rw[<- o.1] at C;cases C
   | throw m=>simp only[qjg,qoj,dieOf,qm2] at o;rw[<- o.1] at G;cases G
   | fatal m=>
    have⟨e0,c,_⟩:=ja o;exact absurd G (zd c)
   | _=>(simp[qjg] at o;done)
 have⟨e0,c,_⟩:=ja o;have m7:∀{fr:qi5} {u:qhy},(qqj { frame:=fr,callers:=W,status:=.running,dying:=none } u:qks)=.go B y e0->u=y:=λh=>by cases h;rfl
 have k0:(rwR (s.run Q wq)).drawn<=D:=by
  cases T:s.run Q wq with
  | ok a w1=>
   rw[T] at c;have:w1=y:=by
    cases a with
    | recover=>
     dsimp only at c
     repeat' split at c
     all_goals(cases c;rfl)
    | callThen d r v b=>
     dsimp only at c
     repeat' split at c
     all_goals(cases c;rfl)
    | row r a=>
     dsimp only at c
     repeat' split at c
     all_goals(cases c;rfl)
    | stack r a=>
     dsimp only at c
     repeat' split at c
     all_goals(cases c;rfl)
    | spawn d=>
     exfalso;dsimp only at c
     repeat' split at c
     all_goals first
      | (simp only[qoj,dieOf,qm2] at c;rw[<- c.1] at G;cases G;done)
      | (cases c;done)
    | _=>first | (cases c;rfl) | cases c
   subst this;exact hD
  | halt h w1=>
   rcases hs.ends hb hw F with⟨a,u,e⟩ | ⟨v,u,e⟩
   ·rw[T] at e;cases e
   ·rw[T] at e;cases e;rw[T] at c;cases c;exact hD
 have⟨O,A,V,p,z,g7,g6,e4,b0⟩:=hs hb hw ht k0 F;have hL:=b0.le;have e8:wq.drawn<=A.drawn:=z.world ▸ vX Q s wq;have t:LsR (qx Q P O) W M:=g9.imp λ_ _ k=>k.mono hL;have n:=hf.mono hL;have a8:s'.events P w #[]=p:=g7;have c8:(f'.kind == CallKind.early)=(f.kind == CallKind.early):=by rw[hf.kind]
 have q:∀(N:Array qjs),(N=#[]\/N=p)->∀e∈seen P f'.fn (if(f'.kind == CallKind.early)=true then #[] else N),e∈p:=by
  intro N he e hx;have:=kR _ _ _ e hx;split at this
  ·simp at this
  ·rcases he with rfl | rfl
   ·simp at this
   ·exact this
 have fin:∀{g g':qhD} {N:Array qjs} {r':qks},r'=.go g' V N->(∀e∈N,e∈p)->g=B->A=y->(B.status=.running->q0n Q P O g g') ->
   ∃O I S L,r'=.go I S L/\q0n Q P O B I/\WR Q base O y S/\True/\Eff base Z O w S/\(∀e∈L,vg base O e)/\True/\wq.drawn<=y.drawn:=by
  intro g g' N r' e0 a9 e1 e2 hg;subst e1;subst e2;exact⟨O,g',V,N,e0,hg C,e4,trivial,b0,λe he=>g6 e (a9 e he),trivial,e8⟩
 unfold qjp;simp only[if_true,qiE];rw[a8];generalize T:s.run Q wq=r at c z;generalize l9:s'.run P w=r' at z;cases z with
 | ok A V hN=>
  cases hN with
  | value hv=>
   cases c;exact fin rfl (by simpa using q p (.inr rfl)) rfl rfl λ_=>.k ⟨n.finish hv,t,rfl,rfl,rfl,rfl⟩
  | skip=>
   cases c;exact fin rfl (by simpa using q p (.inr rfl)) rfl rfl λ_=>.k ⟨n.finish (kO O),t,rfl,rfl,rfl,rfl⟩
  | @enter fn a a' e6 ha=>
   cases c;refine fin rfl (by simpa using q p (.inr rfl)) rfl rfl λ_=>enterK H e6 ha n t (.inr U) _
  | round fn h8 e5 a7 ha hc=>
   cases c;refine fin rfl (by simpa using q p (.inr rfl)) rfl rfl λ_=>.k ⟨?_,.cons n t,rfl,rfl,rfl,rfl⟩;exact qbq H ((H.same _).1 a7).1 ((H.same _).1 a7).2 h8 e5 ((H.codes _).1 ha) ((H.codes _).1 hc) _
  | defer hd=>
   cases c;exact fin rfl (by simpa using q p (.inr rfl)) rfl rfl λ_=>.k ⟨qx.finish (f:={ f with defers:=_::f.defers }) (f':={ f' with defers:=_::f'.defers }) ⟨n.fn,n.same,n.okf,n.tmps,n.todo,.cons hd n.defers,n.mode,n.kind,n.round⟩ (kO O),t,rfl,rfl,rfl,rfl⟩
  | recover=>
   have hrf:P.follows .rangeFuncRecover=true:=by
    have:P.toTables.follows .rangeFuncRecover=Q.toTables.follows .rangeFuncRecover:=by rw[H.tables]
    exact this.trans H.rfr
   have Y:∀{X X':Option (qhC × List qi5)},X=qis f W->X'=qis f' M ->
     (match X with
      | some (v,callers)=>qqj { frame:=f.finish v,callers,status:=.running,dying:=none } A
      | none=>.go { frame:=f.finish .nilIface,callers:=W,status:=.running,dying:=none } A)=.go B y e0 ->
     ∃O I S L,qjg (seen P f'.fn (if(f'.kind == CallKind.early)=true then #[] else p)) (match X' with
      | some (v,callers)=>qqj { frame:=f'.finish v,callers,status:=.running,dying:=none } V
      | none=>.go { frame:=f'.finish .nilIface,callers:=M,status:=.running,dying:=none } V)=.go I S L/\q0n Q P O B I/\WR Q base O y S/\True/\Eff base Z O w S/\(∀e∈L,vg base O e)/\True/\wq.drawn<=y.drawn:=by
    intro X X' hX b6 c;rcases Qf n t with⟨t1,t2⟩ | ⟨v,v',k,k',t1,t2,hv,e9⟩
    ·rw[hX,t1] at c;rw[b6,t2];cases c;exact fin rfl (by simpa using q p (.inr rfl)) rfl rfl λ_=>.k ⟨n.finish .nilIface,t,rfl,rfl,rfl,rfl⟩
    ·rw[hX,t1] at c;rw[b6,t2];cases c;exact fin rfl (by simpa using q p (.inr rfl)) rfl rfl λ_=>.k ⟨n.finish hv,e9,rfl,rfl,rfl,rfl⟩
   dsimp only at c ⊢;rcases n.round with⟨r1,r2⟩ | ⟨i,j,r1,r2,_⟩
   ·rw[r1] at c;rw[r2];exact Y rfl rfl c
   ·rw[r1] at c;rw[r2];exact Y (by simp[H.rfr]) (by simp[hrf]) c
 | panic A V hv=>
  cases c;exact fin rfl (by simpa using q p (.inr rfl)) rfl rfl λ_=>.k ⟨n.raise (.cons ⟨hv,rfl,rfl⟩ .nil),t,rfl,rfl,rfl,rfl⟩
end
end
section
section
variable[JunkSet]{Q P:qi4}{Z:Ren}{base D:Nat}{wq w:qhy}
def kU:Target->Bool
 | .nil=>true
 | _=>false
def kT:FrameMode->Bool
 | .panicking _=>true
 | _=>false
def q2z(H:Duo Q P)(hb:base<=Z.length)(hw:WR Q base Z wq w)(hG:Gl P Z)(ht:zD D wq w){f I:qi5}(hf:qx Q P Z f I){cs G:List qi5}(e8:LsR (qx Q P Z) cs G)(a7:f.mode≠.run){d M:qk6}(hd:ku Z d M):vB Q P base D Z wq w (qk8 Q f cs none d wq) (qk8 P I G none M w):=by
 intro B p m3 o hD S U;have hs:SR Q P zV (invoke d.target d.args) Z (invoke M.target M.args):=vU H.toPair hG hd;unfold qk8 at o ⊢;have V:(kU M.target && kT I.mode)=(kU d.target && kT f.mode):=by
  have h2:=hf.mode;rcases hd with⟨h1,_⟩ | ⟨h1,_,n,c,h3⟩
  case bound=>rw[h1,h3];rfl
  generalize d.target=t at h1;generalize M.target=t' at h1;generalize f.mode=m at h2;generalize I.mode=m' at h2;cases h1<;>cases h2<;>rfl
 generalize invoke d.target d.args=s at hs o;generalize invoke M.target M.args=s' at hs ⊢;change (if(kU d.target && kT f.mode)=true then _ else _)=_ at o;show ∃O W L es,(if(kU M.target && kT I.mode)=true then _ else _)=qqj W L es/\_;by_cases hc:(kU d.target && kT f.mode)=true
 ·rw[if_pos hc] at o;cases o
 ·rw[if_neg hc] at o;rw[if_neg (by rw[V];exact hc)];simp only[qiE] at o ⊢;have⟨e0,b,_⟩:=ja o;have A:xy (s.run Q wq):=by
   cases T:s.run Q wq with
   | ok a w1=>trivial
   | halt h w1=>
    rw[T] at b;cases h with
    | panic v=>rfl
    | goexit=>rfl
    | unsupported u=>cases u<;>first | rfl | (cases b;done)
    | blocked=>cases b;cases S
    | waiting=>cases b;cases S
    | throw m=>simp only[qoj,dieOf,qm2] at b;rw[<- b.1] at U;cases U
    | fatal m=>exact absurd U (zd b)
    | _=>(cases b;done)
  have g6:(rwR (s.run Q wq)).drawn<=D:=by
   cases T:s.run Q wq with
   | ok a w1=>
    rw[T] at b;have:w1=p:=by
     cases a with
     | recover=>
      dsimp only at b
      repeat' split at b
      all_goals(cases b;rfl)
     | coroswitch c e=>cases e<;>cases b
     | alone on v=>cases on<;>cases b
     | _=>first | (cases b;rfl) | cases b
    subst this;exact hD
   | halt h w1=>
    rcases hs.ends hb hw A with⟨a,u,e⟩ | ⟨v,u,e⟩
    ·rw[T] at e;cases e
    ·rw[T] at e;cases e;rw[T] at b;cases b;exact hD
  have⟨O,z,Y,y,x,e5,e4,c9,k7,b6,l5⟩:=SR.runs (es:=#[]) hs hb hw ht g6 A;have hL:=b6.le;have d8:wq.drawn<=z.drawn:=x.world ▸ vX Q s wq;have j:LsR (qx Q P O) cs G:=e8.imp λ_ _ k=>k.mono hL;have l:=hf.mono hL;have a9:s'.events P w #[]=y:=by
   show(s'.runT P w #[]).2=y;rw[e5];simp
  have i:∀e∈seen P I.fn y,e∈y:=λe he=>kR _ _ _ e he;have fin:∀{g W:qhD} {es:Array qjs} {N:qks},N=.go W Y es->(∀e∈es,e∈y)->g=B->z=p->(B.status=.running->q0n Q P O g W) ->
    ∃O C L F,N=.go C L F/\q0n Q P O B C/\WR Q base O p L/\True/\Eff base Z O w L/\(∀e∈F,vg base O e)/\True/\wq.drawn<=p.drawn:=by
   intro g W es N e0 b0 e1 e2 hg;subst e1;subst e2;exact⟨O,W,Y,es,e0,hg S,c9,trivial,b6,λe he=>e4 e (b0 e he),trivial,d8⟩
  rw[a9];generalize T:s.run Q wq=r at b x;generalize a8:s'.run P w=N at x;cases x with
  | ok z Y hN=>
   cases hN with
   | value hv=>
    cases b;exact fin rfl (by simpa using i) rfl rfl λ_=>.k ⟨l,j,rfl,rfl,rfl,rfl⟩
   | skip=>
    cases b;exact fin rfl (by simpa using i) rfl rfl λ_=>.k ⟨l,j,rfl,rfl,rfl,rfl⟩
   | @enter fn a a' d7 ha=>
    cases b;exact fin rfl (by simpa using i) rfl rfl λ_=>enterK H d7 ha l j (.inl a7) _
   | round fn e9 d6 a6 ha hc=>
    cases b;exact fin rfl (by simpa using i) rfl rfl λ_=>.k ⟨qbq H ((H.same _).1 a6).1 ((H.same _).1 a6).2 e9 d6 ((H.codes _).1 ha) ((H.codes _).1 hc) _,.cons l j,rfl,rfl,rfl,rfl⟩
   | defer hd=>
    cases b;exact fin rfl (by simpa using i) rfl rfl λ_=>.k ⟨l,j,rfl,rfl,rfl,rfl⟩
   | recover=>
    have hm:=l.mode;have R:=Qf l j;dsimp only at b ⊢;generalize qis f cs=X at b R;generalize qis I G=X' at R ⊢;generalize k9:f.mode=m at b hm;generalize h8:I.mode=m' at hm ⊢;have q:qqj { frame:=f,callers:=cs,status:=.running,dying:=none } z=.go B p e0->∀{N:qks},N=qjg (seen P I.fn y) (.go { frame:=I,callers:=G,status:=.running,dying:=none } Y) ->
      ∃O C L F,N=.go C L F/\q0n Q P O B C/\WR Q base O p L/\True/\Eff base Z O w L/\(∀e∈F,vg base O e)/\True/\wq.drawn<=p.drawn:=by
     intro h N a8;cases h;exact fin a8 (by simpa using i) rfl rfl λ_=>.k ⟨l,j,rfl,rfl,rfl,rfl⟩
    cases hm with
    | returning=>
     rcases R with⟨rfl,rfl⟩ | ⟨v,v',k,k',rfl,rfl,hv,d9⟩
     ·exact q b rfl
     ·cases b;exact fin rfl (by simpa using i) rfl rfl λ_=>.k ⟨l,d9,rfl,rfl,rfl,rfl⟩
    | run=>exact q b rfl
    | panicking hl=>exact q b rfl
  | panic z Y hv=>
   cases b;exact fin rfl (by simpa using i) rfl rfl λ_=>.k ⟨l.raise (.cons ⟨hv,rfl,rfl⟩ .nil),j,rfl,rfl,rfl,rfl⟩
def J1{Y M:Type}{R:Rel Y M}(L:base<=Z.length)(hw:WR Q base Z wq w)(ht:zD D wq w)(N:wq.drawn<=D){s:Sem Y}{l:Sem M}(hs:SR Q P R s Z l)(o:(rwR (s.run Q wq)).drawn=wq.drawn){K:qml Y->qks}{K':qml M->qks}{fn z:qjf}(y:∀h u g u' e,odd h=false->K (.halt h u)=.go g u' e->g.status=.running->g.dying=none->False)(hK:∀O r b W f,q7j R O r b W f->Le Z O->base<=O.length->WR Q base O b f->zD D b f->b.drawn<=D->vB Q P base D O b f (K r) (K' W)) :vB Q P base D Z wq w (qjg (seen Q fn (s.events Q wq #[])) (K (s.run Q wq))) (qjg (seen P z (l.events P w #[])) (K' (l.run P w))):=by
 intro T A d9 G hD n x;have⟨e0,S,_⟩:=ja G;have i:xy (s.run Q wq):=by
  cases hr:s.run Q wq with
  | ok a f=>trivial
  | halt h f=>
   rw[hr] at S;cases ho:odd h with
   | true=>exact ho
   | false=>exact(y h f _ _ _ ho S n x).elim
 have⟨O,k,w2,j,c,I,H,C,F,t,c9⟩:=SR.runs (es:=#[]) hs L hw ht (by rw[o];exact N) i;have hL:=t.le;have b6:k.drawn=wq.drawn:=by rw[<- c.world];exact o
 have q:l.events P w #[]=j:=by
  show(l.runT P w #[]).2=j;rw[I];simp
 have⟨V,g',w',U,e1,hg,B,b8,d,p,a6,X⟩:=hK O _ k _ w2 c hL (qi1 L hL.len) C F (by omega) T A e0 S hD n x;refine⟨V,g',w',seen P z j++U,?_,hg,B,trivial,t.trans L d,?_,trivial,by omega⟩
 ·rw[q,e1];rfl
 ·intro e v;rcases qlf.1 v with v | v
  ·exact(H e (kR _ _ _ e v)).mono d.le
  ·exact p e v
def J2(z:WR Q base Z wq w)(A:zD D wq w){f L:qi5}(I:qx Q P Z f L){B s:List qi5}(n:LsR (qx Q P Z) B s){v u:qhC}(N:VR Z v u)(b:Bool) :vB Q P base D Z wq w (qkc Q true f B none v wq) (qkc P b L s none u w):=by
 cases n with
 | nil=>
  intro S M U q V O R;unfold qkc at q;simp only[I.okf] at q;cases hk:f.kind<;>rw[hk] at q<;>cases q
 | @cons c t B s a n=>
  unfold qkc;dsimp only;rw[I.kind];have o:vB Q P base D Z wq w (.go { frame:=c.finish v,callers:=B,status:=.running,dying:=none } wq) (.go { frame:=t.finish u,callers:=s,status:=.running,dying:=none } w) :=
   zl z A λ_ _=>⟨a.finish N,n,rfl,rfl,rfl,rfl⟩
  cases f.kind with
  | normal=>exact o
  | wrapped=>exact o
  | early=>exact zl z A λ_ _=>⟨a,n,rfl,rfl,rfl,rfl⟩
  | deferred=>
   refine zl z A λ_ _=>⟨?_,n,rfl,rfl,rfl,rfl⟩;dsimp only;have hm:=a.mode;have i:∀{l d:List qn6},LsR (Jq Z) l d->LsR (Jq Z) (l.dropWhile (!·.goexit)) (d.dropWhile (!·.goexit)):=by
    intro l d h;induction h with
    | nil=>exact .nil
    | @cons p x l d j e F=>
     simp only[qqx];rw[j.goexit];split
     ·exact F
     ·exact .cons j e
   cases hmc:c.mode with
   | run=>rw[hmc] at hm;cases hm':t.mode<;>rw[hm'] at hm<;>cases hm;exact a
   | returning=>rw[hmc] at hm;cases hm':t.mode<;>rw[hm'] at hm<;>cases hm;exact a
   | panicking l=>
    rw[hmc] at hm;cases hm':t.mode with
    | run=>rw[hm'] at hm;cases hm
    | returning=>rw[hm'] at hm;cases hm
    | panicking d=>
     rw[hm'] at hm;cases hm with
     | panicking e=>
      cases e with
      | nil=>exact a
      | @cons p x l d j e=>
       obtain⟨v,r,g⟩:=p;obtain⟨u,C,T⟩:=x;obtain⟨H,y,G⟩:=j;dsimp only at H y G;subst y;cases C with
       | false=>exact a
       | true=>
        dsimp only;have:=i e;generalize l.dropWhile (!·.goexit)=k at this;generalize d.dropWhile (!·.goexit)=k' at this;cases this with
        | nil=>exact⟨a.fn,a.same,a.okf,a.tmps,a.todo,a.defers,.returning,a.kind,a.round⟩
        | cons j e=>exact⟨a.fn,a.same,a.okf,a.tmps,a.todo,a.defers,.panicking (.cons j e),a.kind,a.round⟩
  | report=>
   refine zl z A λ_ _=>⟨?_,n,rfl,rfl,rfl,rfl⟩;dsimp only;have hm:=a.mode;have i:∀{l d:List qn6},LsR (Jq Z) l d->LsR (Jq Z) (l.dropWhile (!·.goexit)) (d.dropWhile (!·.goexit)):=by
    intro l d h;induction h with
    | nil=>exact .nil
    | @cons p x l d j e F=>
     simp only[qqx];rw[j.goexit];split
     ·exact F
     ·exact .cons j e
   cases hmc:c.mode with
   | run=>rw[hmc] at hm;cases hm':t.mode<;>rw[hm'] at hm<;>cases hm;exact a
   | returning=>rw[hmc] at hm;cases hm':t.mode<;>rw[hm'] at hm<;>cases hm;exact a
   | panicking l=>
    rw[hmc] at hm;cases hm':t.mode with
    | run=>rw[hm'] at hm;cases hm
    | returning=>rw[hm'] at hm;cases hm
    | panicking d=>
     rw[hm'] at hm;cases hm with
     | panicking e=>
      cases e with
      | nil=>exact a
      | @cons p x l d j e=>
       obtain⟨v,r,g⟩:=p;obtain⟨u,C,T⟩:=x;obtain⟨H,y,G⟩:=j;dsimp only at H y G;subst y;cases C with
       | false=>exact a
       | true=>
        dsimp only;have:=i e;generalize l.dropWhile (!·.goexit)=k at this;generalize d.dropWhile (!·.goexit)=k' at this;cases this with
        | nil=>exact⟨a.fn,a.same,a.okf,a.tmps,a.todo,a.defers,.returning,a.kind,a.round⟩
        | cons j e=>exact⟨a.fn,a.same,a.okf,a.tmps,a.todo,a.defers,.panicking (.cons j e),a.kind,a.round⟩
def Zx(H:Duo Q P)(A:Gl P Z)(p:Func){t k:Array qhC}(h:AsR Z t k):SR Q P VR (qkh p t) Z (qkh p k):=by
 unfold qkh;refine .bnd (R:=AsR) ?_ λO a b l c=>?_
 ·rw[qlC,qlC];have n:∀(e:List ResultVar) (O:Ren),Le Z O->SR Q P (λV=>LsR (VR V)) (e.mapM fun
    | .tmp x=>pure (t.getD x qhE)
    | .cell a g=>do qre g (<- qru (t.getD a qhE))) O (e.mapM fun
    | .tmp x=>pure (k.getD x qhE)
    | .cell a g=>do qre g (<- qru (k.getD a qhE))):=by
   intro e;induction e with
   | nil=>intro O l;exact qe .nil
   | cons r e v=>
    intro O l;rw[qog,qog];refine .bnd (R:=VR) ?_ λV x y u d=>.bnd (v V (l.trans u)) λU a b q c=>qe (.cons (d.mono q) c);cases r with
    | tmp x=>exact qe ((h.mono l).getD x (kO O))
    | cell a g=>exact .bnd (q1s H.tables (A.mono l) ((h.mono l).getD a (kO O))) λU x y _ d=>by obtain⟨i,j,o,s,rfl,rfl,z⟩:=d;exact Kl H.tables z
  exact SR.bnd (S:=AsR) (f:=λl=>pure l.toArray) (f':=λl=>pure l.toArray) (n p.results.toList Z (.refl Z)) λO a b l c=>qe (zm.2 (by simpa using c))
 ·refine qe ?_;have C:=c.1;split
  ·rename_i B
   rw[dif_pos (by omega)];exact c.2 0 _ _ (qip _) (qip _)
  ·rename_i B
   rw[dif_neg (by omega)];exact c.tuple
def Dry{Y:Type}:Sem Y->Prop
 | .pure _=>True
 | .load _ _ k=>∀v,Dry (k v)
 | .store _ _ _ k=>Dry k
 | .new _ k=>∀r,Dry (k r)
 | .shape _ k=>∀x,Dry (k x)
 | .freeze _ _ k=>Dry k
 | .frozen _ k=>∀b,Dry (k b)
 | .getObj _ k=>∀o,Dry (k o)
 | .setObj _ _ k=>Dry k
 | .choose _ _=>False
 | .sys _ _=>False
 | .program k=>∀p,Dry (k p)
 | .mark _ k=>Dry k
 | .halt _=>True
def Dry.bind{Y W:Type}{s:Sem Y}{f:Y->Sem W}(h:Dry s)(d:∀a,Dry (f a)):Dry (s>>=f):=by
 show Dry (s.bind f);induction s with
 | pure a=>exact d a
 | load m a k b=>exact λv=>b v (h v)
 | store m a v k b=>exact b h
 | new o k b=>exact λv=>b v (h v)
 | shape r k b=>exact λv=>b v (h v)
 | freeze a n k b=>exact b h
 | frozen a k b=>exact λv=>b v (h v)
 | getObj r k b=>exact λv=>b v (h v)
 | setObj r o k b=>exact b h
 | choose q k b=>exact h.elim
 | sys c k b=>exact h.elim
 | program k b=>exact λp=>b p (h p)
 | mark m k b=>exact b h
 | halt x=>trivial
def Dry.run{Y:Type}(p:qi4){s:Sem Y}:∀{w:qhy},Dry s->(rwR (s.run p w)).drawn=w.drawn:=by
 induction s with
 | pure a=>intro w h;rfl
 | load m a k b=>
  intro w h;simp only[qjk];split
  ·exact b _ (h _)
  ·split
   ·exact b _ (h _)
   ·rfl
 | store m a v k b=>
  intro w h;have d:(rwR (match w.cell? a with
     | some _=>if w.frozen? a then(.halt (.unsupported (.unsafePointer "a write to bytes that a string shares")) w:qml Y) else k.run p (w.setCell a v)
     | none=>match w.farStore p a v (m == .atomic) with
      | .ok (w,_)=>k.run p w
      | .error h=>.halt h w)).drawn=w.drawn:=by
   split
   ·split
    ·rfl
    ·exact b (w:=w.setCell a v) h
   ·split
    ·rename_i i t e
     rw[b h];unfold qno at e;split at e
     ·split at e
      ·rename_i r g
       cases e;exact xW _ _ _ _ _ _ _ g
      ·cases e
     ·cases e
    ·rfl
  cases v<;>first | exact d | rfl
 | new o k b=>intro w h;exact b _ (w:={ w with heap:=w.heap.push o }) (h _)
 | shape r k b=>intro w h;exact b _ (h _)
 | freeze a n k b=>
  intro w h;refine(b (w:=w.freeze a n) h).trans ?_;unfold qrd;split<;>rfl
 | frozen a k b=>intro w h;exact b _ (h _)
 | getObj r k b=>
  intro w h;simp only[qjk];cases ho:w.heap[r]? with
  | none=>rfl
  | some o=>cases o<;>first | exact b _ (h _) | rfl
 | setObj r o k b=>
  intro w h;simp only[qjk];cases ho:w.heap[r]? with
  | none=>rfl
  | some f=>cases f<;>first | exact b (w:={ w with heap:=w.heap.setIfInBounds r o }) h | rfl
 | choose q k b=>intro w h;exact h.elim
 | sys c k b=>intro w h;exact h.elim
 | program k b=>intro w h;exact b _ (h _)
 | mark m k b=>intro w h;exact b h
 | halt x=>intro w h;rfl
end
end
section
section
variable[JunkSet]{Q P:qi4}{Z:Ren}{base D:Nat}{wq w:qhy}
def q03(t:qid):Dry (qlj t):=λp=>by
 show Dry (match p.underlying t with | some d=>pure d | none=>stuck "no such type");split<;>trivial
def q3d(t:qid):Dry (qlG t):=λp=>by
 show Dry (match p.info? t with | some d=>pure d | none=>stuck "no such type");split<;>trivial
def Jk(a:qj5):∀(n i:Nat) (b:Array qhC),Dry (qoD a i n b):=by
 intro n;induction n with
 | zero=>intro i b;trivial
 | succ n c=>intro i b;exact λv=>c _ _
def q5f(t:qid)(a:qj5):Dry (qre t a):=by
 refine Dry.bind (Dry.bind (q03 t) λd=>?_) λb=>?_
 ·split<;>trivial
 ·split
  ·exact Dry.bind (Dry.bind (q3d t) λi=>trivial) λn=>Dry.bind (Jk _ _ _ _) λ_=>trivial
  ·exact λv=>trivial
def q77(v:qhC):Dry (qru v):=by
 unfold qru;split
 ·trivial
 ·exact λp=>trivial
 ·trivial
def Yt(h:Func)(t:Array qhC):Dry (qkh h t):=by
 unfold qkh;refine Dry.bind ?_ λe=>trivial;rw[qlC];have c:∀b:List ResultVar,Dry (b.mapM fun
    | .tmp x=>pure (t.getD x qhE)
    | .cell a d=>do qre d (<- qru (t.getD a qhE))):=by
  intro b;induction b with
  | nil=>trivial
  | cons r b g=>
   rw[qog];refine Dry.bind ?_ λv=>Dry.bind g λe=>trivial;cases r with
   | tmp x=>trivial
   | cell a d=>exact Dry.bind (q77 _) λa=>q5f _ _
 exact Dry.bind (f:=λl=>pure l.toArray) (c _) λl=>trivial
def QG(l:Nat):Dry (qqF l):=λo=>by cases o<;>trivial
def qcu(b:Nat):Dry (qpk b):=λo=>by
 cases o with
 | deferred c=>cases c<;>trivial
 | _=>trivial
def q3e(l:Nat)(j:Option qkk):Dry (ql1 l j):=Dry.bind (QG l) λr=>trivial
def q5g(l:Nat):Dry (qqG l):=Dry.bind (QG l) λr=>by
 dsimp only;split
 ·exact Dry.bind (s:=qlr _) (λp=>trivial) λ_=>trivial
 ·trivial
def q0F(f:qjf)(t:Array qhC)(c:Array Tmp)(a b:qkk)(r:Option Nat):Dry (qo1 f t c a b r):=by
 unfold qo1;cases r with
 | none=>exact λ_ _=>trivial
 | some l=>exact Dry.bind (QG l) λr _=>trivial
def q7t{i j:Nat}(h:BR Z i j):SR Q P (λO=>LsR (ku O)) (qpk i) Z (qpk j):=by
 refine .bnd (jR h) λO o d l b=>?_;cases b with
 | deferred c=>exact .bnd (jQ (h.mono l) .deferredNone) λV _ _ a _=>qe (c.imp λ_ _ k=>k.mono a)
 | _=>exact qh
def Y2{i j:Nat}(h:BR Z i j){c:Option qkk}(b:∀x,c=some x->JunkSet.okc x):SR Q P VR (ql1 i c) Z (ql1 j c):=by
 refine .bnd (yH h) λO r d l a=>.bnd (jQ (h.mono l) (.loop ?_)) λV _ _ _ _=>qe (.bool _);exact⟨rfl,rfl,a.fn,a.tmps,a.params,a.assign,a.body,a.defers,a.okF,a.okA,a.okB,b⟩
def Zi(H:Duo Q P)(c:Gl P Z){i j:Nat}(h:BR Z i j):SR Q P (λ_ _ _=>True) (qpA i) Z (qpA j):=by
 refine .bnd (yH h) λO r d l a=>.bnd (jQ (h.mono l) (.loop ⟨rfl,a.pending,a.fn,a.tmps,a.params,a.assign,a.body,a.defers,a.okF,a.okA,a.okB,a.okP⟩)) λV _ _ b _=>?_;rw[a.state];cases r.state with
 | ready=>exact qe trivial
 | _=>exact qy H.tables (c.mono (l.trans b)) _
def Kr(H:Duo Q P)(e:Gl P Z){i j:Nat}(h:BR Z i j):SR Q P (λ_ a b=>b=a/\∀x,a=some x->JunkSet.okc x) (qqG i) Z (qqG j):=by
 refine .bnd (yH h) λO r f l c=>?_;dsimp only;rw[c.state];refine qD (λ_=>.bnd (R:=λ_ _ _=>False) (qy H.tables (e.mono l) _) λ_ _ _ _ d=>d.elim) λ_=>?_;refine .bnd (jQ (h.mono l) (.loop ⟨rfl,c.pending,c.fn,c.tmps,c.params,c.assign,c.body,c.defers,c.okF,c.okA,c.okB,c.okP⟩)) λV _ _ g _=>?_;exact qe ⟨c.pending,c.okP⟩
def ZY(f:qjf)(A:JunkSet.okg f){t g:Array qhC}(v:AsR Z t g)(e:Array Tmp){a b:qkk}(C:JunkSet.okc a)(p:JunkSet.okc b){r s:Option Nat}(z:OBR Z r s) :SR Q P (λO x y=>BR O x.1 y.1/\LsR (ku O) x.2 y.2) (qo1 f t e a b r) Z (qo1 f g e a b s):=by
 unfold qo1;have fin:∀(O:Ren) {d q:Nat} {m n:List qk6},Le Z O->BR O d q->LsR (ku O) m n->SR Q P (λO (x y:Nat × List qk6)=>BR O x.1 y.1/\LsR (ku O) x.2 y.2)
   (do pure (<- newObj (.loop { state:=.ready,pending:=none,fn:=f,tmps:=t,params:=e,assign:=a,body:=b,defers:=d }),m)) O
   (do pure (<- newObj (.loop { state:=.ready,pending:=none,fn:=f,tmps:=g,params:=e,assign:=a,body:=b,defers:=q }),n)):=λO d q m n l B hm=>
  .bnd (Kk (.loop ⟨rfl,rfl,rfl,v.mono l,rfl,rfl,rfl,B,A,C,p,λx h=>by cases h⟩)) λV i j u c=>qe ⟨c,hm.imp λ_ _ k=>k.mono u⟩
 rcases z with⟨rfl,rfl⟩ | ⟨i,j,rfl,rfl,p⟩
 ·exact .bnd (Kk (.deferred .nil)) λO i j l c=>fin O l c (.cons (.mk (.collected c) .nil) .nil)
 ·exact .bnd (yH p) λO x y l o=>fin O l o.defers .nil
end
end
section
section
variable[JunkSet]{Q P:qi4}{Z:Ren}{base D:Nat}{wq w:qhy}
def Kt(H:Duo Q P)(hb:base<=Z.length)(hw:WR Q base Z wq w)(hG:Gl P Z)(ht:zD D wq w)(a6:wq.drawn<=D){f f':qi5}(q:qx Q P Z f f'){cs G:List qi5}(B:LsR (qx Q P Z) cs G)(U:f.mode≠.run)(b:Bool) :vB Q P base D Z wq w (qmr Q true f cs none wq) (qmr P b f' G none w):=by
 have N:=q.defers;unfold qmr;generalize h8:f.defers=ds at N;generalize e4:f'.defers=I at N;cases N with
 | @cons d d' ds I hd X=>
  obtain⟨t,a⟩:=d;obtain⟨t',a'⟩:=d';have c8:qx Q P Z { f with defers:=ds } { f' with defers:=I }:=⟨q.fn,q.same,q.okf,q.tmps,q.todo,X,q.mode,q.kind,q.round⟩;have o:vB Q P base D Z wq w (qk8 Q { f with defers:=ds } cs none ⟨t,a⟩ wq) (qk8 P { f' with defers:=I } G none ⟨t',a'⟩ w) :=
   q2z H hb hw hG ht c8 B U hd
  rcases id hd with⟨T,_⟩ | ⟨h1,_,n,c,h3⟩
  case bound=>
   dsimp only at h1 h3;subst h1;subst h3;exact o
  dsimp only at T;cases T with
  | @collected i j c3=>
   dsimp only;simp only[qiE];refine J1 hb hw ht a6 (q7t c3) (Dry.run Q (qcu i)) (K:=λr=>match r with
    | .ok A w=>.go { frame:={ f with defers:=A++ds },callers:=cs,status:=.running,dying:=none } w
    | .halt _ w=>.ended (.stuck "the deferred calls of a range-over-func loop have been taken" (f.pos Q)) w) (K':=λr=>match r with
    | .ok A w=>.go { frame:={ f' with defers:=A++I },callers:=G,status:=.running,dying:=none } w
    | .halt _ w=>.ended (.stuck "the deferred calls of a range-over-func loop have been taken" (f'.pos P)) w) (λh u g u' e _ hk _ _=>by cases hk) ?_
   intro O r C r' S hr l d6 L M _;cases hr with
   | ok C S d5=>
    have p:=q.mono l;exact zl L M λ_ _=>⟨⟨p.fn,p.same,p.okf,p.tmps,p.todo,d5.append (X.imp λ_ _ k=>k.mono l),p.mode,p.kind,p.round⟩,B.imp λ_ _ k=>k.mono l,rfl,rfl,rfl,rfl⟩
   | panic C S hv=>exact zF
  | fn h1 h2=>exact o
  | meth n h=>exact o
  | nil=>exact o
  | builtin x y z c h=>exact o
 | nil=>
  dsimp only;have hm:=q.mode;have⟨gf,V,W⟩:=q.same;generalize g8:f.mode=m at hm;generalize d9:f'.mode=m' at hm;cases hm with
  | run=>exact zF
  | panicking hl=>
   dsimp only;have Y:f.catches Q=false:=by unfold qpv;rw[V]
   have R:f'.catches P=false:=by unfold qpv;rw[q.fn,W]
   rw[Y,R];simp only[qiC,if_false];cases B with
   | cons hc B=>exact zl hw ht λ_ _=>⟨hc.raise hl,B,rfl,rfl,rfl,rfl⟩
   | nil=>
    intro k0 e9 k5 F hD b7 c9;exfalso;dsimp only at F
    repeat' split at F
    all_goals first
     | (cases F;done)
     | (cases F;cases b7;done)
     | (cases F;cases c9;done)
  | returning=>
   dsimp only;rw[q.fn,V,W];dsimp only;simp only[qiE];refine J1 hb hw ht a6 (Zx H hG gf q.tmps) (Dry.run Q (Yt gf _)) (K:=λr=>match r with
    | .ok v w=>qkc Q true f cs none v w
    | .halt (.stuck s) w=>.ended (.stuck s (f.pos Q)) w
    | .halt _ w=>.ended (.stuck "return: the result variables cannot be read" (f.pos Q)) w) (K':=λr=>match r with
    | .ok v w=>qkc P b f' G none v w
    | .halt (.stuck s) w=>.ended (.stuck s (f'.pos P)) w
    | .halt _ w=>.ended (.stuck "return: the result variables cannot be read" (f'.pos P)) w) (λh u g u' e _ hk _ _=>by cases h<;>cases hk) ?_
   intro O r C r' S hr l d6 L M _;cases hr with
   | ok C S hv=>exact J2 L M (q.mono l) (B.imp λ_ _ k=>k.mono l) hv b
   | panic C S hv=>exact zF
def KN:Option qkk->Bool
 | none | some .ret=>true
 | _=>false
def QP(H:Duo Q P)(U:base<=Z.length)(G:WR Q base Z wq w)(L:zD D wq w)(C:wq.drawn<=D){f f':qi5}(a:qx Q P Z f f'){q c:List qi5}(n:LsR (qx Q P Z) q c)(b:Bool){j:Option qkk}(S:∀x,j=some x->qA Q x){s o:String} :
  vB Q P base D Z wq w (match f.roundOf with
   | none=>if KN j=true then .go { frame:={ f with mode:=.returning },callers:=q,status:=.running,dying:=none } wq else .ended (.stuck s (f.pos Q)) wq
   | some l=>
    let (r,es):=(ql1 l j).runT Q wq #[]
    qjg (seen Q f.fn es) <| match r with
    | .ok v w=>qkc Q true f q none v w
    | .halt _ w=>.ended (.stuck o (f.pos Q)) w) (match f'.roundOf with
   | none=>if KN j=true then .go { frame:={ f' with mode:=.returning },callers:=c,status:=.running,dying:=none } w else .ended (.stuck s (f'.pos P)) w
   | some l=>
    let (r,es):=(ql1 l j).runT P w #[]
    qjg (seen P f'.fn es) <| match r with
    | .ok v w=>qkc P b f' c none v w
    | .halt _ w=>.ended (.stuck o (f'.pos P)) w):=by
 rcases a.round with⟨y,t⟩ | ⟨i,k,y,t,B⟩
 ·rw[y,t];dsimp only;by_cases p:KN j=true
  ·rw[if_pos p,if_pos p];exact zl G L λ_ _=>⟨⟨a.fn,a.same,a.okf,a.tmps,a.todo,a.defers,.returning,a.kind,.inl ⟨rfl,rfl⟩⟩,n,rfl,rfl,rfl,rfl⟩
  ·rw[if_neg p,if_neg p];exact zF
 ·rw[y,t];dsimp only;simp only[qiE];refine J1 U G L C (Y2 B λx M=>(H.codes x).2 (S x M)) (Dry.run Q (q3e i j)) (K:=λr=>match r with
    | .ok v w=>qkc Q true f q none v w
    | .halt _ w=>.ended (.stuck o (f.pos Q)) w) (K':=λr=>match r with
    | .ok v w=>qkc P b f' c none v w
    | .halt _ w=>.ended (.stuck o (f'.pos P)) w) (λh u g V e _ R _ _=>by cases R) ?_
  intro O r d W F N l T z A _;cases N with
  | ok d F I=>exact J2 z A (a.mono l) (n.imp λ_ _ k=>k.mono l) I b
  | panic d F I=>exact zF
def qx.withTodo{f f':qi5}(a:qx Q P Z f f'){k b:List qm1}(c:LsR (zp Q Z) k b):qx Q P Z { f with todo:=k } { f' with todo:=b } :=
 ⟨a.fn,a.same,a.okf,a.tmps,c,a.defers,a.mode,a.kind,a.round⟩
def xX{i j:Nat}(h:BR Z i j){d c:qk6}(g:ku Z d c):SR Q P (λ_ _ _=>True) (qr7 i d) Z (qr7 j c):=by
 refine .bnd (yH h) λO r k l b=>?_;refine .bnd (jR b.defers) λV o n a e=>?_;cases e with
 | deferred f=>exact(jQ (b.defers.mono a) (.deferred (.cons (g.mono (l.trans a)) f))).imp λ_ _ _ _ _=>trivial
 | deferredNone=>exact qb3
 | _=>exact qh
def JH(p:qi4)(u:qhy)(f i:Nat):(choose (.order f i)).run p u=.ok (u.tape u.drawn (.order f i)) { u with drawn:=u.drawn+1 }:=rfl
def qbi(H:Duo Q P)(hb:base<=Z.length)(L:WR Q base Z wq w)(hG:Gl P Z)(S:zD D wq w)(M:wq.drawn<=D){f f':qi5}(B:qx Q P Z f f'){cs N:List qi5}(s:LsR (qx Q P Z) cs N)(b:Bool) :vB Q P base D Z wq w (qla Q true true f cs none wq) (qla P b true f' N none w):=by
 obtain⟨fn,tmps,e8,defers,mode,kind,ro⟩:=f;obtain⟨p,tmps',c3,defers',mode',kind',C⟩:=f';have g7:=B.todo;have b6:∀x,qH Q x->VR Z (qmA ⟨fn,tmps,e8,defers,mode,kind,ro⟩ x) (qmA ⟨p,tmps',c3,defers',mode',kind',C⟩ x):=λx hx=>B.eval hG H.gsize hx;have q:∀{k k':List qm1},LsR (zp Q Z) k k'->vB Q P base D Z wq w (.go { frame:=⟨fn,tmps,k,defers,mode,kind,ro⟩,callers:=cs,status:=.running,dying:=none } wq) (.go { frame:=⟨p,tmps',k',defers',mode',kind',C⟩,callers:=N,status:=.running,dying:=none } w) :=
  λz=>zl L S λ_ _=>⟨B.withTodo z,s,rfl,rfl,rfl,rfl⟩
 unfold qla;dsimp only;dsimp only at g7;cases g7 with
 | nil=>exact QP H hb L S M B s b (j:=none) (λx h=>by cases h)
 | @cons x x' k k' hx z=>
  cases hx with
  | @code c hc=>
   cases hc with
   | skip=>exact q z
   | label n=>exact q z
   | ret=>exact QP H hb L S M B s b (j:=some .ret) (λx h=>by cases h;exact .ret)
   | seq h1 h2=>exact q (.cons (.code h1) (.cons (.code h2) z))
   | @cond c x y h0 h1 h2=>
    dsimp only;have:=b6 _ h0;revert this;generalize qmA _ c=v;generalize qmA _ c=v';intro this;cases this with
    | bool t=>cases t<;>exact q (.cons (.code (by assumption)) z)
    | _=>exact zF
   | block h=>exact q (.cons (.code h) (.cons (.inBlock _) z))
   | loop h=>exact q (.cons (.code h) (.cons (.inLoop h) z))
   | scope h=>exact q (.cons (.code h) (.cons (.inScope h) z))
   | exit id=>
    dsimp only;rcases q74 (id:=id) z with⟨e1,e2⟩ | ⟨m,m',e1,e2,hm⟩
    ·rw[e1,e2];exact QP H hb L S M B s b (j:=some (.exit id)) (λx h=>by cases h;exact .exit id)
    ·rw[e1,e2];exact q hm
   | goto n=>
    dsimp only;rcases q6H (j:=n) z with⟨e1,e2⟩ | ⟨m,m',e1,e2,hm⟩
    ·rw[e1,e2];exact QP H hb L S M B s b (j:=some (.goto n)) (λx h=>by cases h;exact .goto n)
    ·rw[e1,e2];exact q hm
   | @region id F d I=>
    dsimp only;cases d with
    | false=>exact q (.cons (.inRegion _ I) z)
    | true=>
     simp only[qng,qiC,if_false];rw[JH,JH];dsimp only;intro n8 m6 n9 e hD n3 n6;cases e;have Y:=B.fn;dsimp only at Y hD;subst Y;have e9:=S 0 (.order p id) (by omega);simp only[Nat.add_zero] at e9;have l6:P.follows .mixedOrders=Q.follows .mixedOrders:=by
      show P.toTables.follows .mixedOrders=Q.toTables.follows .mixedOrders;rw[H.tables]
     have⟨l4,l8⟩:=L.draw;refine⟨Z,_,_,#[],rfl,.k ⟨?_,s,rfl,rfl,rfl,rfl⟩,l4,trivial,l8,by simp,trivial,by simp only;omega⟩;rw[l6,e9];exact B.withTodo (.cons (.inRegion _ I) z)
   | @rangeFunc c ps a bd h0 h1 h2=>
    have Y:=B.fn;dsimp only at Y ⊢;subst Y;simp only[qiE];refine J1 hb L S M (ZY (Q:=Q) (P:=P) p ((H.same p).2 ⟨B.same,B.okf⟩) B.tmps ps ((H.codes a).2 h1) ((H.codes bd).2 h2) B.round) (Dry.run Q (q0F p tmps ps a bd ro)) (K:=λr=>match r with
     | .ok (l,mark) w=>qjp Q true ⟨p,tmps,.inRangeFunc l::k,mark++defers,mode,kind,ro⟩ cs none (do let d <- resolve (qmA ⟨p,tmps,.inRangeFunc l::k,mark++defers,mode,kind,ro⟩) { callee:=.value c,args:=#[.const (.func (.yield l) #[] #[])],argTypes:=#[] } 0;invoke d.target d.args) w
     | .halt _ w=>.ended (.stuck "range over a function: no such loop" (qrA Q ⟨p,tmps,.code (.rangeFunc c ps a bd)::k,defers,mode,kind,ro⟩)) w) (K':=λr=>match r with
     | .ok (l,mark) w=>qjp P true ⟨p,tmps',.inRangeFunc l::k',mark++defers',mode',kind',C⟩ N none (do let d <- resolve (qmA ⟨p,tmps',.inRangeFunc l::k',mark++defers',mode',kind',C⟩) { callee:=.value c,args:=#[.const (.func (.yield l) #[] #[])],argTypes:=#[] } 0;invoke d.target d.args) w
     | .halt _ w=>.ended (.stuck "range over a function: no such loop" (qrA P ⟨p,tmps',.code (.rangeFunc c ps a bd)::k',defers',mode',kind',C⟩)) w) (λh u g u' e ho z _ _=>by cases z) ?_
    intro O r T r' w1 hr l g8 a9 b0 _;cases hr with
    | panic T w1 hv=>exact zF
    | @ok x y T w1 hv=>
     obtain⟨i,m⟩:=x;obtain⟨i',m'⟩:=y;obtain⟨d9,hm⟩:=hv;dsimp only at d9 hm ⊢;have A:=B.mono l;have l7:qx Q P O ⟨p,tmps,.inRangeFunc i::k,m++defers,mode,kind,ro⟩ ⟨p,tmps',.inRangeFunc i'::k',m'++defers',mode',kind',C⟩ :=
      ⟨A.fn,A.same,A.okf,A.tmps,.cons (.inRangeFunc d9) (z.imp λ_ _ k=>k.mono l),hm.append A.defers,A.mode,A.kind,A.round⟩
     refine QQ H g8 a9 b0 l7 (s.imp λ_ _ k=>k.mono l) (by intro x l h;cases h) (SR.sm ?_);have hy:AsR O #[Value.func (Fn.yield i) #[] #[]] #[Value.func (Fn.yield i') #[] #[]] :=
      AsR.one (.func (a:=#[]) (a':=#[]) (c:=#[]) (c':=#[]) (.yield d9) rfl (λi x y hx=>by simp at hx) rfl (λi x y hx=>by simp at hx))
     have g5:∀(e:qj0->qhC) (v:qhC),#[Operand.const v].map e=#[e (.const v)]:=λe v=>by simp
     refine .bnd (R:=ku) (Zy H.toPair ((b6 _ h0).mono l) (by rw[g5,g5];exact hy)) λV d d' l' hd=>vU H.toPair (hG.mono (l.trans l')) hd
  | inBlock id=>exact q z
  | inScope h=>exact q z
  | inLoop h=>exact q (.cons (.code h) (.cons (.inLoop h) z))
  | @inRegion F l I=>
   cases l with
   | nil=>exact q z
   | cons i l=>
    dsimp only;have k9:qjG F tmps'=qjG F tmps:=funext λj=>q5B F B.tmps j;rw[k9];by_cases hc:((F[i]?).map (qiy · (qjG F tmps))).getD false=true
    ·rw[if_pos hc,if_pos hc];unfold qox Frame.oper?;dsimp only;cases ho:F[i]? with
     | none=>exact zF
     | some o=>
      dsimp only;have d5:=I o (by rw[qkq];exact qk4 ho);have X:=QQ H hb L S B s (by intro x l h;cases h) (q1v H.toPair b6 hG L.nodup (λv=>rfl) d5);rcases B.round with⟨W,U⟩ | ⟨a,b',W,U,d6⟩
      ·dsimp only at W U;subst W;subst U;exact X
      ·dsimp only at W U;subst W;subst U;by_cases a6:∃c,o.op=.defer c
       ·obtain⟨c,a6⟩:=a6;rw[a6] at d5 ⊢;dsimp only;refine QQ H hb L S B s (by intro x l h;cases h) (SR.sm ?_);cases d5 with
        | defer d8=>
         exact .bnd (xF H.toPair b6 d8 _) λO d d' l hd=>.bnd (xX (d6.mono l) hd) λV _ _ _ _=>qe .skip
       ·split
        ·rename_i e1 e2
         exact absurd ⟨_,e2⟩ a6
        ·split
         ·rename_i e1 e2
          exact absurd ⟨_,e2⟩ a6
         ·exact X
    ·rw[if_neg hc,if_neg hc];exact zl L S λ_ _=>⟨B.finish (kO Z),s,rfl,rfl,rfl,rfl⟩
  | inRangeFunc h=>exact zF
  | @endRangeFunc i j h=>
   dsimp only;simp only[qiE];refine J1 hb L S M (Kr H hG h) (Dry.run Q (q5g i)) (K:=λr=>match r with
    | .ok G w=>.go { frame:=⟨fn,tmps,(G.map Item.code).toList++k,defers,mode,kind,ro⟩,callers:=cs,status:=.running,dying:=none } w
    | .halt (.panic v) w=>.go { frame:=qqi ⟨fn,tmps,.endRangeFunc i::k,defers,mode,kind,ro⟩ [{ v,recovered:=false }],callers:=cs,status:=.running,dying:=none } w
    | .halt _ w=>.ended (.stuck "range over a function: no such loop" (qrA Q ⟨fn,tmps,.endRangeFunc i::k,defers,mode,kind,ro⟩)) w) (K':=λr=>match r with
    | .ok G w=>.go { frame:=⟨p,tmps',(G.map Item.code).toList++k',defers',mode',kind',C⟩,callers:=N,status:=.running,dying:=none } w
    | .halt (.panic v) w=>.go { frame:=qqi ⟨p,tmps',.endRangeFunc j::k',defers',mode',kind',C⟩ [{ v,recovered:=false }],callers:=N,status:=.running,dying:=none } w
    | .halt _ w=>.ended (.stuck "range over a function: no such loop" (qrA P ⟨p,tmps',.endRangeFunc j::k',defers',mode',kind',C⟩)) w) (λh u g u' e ho z _ _=>by cases h<;>first | (cases ho;done) | cases z) ?_
   intro O r T r' w1 hr l g8 a9 b0 _;have A:=B.mono l;have b9:=s.imp λ_ _ k=>qx.mono l k;have g6:=z.imp λ_ _ k=>zp.mono l k;cases hr with
   | @ok G c8 T w1 hv=>
    obtain⟨hj,d7⟩:=hv;subst hj;refine zl a9 b0 λ_ _=>⟨A.withTodo ?_,b9,rfl,rfl,rfl,rfl⟩;cases c8 with
    | none=>exact g6
    | some c=>exact .cons (.code ((H.codes c).1 (d7 c rfl))) g6
   | panic T w1 hv=>exact zl a9 b0 λ_ _=>⟨A.raise (.cons ⟨hv,rfl,rfl⟩ .nil),b9,rfl,rfl,rfl,rfl⟩
  | beginRound=>
   dsimp only;refine QQ H hb L S B s (by intro x l h;cases h) (SR.sm ?_);refine .bnd (R:=λ_ _ _=>True) ?_ λO _ _ _ _=>qe .skip;rcases B.round with⟨W,U⟩ | ⟨i,j,W,U,d6⟩
   ·dsimp only at W U;rw[W,U];exact qh
   ·dsimp only at W U;rw[W,U];exact Zi H hG d6
def q1w(H:Duo Q P)(i:base<=Z.length)(f:WR Q base Z wq w)(j:Gl P Z)(h:zD D wq w)(a:wq.drawn<=D){g k:qhD}(t:ve Q P Z g k)(b:Bool) :vB Q P base D Z wq w (qjc Q true g wq true) (qjc P b k w true):=by
 obtain⟨x,F,A,C,s⟩:=g;obtain⟨l,z,r,y,n⟩:=k;obtain⟨d,e,v,u,q,p⟩:=t;dsimp only at d e v u q p;subst q;subst p;have hm:=d.mode;unfold qjc;dsimp only;generalize c:x.mode=m at hm;generalize o:l.mode=m' at hm;cases hm with
 | run=>exact qbi H i f j h a d e b
 | returning=>exact Kt H i f j h a d e (by rw[c];simp) b
 | panicking B=>exact Kt H i f j h a d e (by rw[c];simp) b
def qbh(H:Duo Q P)(z:base<=Z.length)(t:WR Q base Z wq w)(A:Gl P Z)(u:zD D wq w)(r:wq.drawn<=D){g s:qhD}(x:ve Q P Z g s)(b:Bool) :∀d i n,qjc Q true g wq true=.go d i n->i.drawn<=D->d.status=.running->d.dying=none->Q.funcs[d.frame.fn]?=P.funcs[d.frame.fn]? ->∃O j o p,qjc P b s w true=.go j o p/\ve Q P O d j/\WR Q base O i o/\True/\Eff base Z O w o/\(∀e∈p,vg base O e)/\True/\wq.drawn<=i.drawn:=by
 intro d i n e B v y l;have⟨O,j,o,p,G,F,C⟩:=q1w H z t A u r x b d i n e B v y;refine⟨O,j,o,p,G,?_,C⟩;rcases F with⟨_,h⟩ | ⟨f,k,a,N,c,M,L,I,q,_,rfl,_⟩
 ·exact h
 ·exact absurd l q
end
end
end Go.Sim
section
namespace Go
def World.tp(w:qhy)(T:Nat->qk9->Nat):qhy:={ w with tape:=T }
end Go
namespace Go.Sim
def tpR{Y:Type}(T:Nat->qk9->Nat):qml Y->qml Y
 | .ok a w=>.ok a (w.tp T)
 | .halt h w=>.halt h (w.tp T)
def q8j(T:Nat->qk9->Nat)(w:qhy)(n:Nat):Prop:=∀k q,w.drawn<=k->k<n->T k q=w.tape k q
def Knows{Y:Type}(Q:qi4)(s:Sem Y)(w:qhy):Prop :=
 (rwR (s.run Q w)).tape=w.tape/\∀T,q8j T w (rwR (s.run Q w)).drawn->s.run Q (w.tp T)=tpR T (s.run Q w)
section
variable[JunkSet]{Q P:qi4}{base:Nat}
def SR.knows{Y M:Type}{R:Rel Y M}{s:Sem Y}:∀{Z:Ren} {C:Sem M} {wq w:qhy},SR Q P R s Z C->base<=Z.length->WR Q base Z wq w->xy (s.run Q wq)->Knows Q s wq:=by
 induction s with
 | pure a=>intro Z C wq w h t g b;exact⟨rfl,λT _=>rfl⟩
 | load m a k y=>
  intro Z C wq w h t g b;rcases h with d | ⟨rfl,j,H,rfl,p,z⟩
  ·exact absurd b (Bad.not_fine g.nopend d)
  have e0:∀T,(wq.tp T).cell? a=wq.cell? a:=λT=>rfl;unfold Knows;simp only[qjk,e0] at b ⊢;cases hc:wq.cell? a with
  | none=>
   rw[hc] at b;simp only[qqB] at b;split at b
   ·rename_i G
    split at G
    ·rename_i B
     exact absurd B (g.noview p _ _)
    ·cases G
   ·rename_i G
    split at G
    ·rename_i B
     exact absurd B (g.noview p _ _)
    ·cases G;exact absurd b (jU g.nopend _ _ _)
  | some v=>
   have⟨v',B,U⟩:=g.cell p hc;rw[hc] at b;exact y v (z v v' U) t g b
 | store m a v k y=>
  intro Z C wq w h t g b;rcases h with d | ⟨rfl,j,v',H,rfl,p,G,z⟩
  ·exact absurd b (Bad.not_fine g.nopend (s:=.store m a v k) d)
  have N:(∃x,v=.agg x)\/(∃x,v=.tuple x)\/((∀x,v≠.agg x)/\∀x,v≠.tuple x):=by
   cases v<;>simp
  rcases N with⟨x,rfl⟩ | ⟨x,rfl⟩ | ⟨a6,X⟩
  ·simp only[qjk] at b;exact absurd b (λh=>by cases h)
  ·simp only[qjk] at b;exact absurd b (λh=>by cases h)
  ·have e1:∀u:qhy,(qrt .plain a v k).run Q u=match u.cell? a with
     | some _=>if u.frozen? a then .halt (.unsupported (.unsafePointer "a write to bytes that a string shares")) u else k.run Q (u.setCell a v)
     | none=>match u.farStore Q a v false with
      | .ok (w,_)=>k.run Q w
      | .error h=>.halt h u:=λu=>by
    cases v<;>first | rfl | exact absurd rfl (a6 _) | exact absurd rfl (X _)
   have e0:∀T,(wq.tp T).cell? a=wq.cell? a:=λT=>rfl;have e2:∀T,(wq.tp T).frozen? a=wq.frozen? a:=λT=>rfl;unfold Knows;simp only[e1,e0,e2] at b ⊢;cases hc:wq.cell? a with
   | none=>
    rw[hc] at b;simp only[qno] at b;split at b
    ·rename_i G
     split at G
     ·rename_i B
      exact absurd B (g.noview p _ _)
     ·cases G
    ·rename_i G
     split at G
     ·rename_i B
      exact absurd B (g.noview p _ _)
     ·cases G;exact absurd b (jU g.nopend _ _ _)
   | some u=>
    rw[hc] at b;cases hfz:wq.frozen? a with
    | true=>
     simp only[hfz,if_true] at b;exact absurd b (λh=>by cases h)
    | false=>
     have⟨O,b7,D,L⟩:=g.set p hc hfz G;simp only[hfz,qiC,if_false] at b ⊢;exact y z t D b
 | new o k y=>
  intro Z C wq w h t g b;rcases h with d | ⟨o',H,rfl,F,z⟩
  ·exact absurd b (Bad.not_fine g.nopend (s:=.new o k) d)
  have⟨D,L⟩:=g.newO t F;have S:=z w.heap.size (λi hi=>qnf _ (g.lt i _ hi));rw[g.len] at S;exact y _ S (by simp;omega) D b
 | shape r k y=>
  intro Z C wq w h t g b;rcases h with d | ⟨j,H,rfl,p,z⟩
  ·exact absurd b (Bad.not_fine g.nopend (s:=.shape r k) d)
  exact y _ (z _ _ (g.shape p)) t g b
 | freeze a n k _=>intro Z C wq w h t g b;exact absurd b (Bad.not_fine g.nopend (s:=.freeze a n k) h)
 | frozen a k _=>intro Z C wq w h t g b;exact absurd b (Bad.not_fine g.nopend (s:=.frozen a k) h)
 | getObj r k y=>
  intro Z C wq w h t g b;rcases h with d | ⟨j,H,rfl,p,z⟩
  ·exact absurd b (Bad.not_fine g.nopend (s:=.getObj r k) d)
  cases F:wq.heap[r]? with
  | none=>simp only[qjk,F] at b;exact absurd b (λh=>by cases h)
  | some o=>
   by_cases l:∃c e f,o=.cells c e f
   ·obtain⟨c,e,f,rfl⟩:=l;simp only[qjk,F] at b;exact absurd b (λh=>by cases h)
   ·have A:∀c e f,o≠.cells c e f:=λc e f x=>l ⟨c,e,f,x⟩;rcases g.obj _ _ _ p F with⟨_,hj,_⟩ | ⟨_,o',c3,U⟩
    ·exact absurd hj (A _ _ _)
    ·rw[yJ F A] at b;have I:∀T,(wq.tp T).heap[r]?=some o:=λT=>F;unfold Knows;simp only[yJ F A,yJ (I _) A];exact y o (z _ _ U) t g b
 | setObj r o k y=>
  intro Z C wq w h t g b;rcases h with d | ⟨j,o',H,rfl,p,W,z⟩
  ·exact absurd b (Bad.not_fine g.nopend (s:=.setObj r o k) d)
  cases F:wq.heap[r]? with
  | none=>simp only[qjk,F] at b;exact absurd b (λh=>by cases h)
  | some V=>
   by_cases l:∃c e f,V=.cells c e f
   ·obtain⟨c,e,f,rfl⟩:=l;simp only[qjk,F] at b;exact absurd b (λh=>by cases h)
   ·have A:∀c e f,V≠.cells c e f:=λc e f x=>l ⟨c,e,f,x⟩;have⟨O,⟨b9,b6,U⟩,D,L⟩:=g.setO p F A W;rw[yI F A] at b;have I:∀T,(wq.tp T).heap[r]?=some V:=λT=>F;unfold Knows;simp only[yI F A,yI (I _) A];exact y z t D b
 | choose q k y=>
  intro Z C wq w h t g b;rcases h with d | ⟨H,rfl,z⟩
  ·exact absurd b (Bad.not_fine g.nopend (s:=.choose q k) d)
  unfold Knows;simp only[qjk] at b ⊢;cases hq:q.forced with
  | true=>
   rw[hq] at b;simp only[if_true] at b ⊢;exact y _ (z _) t g b
  | false=>
   rw[hq] at b;simp only[qiC,if_false] at b ⊢;have⟨D,L⟩:=g.draw;have⟨h1,h2⟩:=y _ (z _) t D b;refine⟨h1,λT hT=>?_⟩;have:=vX Q (k (q.cut (wq.tape wq.drawn q))) { wq with drawn:=wq.drawn+1 };have e:(wq.tp T).tape (wq.tp T).drawn q=wq.tape wq.drawn q:=hT _ q (qhz _) (by simp only at this;exact qia (qnz _) this);rw[e];exact h2 T λn q hn=>hT n q (by simp only at hn;omega)
 | sys c k y=>
  intro Z C wq w h t g b;rcases h with d | ⟨rfl,H,rfl,z⟩
  ·exact absurd b (Bad.not_fine g.nopend (s:=.sys c k) d)
  have e1:∀u:qhy,u.sys .env=(.strings u.os.env,u):=λu=>rfl;unfold Knows;simp only[qjk,e1] at b ⊢;exact y _ (z _) t g b
 | program k y=>
  intro Z C wq w h t g b;rcases h with d | ⟨H,rfl,z⟩
  ·exact absurd b (Bad.not_fine g.nopend (s:=.program k) d)
  exact y _ z t g b
 | mark m k y=>
  intro Z C wq w h t g b;rcases h with d | ⟨rfl,H,rfl,z⟩
  ·exact absurd b (Bad.not_fine g.nopend (s:=.mark m k) d)
  exact y z t g b
 | halt x=>intro Z C wq w h t g b;exact⟨rfl,λT _=>rfl⟩
end
end Go.Sim
end
namespace Go.Sim
section
section
variable[JunkSet]{Q P:qi4}{Z:Ren}{base:Nat}{wq w:qhy}
def Je(b:P.toTables=Q.toTables)(l:Gl P Z)(i:base<=Z.length)(c:WR Q base Z wq w){t:qid}(u:KI Q t=true){m o k k' v v':qhC}(hm:VR Z m o)(q:VR Z k k')(p:VR Z v v')(e:xy ((qjH t m k v).run Q wq)):Knows Q (qjH t m k v) wq:=by
 rcases q4w (k':=k') (v':=v') b l c hm e with h | ⟨r,j,kt,z,A,x,a,rfl,rfl,f,d,g,y,s⟩
 ·exact h.knows i c e
 ·have n:=λT=>(yV (P:=Q) (t:=t) (k:=k) (v:=v) (w:=wq.tp T) d g).1;have r0:=(yV (P:=Q) (t:=t) (k:=k) (v:=v) d g).1;have:=(q1p b l (q4y u d) q p f s a 0).knows i c (by rw[<- r0];exact e);unfold Knows at this ⊢;rw[r0];exact⟨this.1,λT b=>by rw[n T];exact this.2 T b⟩
def qh3{s:Sem Unit}(h:Knows Q s wq):Knows Q (do s;pure Next.skip:Sem qmt) wq:=by
 have b:∀(u:qhy),((do s;pure Next.skip:Sem qmt)).run Q u=match s.run Q u with | .ok _ u'=>.ok .skip u' | .halt h u'=>.halt h u':=λu=>by
  rw[qjz];cases s.run Q u<;>rfl
 unfold Knows at h ⊢;rw[b];refine⟨?_,λT a=>?_⟩
 ·have:=h.1;cases hx:s.run Q wq<;>(rw[hx] at this;exact this)
 ·rw[b,h.2 T]
  ·cases hx:s.run Q wq<;>rfl
  ·cases hx:s.run Q wq<;>(rw[hx] at a;exact a)
end
end
section
def Live(g:qhD):Prop:=g.status=.running/\g.dying=none
def q5z(g:qhD):Prop:=g.status=.blocked\/g.status=.waiting\/g.status=.finished\/(g.status=.running/\∃d,g.dying=some d/\d.calling=false/\d.fatal.isSome=true)
def Flat(a:List qi5):qks->Prop
 | .go g _ _=>Live g\/q5z g\/a=[]
 | .ended ..=>True
 | _=>False
def flx{p:Prop}(h:p:=by first | exact trivial | exact .inl ⟨rfl,rfl⟩ | exact .inr (.inl (.inl rfl)) | exact .inr (.inl (.inr (.inl rfl))) | exact .inr (.inl (.inr (.inr (.inl rfl)))) | exact .inr (.inl (.inr (.inr (.inr ⟨rfl,_,rfl,rfl,rfl⟩)))) | exact .inr (.inr rfl)):p:=h
structure One(cs:List qi5)(wq:qhy)(r:qhy->qks):Prop where
 flat:Flat cs (r wq)
 go:∀g' w' es,r wq=.go g' w' es->g'.status=.running->g'.dying=none->w'.tape=wq.tape/\wq.drawn<=w'.drawn/\∀T,q8j T wq w'.drawn->∃es',r (wq.tp T)=.go g' (w'.tp T) es'
def ZK{a:List qi5}{b:Array qjs}{s:qks}(h:Flat a s):Flat a (qjg b s):=by
 cases s<;>first | exact h | exact h.elim
def KZ{p:qi4}{e:qi5}{c:List qi5}{f:Option qnd}{m:String}{u:qhy}:Flat c (qp0 p e c f m u):=by
 unfold qp0;dsimp only;generalize (qjk p _ u:qml (List (ByteArray × String) × List ByteArray))=r;cases r with
 | ok a d=>obtain⟨t,b⟩:=a;exact flx
 | halt x d=>cases x<;>exact flx
section
variable[JunkSet]{Q P:qi4}{Z:Ren}{base:Nat}{wq w:qhy}
def yM{c:List qi5}{r:qhy->qks}(h:∃o u a,r wq=.ended o u a):One c wq r:=by
 obtain⟨o,u,a,e⟩:=h;exact⟨by rw[e];trivial,λf d b h _ _=>by rw[e] at h;cases h⟩
def SR.tri{Y M:Type}{R:Rel Y M}{s:Sem Y}{j:Sem M}(k:SR Q P R s Z j)(l:base<=Z.length)(d:WR Q base Z wq w) :(Knows Q s wq/\((∃a u,s.run Q wq=.ok a u/\∃O b p,R O a b/\Le Z O/\WR Q base O u p)\/∃v u,s.run Q wq=.halt (.panic v) u))\/∃h u,s.run Q wq=.halt h u/\odd h=false:=by
 by_cases e:xy (s.run Q wq)
 ·refine .inl ⟨k.knows l d e,?_⟩;have g:WR Q base Z wq { w with tape:=λn q=>wq.tape (n - w.drawn+wq.drawn) q }:=⟨d.len,d.nodup,d.lt,d.obj,d.low,d.env,d.below,d.gar⟩;have⟨O,o,x,t,c,_,_,f,_,i,_⟩:=SR.runs (es:=#[]) (D:=(rwR (s.run Q wq)).drawn) k l g (λn q _=>by
   show wq.tape (wq.drawn+n) q=wq.tape (w.drawn+n - w.drawn+wq.drawn) q;rw[show w.drawn+n - w.drawn+wq.drawn=wq.drawn+n by omega]) (qhz _) e
  generalize s.run Q wq=r at c;generalize (qjk P j _)=r' at c;cases c with
  | ok _ _ h=>exact .inl ⟨_,_,rfl,O,_,_,h,i.le,f⟩
  | panic _ _ _=>exact .inr ⟨_,_,rfl⟩
 ·refine .inr ?_;cases hr:s.run Q wq with
  | ok a u=>rw[hr] at e;exact absurd trivial e
  | halt h u=>
   rw[hr] at e;exact⟨h,u,rfl,by cases ho:odd h with | false=>rfl | true=>exact absurd ho e⟩
def Tri[JunkSet](Q:qi4){Y M:Type}(R:Rel Y M)(s:Sem Y)(Z:Ren)(base:Nat)(wq:qhy):Prop :=
 (Knows Q s wq/\((∃a u,s.run Q wq=.ok a u/\∃O b c,R O a b/\Le Z O/\WR Q base O u c)\/∃v u,s.run Q wq=.halt (.panic v) u))\/∃h u,s.run Q wq=.halt h u/\odd h=false
def q4t{Y M:Type}{R:Rel Y M}{s:Sem Y}(hs:Tri Q R s Z base wq){F:List qi5}{K:qhy->qml Y->qks}{r:qhy->qks}(I:∀u x,s.run Q u=x->∃j,r u=qjg j (K u x))(L:∀a u O b G,R O a b->Le Z O/\WR Q base O u G->Flat F (K wq (.ok a u))/\∀d f j,K wq (.ok a u)=.go d f j->d.status=.running->d.dying=none->f.tape=u.tape/\u.drawn<=f.drawn/\∀T,q8j T u f.drawn->∃t,K (wq.tp T) (.ok a (u.tp T))=.go d (f.tp T) t)(l:∀v u,Flat F (K wq (.halt (.panic v) u))/\∀d f j,K wq (.halt (.panic v) u)=.go d f j->d.status=.running->d.dying=none->f=u/\∀T,∃t,K (wq.tp T) (.halt (.panic v) (u.tp T))=.go d (u.tp T) t)(z:∀h u,odd h=false->Flat F (K wq (.halt h u))/\∀d f j,K wq (.halt h u)=.go d f j->d.status=.running->d.dying=none->False) :One F wq r:=by
 have c:=vX Q s wq;have⟨b8,n⟩:=I wq _ rfl;rcases hs with⟨⟨y,o⟩,⟨a,u,e,O,b,G,hR,hl,H⟩ | ⟨v,u,e⟩⟩ | ⟨h,u,e,ho⟩
 ·rw[e] at n o y c;have⟨C,B⟩:=L a u O b G hR ⟨hl,H⟩;refine⟨by rw[n];exact ZK C,λd f j h g i=>?_⟩;rw[n] at h;have⟨e0,A,_⟩:=ja h;have⟨h4,h5,V⟩:=B _ _ _ A g i;have c:wq.drawn<=u.drawn:=c;refine⟨h4.trans y,qi1 c h5,λT D=>?_⟩;have⟨X,U⟩:=I (wq.tp T) _ rfl;have p:s.run Q (wq.tp T)=.ok a (u.tp T):=o T λk q o N=>D k q o (qia N h5);have⟨W,S⟩:=V T λk q o N=>by rw[show u.tape=wq.tape from y];exact D k q (qi1 c o) N
  exact⟨_,by rw[U,p,S];rfl⟩
 ·rw[e] at n o y c;have⟨C,B⟩:=l v u;refine⟨by rw[n];exact ZK C,λd f j h g i=>?_⟩;rw[n] at h;have⟨e0,A,_⟩:=ja h;obtain⟨rfl,V⟩:=B _ _ _ A g i;refine⟨y,c,λT D=>?_⟩;have⟨X,U⟩:=I (wq.tp T) _ rfl;have p:s.run Q (wq.tp T)=.halt (.panic v) (f.tp T):=o T D;have⟨W,S⟩:=V T;exact⟨_,by rw[U,p,S];rfl⟩
 ·rw[e] at n;have⟨C,B⟩:=z h u ho;refine⟨by rw[n];exact ZK C,λd f j h g i=>?_⟩;rw[n] at h;have⟨e0,A,_⟩:=ja h;exact(B _ _ _ A g i).elim
def QR{Y M:Type}{R:Rel Y M}{s:Sem Y}{n:Sem M}(p:SR Q P R s Z n)(t:base<=Z.length)(o:WR Q base Z wq w){j:List qi5}{K:qhy->qml Y->qks}{r:qhy->qks}(q:∀u x,s.run Q u=x->∃g,r u=qjg g (K u x))(k:∀a u O b l,R O a b->Le Z O/\WR Q base O u l->Flat j (K wq (.ok a u))/\∀c d g,K wq (.ok a u)=.go c d g->c.status=.running->c.dying=none->d.tape=u.tape/\u.drawn<=d.drawn/\∀T,q8j T u d.drawn->∃f,K (wq.tp T) (.ok a (u.tp T))=.go c (d.tp T) f)(e:∀v u,Flat j (K wq (.halt (.panic v) u))/\∀c d g,K wq (.halt (.panic v) u)=.go c d g->c.status=.running->c.dying=none->d=u/\∀T,∃f,K (wq.tp T) (.halt (.panic v) (u.tp T))=.go c (u.tp T) f)(i:∀h u,odd h=false->Flat j (K wq (.halt h u))/\∀c d g,K wq (.halt h u)=.go c d g->c.status=.running->c.dying=none->False) :One j wq r:=q4t (p.tri t o) q k e i
def KC(H:Duo Q P)(A:base<=Z.length)(z:WR Q base Z wq w){f:qi5}{cs:List qi5}(q:∀d r s k,f.todo≠.call d true r s::k){s:Sem qmt}(p:Tri Q (zV) s Z base wq):One cs wq (λu=>qjp Q true f cs none s u):=by
 apply q4t p
 ·intro u x o;apply Exists.intro;unfold qjp;simp only[if_true,qiE,o];exact rfl
 ·intro a u O b y t _;cases t with
  | recover=>
   rcases hX:qis f cs with _ | ⟨v,k⟩<;>cases hro:f.roundOf<;>simp only[hX,hro,H.rfr,if_true] <;>
    exact⟨flx,λi e j h _ _=>by cases h;exact⟨rfl,qhz _,λT _=>⟨_,rfl⟩⟩⟩
  | _=>exact⟨flx,λi e j h _ _=>by cases h;exact⟨rfl,qhz _,λT _=>⟨_,rfl⟩⟩⟩
 ·intro v u;exact⟨flx,λi e j h _ _=>by cases h;exact⟨rfl,λT=>⟨_,rfl⟩⟩⟩
 ·intro h u n;cases h with
  | panic v=>cases n
  | goexit=>cases n
  | unsupported x=>
   cases x with
   | initOrder g=>cases n
   | _=>exact⟨flx,λi e j h _ _=>by cases h⟩
  | blocked=>exact⟨flx,λi e j h l _=>by cases h;cases l⟩
  | waiting=>exact⟨flx,λi e j h l _=>by cases h;cases l⟩
  | throw m=>exact⟨flx,λi e j h _ c=>by simp only[qoj,dieOf,qm2] at h;rw[<- h.1] at c;cases c⟩
  | fatal m=>exact⟨KZ,λi e j h _ c=>absurd c (zd h)⟩
  | _=>exact⟨flx,λi e j h _ _=>by cases h⟩
def SM.tri{Y M:Type}{R:Rel Y M}{s:Sem Y}{i:Sem M}(k:SM Q P R s Z i)(l:xy (s.run Q wq)->Knows Q s wq)(o:base<=Z.length)(c:WR Q base Z wq w):Tri Q R s Z base wq:=by
 by_cases d:xy (s.run Q wq)
 ·refine .inl ⟨l d,?_⟩;have f:WR Q base Z wq { w with tape:=λn q=>wq.tape (n - w.drawn+wq.drawn) q }:=⟨c.len,c.nodup,c.lt,c.obj,c.low,c.env,c.below,c.gar⟩;have⟨O,j,t,p,b,_,_,e,g⟩:=k (D:=(rwR (s.run Q wq)).drawn) o f (λn q _=>by
   show wq.tape (wq.drawn+n) q=wq.tape (w.drawn+n - w.drawn+wq.drawn) q;rw[show w.drawn+n - w.drawn+wq.drawn=wq.drawn+n by omega]) (qhz _) d
  generalize s.run Q wq=r at b;generalize (qjk P i _)=r' at b;cases b with
  | ok _ _ h=>exact .inl ⟨_,_,rfl,O,_,_,h,g.le,e⟩
  | panic _ _ _=>exact .inr ⟨_,_,rfl⟩
 ·refine .inr ?_;cases hr:s.run Q wq with
  | ok a u=>rw[hr] at d;exact absurd trivial d
  | halt h u=>
   rw[hr] at d;exact⟨h,u,rfl,by cases ho:odd h with | false=>rfl | true=>exact absurd ho d⟩
def q60(H:Pair Q P)(g:base<=Z.length)(d:WR Q base Z wq w){e t:qj0->qhC}(b:∀x,qH Q x->VR Z (e x) (t x))(i:Gl P Z)(p:Inj Z)(q:∀v,e (.const v)=v){o:qjx}(f:qP Q o.op) :Tri Q (@zV _) (ql0 e o) Z base wq:=by
 cases hmu:qc5 o.op with
 | false=>exact(q1q H b i p q f hmu).tri g d
 | true=>
  refine SM.tri (q1v H b i p q f) (λc=>?_) g d;obtain⟨y,A,z,r,after,guard⟩:=o;dsimp only at f hmu;have fin:∀{s:Sem Unit},xy ((do s;pure Next.skip:Sem qmt).run Q wq)->xy (s.run Q wq):=λ{s} c=>by
   rw[qjz] at c;cases hx:s.run Q wq with
   | ok a u=>trivial
   | halt h u=>rw[hx] at c;exact c
  cases f with
  | mapUpdate n l k j=>exact qh3 (Je H.tables i g d n (b _ l) (b _ k) (b _ j) (fin c))
  | insert n l k j=>exact qh3 (Je H.tables i g d n (b _ l) (b _ k) (b _ j) (fin c))
  | _=>cases hmu
def JJ(H:Duo Q P)(c:base<=Z.length)(b:WR Q base Z wq w){f:qi5}{cs:List qi5}(a:∀d r s k,f.todo≠.call d true r s::k){s s':Sem qmt}(e:SR Q P zV s Z s'):One cs wq (λu=>qjp Q true f cs none s u):=KC H c b a (e.tri c b)
def Zn(f:qi5)(a:List qi5)(v:qhC):(∃g,(Live g\/q5z g\/a=[])/\∀u,qkc Q true f a none v u=.go g u #[])\/∃o,∀u,qkc Q true f a none v u=.ended o u #[]:=by
 unfold qkc;cases a with
 | cons c a=>
  dsimp only;split;all_goals exact .inl ⟨_,flx,λu=>rfl⟩
 | nil=>
  dsimp only;split
  ·rename_i h;cases h
  ·exact .inr ⟨_,λu=>rfl⟩
  ·simp only[qng,qiC,if_false];split
   ·exact .inl ⟨_,flx,λu=>rfl⟩
   ·exact .inr ⟨_,λu=>rfl⟩
def jn{a:List qi5}{r:qhy->qks}{g:qhD}(h:∀u,r u=.go g u #[])(b:Live g\/q5z g\/a=[]:=by exact flx):One a wq r :=
 ⟨by rw[h];exact b,λd c f e _ _=>by rw[h] at e;cases e;exact⟨rfl,qhz _,λT _=>⟨_,h _⟩⟩⟩
def yp(y:base<=Z.length)(s:WR Q base Z wq w){f:qi5}{n:List qi5}{d:qk6}{q:Sem qmt}(t:SR Q P zV (invoke d.target d.args) Z q):One n wq (λu=>qk8 Q f n none d u):=by
 by_cases p:(kU d.target && kT f.mode)=true
 ·refine yM ⟨.unsupported (.noEntry "machine/Return: a deferred call of a nil function value, made while the frame is unwinding") (f.pos Q),wq,#[],?_⟩;show qk8 Q f n none d wq=_;unfold qk8;exact if_pos p
 apply QR t y s
 ·intro u x r;apply Exists.intro;show qk8 Q f n none d u=_;unfold qk8;refine(if_neg p).trans ?_;simp only[qiE,r];exact rfl
 ·intro a u O b A z _;cases z with
  | recover=>
   rcases hX:qis f n with _ | ⟨v,k⟩<;>cases hm:f.mode<;>simp only[hX,hm] <;>
    exact⟨flx,λi e j h _ _=>by cases h;exact⟨rfl,qhz _,λT _=>⟨_,rfl⟩⟩⟩
  | _=>exact⟨flx,λi e j h _ _=>by cases h;exact⟨rfl,qhz _,λT _=>⟨_,rfl⟩⟩⟩
 ·intro v u;exact⟨flx,λi e j h _ _=>by cases h;exact⟨rfl,λT=>⟨_,rfl⟩⟩⟩
 ·intro h u o;cases h with
  | panic v=>cases o
  | goexit=>cases o
  | unsupported x=>
   cases x with
   | initOrder g=>cases o
   | _=>exact⟨flx,λi e j h _ _=>by cases h⟩
  | blocked=>exact⟨flx,λi e j h l _=>by cases h;cases l⟩
  | waiting=>exact⟨flx,λi e j h l _=>by cases h;cases l⟩
  | throw m=>exact⟨flx,λi e j h _ c=>by simp only[qoj,dieOf,qm2] at h;rw[<- h.1] at c;cases c⟩
  | fatal m=>exact⟨KZ,λi e j h _ c=>absurd c (zd h)⟩
  | _=>exact⟨flx,λi e j h _ _=>by cases h⟩
def KB(H:Duo Q P)(C:base<=Z.length)(s:WR Q base Z wq w)(Y:Gl P Z){f f':qi5}(R:qx Q P Z f f')(V:List qi5) :One V wq (λu=>qmr Q true f V none u):=by
 have B:=R.defers;unfold qmr;generalize b8:f.defers=ds at B;generalize W:f'.defers=U at B;cases B with
 | @cons d d' ds U X b7=>
  obtain⟨t,a⟩:=d;obtain⟨t',a'⟩:=d';have G:SR Q P zV (invoke t a) Z (invoke t' a'):=vU H.toPair Y X;rcases id X with⟨F,_⟩ | ⟨S,_,n,c,h3⟩
  case bound=>
   dsimp only at S h3;subst S;subst h3;exact yp C s G
  dsimp only at F;cases F with
  | @collected i j N=>
   apply QR (q7t (Q:=Q) (P:=P) N) C s
   ·intro u x M;apply Exists.intro;simp only[qiE,M];exact rfl
   ·intro l u O b D hR _;exact⟨flx,λq k r h _ _=>by cases h;exact⟨rfl,qhz _,λT _=>⟨_,rfl⟩⟩⟩
   ·intro v u;exact⟨flx,λq k r h _ _=>by cases h⟩
   ·intro h u ho;exact⟨flx,λq k r h _ _=>by cases h⟩
  | fn S h2=>exact yp C s G
  | meth n h=>exact yp C s G
  | nil=>exact yp C s G
  | builtin x y z c h=>exact yp C s G
 | nil=>
  dsimp only;have⟨gf,I,b6⟩:=R.same;cases hm:f.mode with
  | run=>exact yM ⟨_,_,_,rfl⟩
  | panicking l=>
   dsimp only;have L:f.catches Q=false:=by unfold qpv;rw[I]
   rw[L];simp only[qiC,if_false]
   repeat' split
   all_goals first
    | exact jn λu=>rfl
    | exact yM ⟨_,_,_,rfl⟩
    | exact⟨flx,λq k r h A p=>by cases h;cases A⟩
    | exact⟨flx,λq k r h A p=>by cases h;cases p⟩
    | skip
   constructor
   ·show Flat _ (match (qrF l false).run Q wq with | .ok todo w=>_ | .halt (.unsupported u) w=>_ | .halt h w=>_);cases(qrF l false).run Q wq with
    | ok a D=>exact flx
    | halt x D=>cases x<;>exact flx
   ·intro q k r h A p;exfalso;revert h;cases(qrF l false).run Q wq with
    | ok a D=>intro h;cases h;cases p
    | halt x D=>cases x<;>(intro h;cases h)
  | returning=>
   dsimp only;rw[I];dsimp only;apply QR (Zx H Y gf R.tmps) C s
   ·intro u x M;apply Exists.intro;simp only[qiE,M];exact rfl
   ·intro v u O b D hR _;rcases Zn (Q:=Q) f V v with⟨g,hl,h⟩ | ⟨o,h⟩
    ·refine⟨?_,λq k r e _ _=>?_⟩
     ·dsimp only;rw[h];exact hl
     ·dsimp only at e ⊢;rw[h] at e;cases e;exact⟨rfl,qhz _,λT _=>⟨_,h _⟩⟩
    ·refine⟨?_,λq k r e _ _=>?_⟩
     ·dsimp only;rw[h];trivial
     ·dsimp only at e ⊢;rw[h] at e;cases e
   ·intro v u;exact⟨flx,λq k r h _ _=>by cases h⟩
   ·intro h u ho;cases h<;>exact⟨flx,λq k r h _ _=>by cases h⟩
def QS(G:base<=Z.length)(B:WR Q base Z wq w){f I:qi5}(F:qx Q P Z f I)(c:List qi5)(H:Duo Q P){j:Option qkk}(D:∀x,j=some x->qA Q x){s z:String} :
  One c wq (λu=>match f.roundOf with
   | none=>if KN j=true then .go { frame:={ f with mode:=.returning },callers:=c,status:=.running,dying:=none } u else .ended (.stuck s (f.pos Q)) u
   | some l=>
    let (r,a):=(ql1 l j).runT Q u #[]
    qjg (seen Q f.fn a) <| match r with
    | .ok v w=>qkc Q true f c none v w
    | .halt _ w=>.ended (.stuck z (f.pos Q)) w):=by
 rcases F.round with⟨n,A⟩ | ⟨i,k,n,A,q⟩
 ·rw[n];dsimp only;by_cases y:KN j=true
  ·simp only[if_pos y];exact jn λu=>rfl
  ·simp only[if_neg y];exact yM ⟨_,_,_,rfl⟩
 ·rw[n];apply QR (Y2 (Q:=Q) (P:=P) q λx p=>(H.codes x).2 (D x p)) G B
  ·intro u x p;apply Exists.intro;simp only[qiE,p];exact rfl
  ·intro v u O b L N _;rcases Zn (Q:=Q) f c v with⟨g,C,h⟩ | ⟨o,h⟩
   ·refine⟨?_,λt d a e _ _=>?_⟩
    ·dsimp only;rw[h];exact C
    ·dsimp only at e ⊢;rw[h] at e;cases e;exact⟨rfl,qhz _,λT _=>⟨_,h _⟩⟩
   ·refine⟨?_,λt d a e _ _=>?_⟩
    ·dsimp only;rw[h];trivial
    ·dsimp only at e ⊢;rw[h] at e;cases e
  ·intro v u;exact⟨flx,λt d a h _ _=>by cases h⟩
  ·intro h u M;exact⟨flx,λt d a h _ _=>by cases h⟩
def qbx(H:Duo Q P)(S:base<=Z.length)(N:WR Q base Z wq w)(hG:Gl P Z){f f':qi5}(B:qx Q P Z f f')(cs:List qi5) :One cs wq (λu=>qla Q true true f cs none u):=by
 obtain⟨X,p,b7,g,t,z,ro⟩:=f;obtain⟨d5,C,Y,q,L,M,a6⟩:=f';have b9:=B.todo;have a9:∀x,qH Q x->VR Z (qmA ⟨X,p,b7,g,t,z,ro⟩ x) (qmA ⟨d5,C,Y,q,L,M,a6⟩ x):=λx A=>B.eval hG H.gsize A;unfold qla;dsimp only at b9 ⊢;cases b9 with
 | nil=>exact QS S N B cs H (j:=none) (λx h=>by cases h)
 | @cons x x' k k' A hk=>
  cases A with
  | @code c hc=>
   cases hc with
   | skip=>exact jn λu=>rfl
   | label n=>exact jn λu=>rfl
   | ret=>exact QS S N B cs H (j:=some .ret) (λx h=>by cases h;exact .ret)
   | seq h1 h2=>exact jn λu=>rfl
   | @cond c x y h0 h1 h2=>
    dsimp only;split
    ·exact jn λu=>rfl
    ·exact yM ⟨_,_,_,rfl⟩
   | block h=>exact jn λu=>rfl
   | loop h=>exact jn λu=>rfl
   | scope h=>exact jn λu=>rfl
   | exit id=>
    dsimp only;cases qnq id k with
    | none=>exact QS S N B cs H (j:=some (.exit id)) (λx h=>by cases h;exact .exit id)
    | some m=>exact jn λu=>rfl
   | goto n=>
    dsimp only;cases qo7 n k with
    | none=>exact QS S N B cs H (j:=some (.goto n)) (λx h=>by cases h;exact .goto n)
    | some m=>exact jn λu=>rfl
   | @region id I d W=>
    dsimp only;cases d with
    | false=>exact jn λu=>rfl
    | true=>
     simp only[qng,qiC,if_false,JH];refine⟨flx,λg' w' es h _ _=>?_⟩;cases h;refine⟨rfl,qrE _,λT hT=>?_⟩;have e:(wq.tp T).tape (wq.tp T).drawn (.order X id)=wq.tape wq.drawn (.order X id):=hT _ _ (qhz _) (qnz _);rw[e];exact⟨_,rfl⟩
   | @rangeFunc c ps a bd h0 h1 h2=>
    dsimp only;apply QR (ZY (Q:=Q) (P:=P) X ((H.same X).2 ⟨B.same,B.okf⟩) B.tmps ps ((H.codes a).2 h1) ((H.codes bd).2 h2) B.round) S N
    ·intro u x A;apply Exists.intro;simp only[qiE];dsimp only at A;rw[A]
    ·intro x u O y w1 hR ⟨hl,e5⟩;obtain⟨i,m⟩:=x;obtain⟨i',m'⟩:=y;obtain⟨c3,hm⟩:=hR;dsimp only at c3 hm ⊢;have hy:AsR O #[Value.func (Fn.yield i) #[] #[]] #[Value.func (Fn.yield i') #[] #[]] :=
      AsR.one (.func (a:=#[]) (a':=#[]) (c:=#[]) (c':=#[]) (.yield c3) rfl (λi x y A=>by simp at A) rfl (λi x y A=>by simp at A))
     have b8:∀(e:qj0->qhC) (v:qhC),#[Operand.const v].map e=#[e (.const v)]:=λe v=>by simp
     have:=JJ (cs:=cs) (f:=⟨X,p,.inRangeFunc i::k,m++g,t,z,ro⟩) H (qi1 S hl.len) e5 (λd r s k e=>by cases e)
      (s:=do let d <- resolve (qmA ⟨X,p,.inRangeFunc i::k,m++g,t,z,ro⟩) { callee:=.value c,args:=#[.const (.func (.yield i) #[] #[])],argTypes:=#[] } 0;invoke d.target d.args)
      (s':=do let d <- resolve (qmA ⟨d5,C,.inRangeFunc i'::k',m'++q,L,M,a6⟩) { callee:=.value c,args:=#[.const (.func (.yield i') #[] #[])],argTypes:=#[] } 0;invoke d.target d.args)
      (.bnd (R:=ku) (Zy H.toPair ((a9 _ h0).mono hl) (by rw[b8,b8];exact hy)) λV d d' l' hd=>vU H.toPair (hG.mono (hl.trans l')) hd)
     exact⟨this.flat,this.go⟩
    ·intro v u;exact⟨flx,λg' w' es h _ _=>by cases h⟩
    ·intro h u ho;exact⟨flx,λg' w' es h _ _=>by cases h⟩
  | inBlock id=>exact jn λu=>rfl
  | inScope h=>exact jn λu=>rfl
  | inLoop h=>exact jn λu=>rfl
  | @inRegion I l W=>
   cases l with
   | nil=>exact jn λu=>rfl
   | cons i l=>
    dsimp only;by_cases hc:((I[i]?).map (qiy · (qjG I p))).getD false=true
    ·simp only[if_pos hc];unfold qox Frame.oper?;dsimp only;cases ho:I[i]? with
     | none=>exact yM ⟨_,_,_,rfl⟩
     | some o=>
      dsimp only;have a7:=W o (by rw[qkq];exact qk4 ho);have G:=KC (cs:=cs) H S N (f:=⟨X,p,.inRegion I (i::l)::k,g,t,z,ro⟩) (λd r s k e=>by cases e) (q60 H.toPair S N a9 hG N.nodup (λv=>rfl) a7);rcases B.round with⟨F,D⟩ | ⟨a,b',F,D,a8⟩
      ·dsimp only at F D;subst F;subst D;exact G
      ·dsimp only at F D;subst F;subst D;by_cases U:∃c,o.op=.defer c
       ·obtain⟨c,U⟩:=U;rw[U] at a7 ⊢;dsimp only;cases a7 with
        | defer b0=>
         exact JJ H S N (λd r s k e=>by cases e) (SR.bnd (xF H.toPair a9 b0 _) λO d d' l hd=>.bnd (xX (a8.mono l) hd) λV _ _ _ _=>qe .skip)
       ·split
        ·rename_i e1 e2
         exact absurd ⟨_,e2⟩ U
        ·exact G
    ·simp only[if_neg hc];exact jn λu=>rfl
  | inRangeFunc h=>exact yM ⟨_,_,_,rfl⟩
  | @endRangeFunc i j h=>
   dsimp only;apply QR (Kr H hG h) S N
   ·intro u x A;apply Exists.intro;simp only[qiE,A];exact rfl
   ·intro l u O b w1 hR _;exact⟨flx,λg' w' es h _ _=>by cases h;exact⟨rfl,qhz _,λT _=>⟨_,rfl⟩⟩⟩
   ·intro v u;exact⟨flx,λg' w' es h _ _=>by cases h;exact⟨rfl,λT=>⟨_,rfl⟩⟩⟩
   ·intro h u ho;cases h<;>first | (cases ho;done) | exact⟨flx,λg' w' es h _ _=>by cases h⟩
  | beginRound=>
   dsimp only;refine JJ (P:=P) (s':=(do a6.elim (stuck "beginRound: no round") qpA;pure .skip)) H S N (λd r s k e=>by cases e) ?_;refine .bnd (R:=λ_ _ _=>True) ?_ λO _ _ _ _=>qe .skip;rcases B.round with⟨F,D⟩ | ⟨i,j,F,D,a8⟩
   ·dsimp only at F D;rw[F,D];exact qh
   ·dsimp only at F D;rw[F,D];exact Zi H hG a8
def q4s(H:Duo Q P)(c:base<=Z.length)(b:WR Q base Z wq w)(d:Gl P Z){g i:qhD}(l:ve Q P Z g i):One g.callers wq (λu=>qjc Q true g u true):=by
 obtain⟨r,e,s,v,j⟩:=g;obtain⟨a,q,p,o,h,n⟩:=l;dsimp only at a q p o h n;subst h;have hm:=a.mode;unfold qjc;dsimp only;generalize k:r.mode=m at hm;generalize f:i.frame.mode=m' at hm;cases hm with
 | run=>exact qbx H c b d a e
 | returning=>exact KB H c b d a e
 | panicking t=>exact KB H c b d a e
end
end
section
inductive LP (Q:qi4) (F:qhD->qhy->Prop):qhD->qhy->Prop
 | done {g:qhD} {u:qhy}:F g u->LP Q F g u
 | step {g g1:qhD} {u u1:qhy} {es:Array qjs}:qjc Q true g u true=.go g1 u1 es->g1.status=.running->g1.dying=none->LP Q F g1 u1->LP Q F g u
inductive LT (Q:qi4) (F:qhD->qhy->Prop):qhD->qhy->Prop
 | done {g:qhD} {u:qhy}:F g u->LT Q F g u
 | step {g:qhD} {u:qhy}:¬ F g u->(∀T,∃g1 u1 es,qjc Q true g (u.tp T) true=.go g1 u1 es/\g1.status=.running/\g1.dying=none) ->
   (∀T g1 u1 es,qjc Q true g (u.tp T) true=.go g1 u1 es->LT Q F g1 u1)->LT Q F g u
section
variable[JunkSet]{Q:qi4}{base:Nat}{F:qhD->qhy->Prop}
def xV(Q:qi4)(base:Nat)(g:qhD)(u:qhy):Prop :=
 ∃Z a w,base<=Z.length/\WR Q base Z u w/\Gl Q Z/\ve Q Q Z g a
def WR.tape{Z:Ren}{u w:qhy}(h:WR Q base Z u w)(T a:Nat->qk9->Nat):WR Q base Z (u.tp T) (w.tp a):=⟨h.len,h.nodup,h.lt,h.obj,h.low,h.env,h.below,h.gar⟩
def xV.tape{g:qhD}{u:qhy}(h:xV Q base g u)(T:Nat->qk9->Nat):xV Q base g (u.tp T) :=
 let ⟨Z,g',w,h1,h2,h3,h4⟩:=h
 ⟨Z,g',w,h1,h2.tape T w.tape,h3,h4⟩
def xV.one(H:Duo Q Q){g:qhD}{u:qhy}(h:xV Q base g u):One g.callers u (λu=>qjc Q true g u true) :=
 let ⟨_,_,_,h1,h2,h3,h4⟩:=h
 q4s H h1 h2 h3 h4
def xV.next(H:Duo Q Q){g a:qhD}{u u1:qhy}{y:Array qjs}(h:xV Q base g u)(e:qjc Q true g u true=.go a u1 y)(i:a.status=.running)(j:a.dying=none):xV Q base a u1:=by
 have hm:=((h.one H).go _ _ _ e i j).2.1;obtain⟨Z,z,w,l,v,k,t⟩:=h;have b:=v.tape u.tape (λn q=>u.tape (n - w.drawn+u.drawn) q);have s:zD u1.drawn u (w.tp λn q=>u.tape (n - w.drawn+u.drawn) q):=λn q _=>by
  show u.tape (u.drawn+n) q=u.tape (w.drawn+n - w.drawn+u.drawn) q;rw[show w.drawn+n - w.drawn+u.drawn=u.drawn+n by omega]
 have⟨O,c,o,x,_,r,p,_,d,_⟩:=qbh H l b k s hm t true _ _ _ e (qhz _) i j rfl;exact⟨O,c,o,qi1 l d.le.len,p,k.mono d.le,r⟩
def q3C(u:qhy)(T a:Nat->qk9->Nat):(u.tp T).tp a=u.tp a:=rfl
def YQ(u:qhy):u.tp u.tape=u:=rfl
def LP.ext(H:Duo Q Q)(j:∀g u T,F g u->F g (u.tp T)){g:qhD}{u:qhy}(h:LP Q F g u)(d:xV Q base g u){T:Nat->qk9->Nat}(f:∀k q,u.drawn<=k->T k q=u.tape k q):LP Q F g (u.tp T):=by
 induction h with
 | done h=>exact .done (j _ _ _ h)
 | @step g s u u1 t e a c _ i=>
  have⟨o,n,l⟩:=(d.one H).go _ _ _ e a c;have⟨p,r⟩:=l T λk q b _=>f k q b;exact .step r a c (i (d.next H e a c) λk q b=>by rw[o];exact f k q (qi1 n b))
def LP.inv{g:qhD}{u:qhy}(d:¬ F g u)(h:LP Q F g u):∃a u1 f,qjc Q true g u true=.go a u1 f/\a.status=.running/\a.dying=none/\LP Q F a u1:=by
 cases h with
 | done h=>exact absurd h d
 | step e b c h=>exact⟨_,_,_,e,b,c,h⟩
def LP.rest(H:Duo Q Q)(p:∀g u T,F g u->F g (u.tp T)){g b:qhD}{u u1:qhy}{y:Array qjs}(n:xV Q base g u)(r:¬ F g u)(h:∀T,LP Q F g (u.tp T)){T:Nat->qk9->Nat}(e:qjc Q true g (u.tp T) true=.go b u1 y)(l:b.status=.running)(o:b.dying=none)(a:Nat->qk9->Nat):LP Q F b (u1.tp a):=by
 have d:=(n.tape T).next H e l o
 have⟨B,A,v⟩:=((n.tape T).one H).go _ _ _ e l o
 let c:Nat->qk9->Nat:=λk q=>if k<u1.drawn then T k q else a k q
 have⟨x,j⟩:=v c λk q _ i=>by show(if k<u1.drawn then T k q else a k q)=T k q;rw[if_pos i]
 rw[q3C] at j;have f:¬ F g (u.tp c):=λs=>r (by have:=p _ _ u.tape s;rwa [q3C,YQ] at this);have⟨C,u2,w,z,_,_,t⟩:=LP.inv f (h c);rw[z] at j;cases j;have:=LP.ext H p t (d.tape c) (T:=a) λk q i=>by
  show a k q=if k<u1.drawn then T k q else a k q;rw[if_neg (by have:u1.drawn<=k:=i;omega)]
 exact this
def LT.of_all(H:Duo Q Q)(X:∀g u T,F g u->F g (u.tp T)){g:qhD}{u:qhy}(A:xV Q base g u)(h:∀T,LP Q F g (u.tp T)):LT Q F g u:=by
 classical
 refine qiG λp=>?_
 let D:qhD × qhy->Prop:=λx=>xV Q base x.1 x.2/\(∀T,LP Q F x.1 (x.2.tp T))/\¬ LT Q F x.1 x.2
 have next:∀x:{x // D x},∃y:(Nat->qk9->Nat) × {y // D y},∃j,qjc Q true x.1.1 (x.1.2.tp y.1) true=.go y.2.1.1 y.2.1.2 j/\y.2.1.1.status=.running/\y.2.1.1.dying=none:=by
  rintro⟨⟨g,u⟩,A,t,P⟩;dsimp only at A t P ⊢;have s:¬ F g u:=λs=>P (.done s);have C:∀T,¬ F g (u.tp T):=λT hh=>s (by have:=X _ _ u.tape hh;rwa [q3C,YQ] at this);refine qiG λp=>P (.step s (λT=>?_) λT G u1 j e=>?_)
  ·have⟨G,u1,j,e,l,o,_⟩:=LP.inv (C T) (t T);exact⟨G,u1,j,e,l,o⟩
  ·have⟨g2,u2,Z,I,l,o,_⟩:=LP.inv (C T) (t T);rw[e] at I;cases I;refine qiG λr=>p ⟨(T,⟨(G,u1),(A.tape T).next H e l o,λT'=>LP.rest H X A s t e l o T',r⟩),j,e,l,o⟩
 let d:{x // D x}->(Nat->qk9->Nat) × {y // D y}:=λx=>ql5 (next x)
 have B:∀x,∃j,qjc Q true x.1.1 (x.1.2.tp (d x).1) true=.go (d x).2.1.1 (d x).2.1.2 j/\(d x).2.1.1.status=.running/\(d x).2.1.1.dying=none:=λx=>qlo (next x)
 let a:Nat->{x // D x}:=λn=>Nat.rec ⟨(g,u),A,h,p⟩ (λ_ x=>(d x).2) n
 have a7:∀n,a (n+1)=(d (a n)).2:=λn=>rfl
 let b:Nat->Nat:=λn=>(a n).1.2.drawn
 have i:∀n,b n<=b (n+1):=λn=>by
  have⟨j,e,l,o⟩:=B (a n);exact((((a n).2.1.tape _).one H).go _ _ _ e l o).2.1
 have c:∀m n,m<=n->b m<=b n:=λm n R=>by
  induction R with
  | refl=>exact qhz _
  | step _ N=>exact qi1 N (i _)
 let L:Nat->qk9->Nat:=λk q=>if f:∃n,b n<=k/\k<b (n+1) then(d (a (ql5 f))).1 k q else 0
 have W:∀n k q,b n<=k->k<b (n+1)->L k q=(d (a n)).1 k q:=λn k q z w=>by
  have f:∃n,b n<=k/\k<b (n+1):=⟨n,z,w⟩;show(if f:∃n,b n<=k/\k<b (n+1) then(d (a (ql5 f))).1 k q else 0)=_;rw[dif_pos f];have⟨Y,h4⟩:=qlo f;have:ql5 f=n:=by
   rcases Nat.lt_trichotomy (ql5 f) n with r | he | U
   ·exact absurd (qia h4 (qi1 (c (ql5 f+1) n r) z)) (qnf _)
   ·exact he
   ·exact absurd (qia w (qi1 (c (n+1) (ql5 f) U) Y)) (qnf _)
  rw[this]
 have M:∀(x:qhD) (v:qhy),LP Q F x v->∀n,x=(a n).1.1->v=(a n).1.2.tp L->False:=by
  intro x v t;induction t with
  | @done g u s=>
   intro n z w;subst z;subst w;exact(a n).2.2.2 (.done (by have:=X _ _ (a n).1.2.tape s;rwa [q3C,YQ] at this))
  | @step g G u u1 j e l o _ N=>
   intro n z w;subst z;subst w;have⟨Z,I,O,V⟩:=B (a n);have⟨_,_,Y⟩:=(((a n).2.1.tape _).one H).go _ _ _ I O V;have⟨b7,e3⟩:=Y L λk q hk S=>W n k q hk S;rw[q3C] at e3;rw[e] at e3;cases e3;exact N (n+1) rfl rfl
 exact M _ _ (h L) 0 rfl rfl
end
end
section
def qk(f:qjf):qi5:={ fn:=f,tmps:=#[],todo:=[.code (.exit 0)],defers:=[{ target:=.nil,args:=#[] }],mode:=.run,kind:=.normal }
def Popped(f:qjf)(a:qi5):Prop:=a=qk f\/∃l,a={ qk f with mode:=.panicking l }
def Stk(f:qjf)(g:qhD):Prop:=(∃pre,g.callers=pre++[qk f])\/(g.callers=[]/\Popped f g.frame)
def jd(f:qjf)(r:qks):Prop:=∀a u1 b,r=.go a u1 b->a.status=.running->a.dying=none->Stk f a
section
variable[JunkSet]{Q:qi4}{f:qjf}
def jV{s:qks}{g:Array qjs}(h:jd f s):jd f (qjg g s):=λi u1 d e a b=>by
 have⟨j,c,_⟩:=ja e;exact h _ _ _ c a b
def qE{o:Outcome}{u:qhy}{a:Array qjs}:jd f (.ended o u a):=λ_ _ _ e _ _=>by cases e
def qX{d:qi5}{pre b:List qi5}{c:ql2}{i:Option qnd}{a:Option (Array qlb × qkA)}{u:qhy}{g:Array qjs}(h:b=pre++[qk f]):jd f (.go { frame:=d,callers:=b,status:=c,dying:=i,offers:=a } u g):=λ_ _ _ e _ _=>by
 cases e;exact .inl ⟨pre,h⟩
def q4H{g:qhD}{u:qhy}{b:Array qjs}(h:g.dying≠none):jd f (.go g u b):=λ_ _ _ e _ a=>by cases e;exact absurd a h
def kg{s:qks}(h:∀g u a,s≠.go g u a):jd f s:=λg u a e _ _=>absurd e (h g u a)
def Yo{b:qi5}{c:List qi5}{m:String}{u:qhy}:jd f (qp0 Q b c none m u):=λd u1 g e _ a=>absurd a (zd e)
def Qz{a:qi5}{m:String}{u:qhy}:jd f (qoj a m u):=q4H (by simp)
def xg{c:qi5}{a:List qi5}{pre:List qi5}(h:c::a=pre++[qk f]){b:qi5}{d:ql2}{j:Option qnd}{u:qhy}{i:Array qjs}(g:c=qk f->Popped f b) :jd f (.go { frame:=b,callers:=a,status:=d,dying:=j } u i):=λ_ _ _ e _ _=>by
 cases e;cases pre with
 | nil=>
  simp only[qin,ql3] at h;exact .inr ⟨h.2,g h.1⟩
 | cons p pre=>
  simp only[qi9,ql3] at h;exact .inl ⟨pre,h.2⟩
def Yi:Popped f (qk f):=.inl rfl
def Zk(v:qhC):Popped f ((qk f).finish v):=.inl rfl
def q2D(l:List qn6):Popped f ((qk f).raise l):=.inr ⟨l,rfl⟩
def Zj:∀{b:List qi5} {d:qi5} {pre k:List qi5} {v:qhC},b=pre++[qk f]->qis d b=some (v,k)->∃a,k=a++[qk f]:=by
 intro b;induction b with
 | nil=>intro d pre k v h;cases pre<;>simp at h
 | cons c b g=>
  intro d pre k v h e;unfold qis at e;cases hk:d.kind with
  | deferred=>
   rw[hk] at e;dsimp only at e;cases pre with
   | nil=>
    simp only[qin,ql3] at h;rw[h.1] at e;cases e
   | cons p pre=>
    simp only[qi9,ql3] at h;split at e
    ·simp only[qj3,Prod.mk.injEq] at e;exact⟨_::pre,by rw[<- e.2,h.2];rfl⟩
    ·cases e
  | wrapped=>
   rw[hk] at e;dsimp only at e;cases pre with
   | nil=>
    simp only[qin,ql3] at h;rw[h.1,h.2] at e;cases e
   | cons p pre=>
    simp only[qi9,ql3] at h;cases ht:qis c b with
    | none=>rw[ht] at e;cases e
    | some x=>
     obtain⟨j,l⟩:=x;rw[ht] at e;simp only[qjo,qj3,Prod.mk.injEq] at e;have⟨a,i⟩:=g h.2 ht;exact⟨c::a,by rw[<- e.2,i];rfl⟩
  | _=>rw[hk] at e;cases e
def xO{d:qi5}{a pre:List qi5}(h:a=pre++[qk f])(v:qhC)(u:qhy):jd f (qkc Q true d a none v u):=by
 unfold qkc;cases a with
 | nil=>cases pre<;>simp at h
 | cons c b=>
  dsimp only;split
  ·exact xg h λe=>e ▸ Zk v
  ·exact xg h λe=>e ▸ Zk v
  ·exact xg h λe=>e ▸ Yi
  ·exact xg h λe=>by subst e;exact Yi
def q9k{e a:qi5}{X pre c:List qi5}{d:ql2}{i:Option qnd}{b:Option (Array qlb × qkA)}{u:qhy}{g:Array qjs}(h:c=pre++[qk f]):jd f (.go { frame:=e,callers:=X++a::c,status:=d,dying:=i,offers:=b } u g) :=
 qX (pre:=X++a::pre) (by rw[h];simp)
def KQ{e a:qi5}{pre c:List qi5}{d:ql2}{i:Option qnd}{b:Option (Array qlb × qkA)}{u:qhy}{g:Array qjs}(h:c=pre++[qk f]):jd f (.go { frame:=e,callers:=a::c,status:=d,dying:=i,offers:=b } u g) :=
 qX (pre:=a::pre) (by rw[h];simp)
def q4G{b:qi5}{d pre:List qi5}(h:d=pre++[qk f])(g:Nat)(u:qhy):jd f (early Q b d none g u):=by
 unfold early;have e:∀w:qhy,jd f (match w.heap[g]? with
  | some (.pending c a)=>.go { frame:=b,callers:=d,status:=.running,dying:=none } { w with heap:=w.heap.setIfInBounds g (.cells c a) }
  | _=>.ended (.stuck "early: the variable does not wait" (b.pos Q)) w):=λw=>by
  split
  ·exact qX h
  ·exact qE
 dsimp only;split
 ·exact e _
 ·split
  ·exact qE
  ·repeat' split
   all_goals first
    | exact e _
    | exact qE
    | exact qX h
    | exact q9k h
    | skip
def kh(hrf:Q.follows .rangeFuncRecover=true){b:qi5}{c pre:List qi5}(h:c=pre++[qk f])(s:Sem qmt)(u:qhy):jd f (qjp Q true b c none s u):=by
 unfold qjp;simp only[if_true,qiE,hrf];refine jV ?_;cases s.run Q u with
 | ok a w=>
  cases a with
  | recover=>
   have i:∀{v k},qis b c=some (v,k)->jd f (.go { frame:=b.finish v,callers:=k,status:=.running,dying:=none } w):=λe=>by
    have⟨g,j⟩:=Zj h e;exact qX j
   rcases hX:qis b c with _ | ⟨v,k⟩<;>cases hro:b.roundOf<;>simp only[hX,hro]<;>first | exact i hX | exact qX h
  | spawn d=>
   dsimp only
   repeat' split
   all_goals first
    | exact Qz
    | exact kg (λ_ _ _ e=>by cases e)
  | _=>
   dsimp only
   repeat' split
   all_goals first
    | exact qX h
    | exact KQ h
    | exact kg (λ_ _ _ e=>by cases e)
 | halt x w=>
  cases x with
  | fatal m=>exact Yo
  | throw m=>exact Qz
  | unsupported x=>cases x<;>first | exact q4G h _ _ | exact qE
  | _=>first | exact qX h | exact qE
def KR{g:qi5}{n pre:List qi5}(h:n=pre++[qk f])(d:qk6)(u:qhy):jd f (qk8 Q g n none d u):=by
 unfold qk8;by_cases k:(kU d.target && kT g.mode)=true
 ·have:∀(a b:qks),(∃o u l,a=.ended o u l)->jd f (if(kU d.target && kT g.mode)=true then a else b):=λa b ⟨o,u,l,e⟩=>by
   rw[if_pos k,e];exact qE
  exact this _ _ ⟨_,_,_,rfl⟩
 have i:∀(a b:qks),jd f b->jd f (if(kU d.target && kT g.mode)=true then a else b):=λa b q=>by rw[if_neg k];exact q
 refine i _ _ ?_;simp only[qiE];refine jV ?_;cases qjk Q (invoke d.target d.args) u with
 | ok a w=>
  cases a with
  | recover=>
   dsimp only;split
   ·rename_i e
    have⟨j,p⟩:=Zj h e;exact qX p
   ·exact qX h
  | coroswitch c e=>cases e<;>first | exact qE | exact kg (λ_ _ _ e=>by cases e)
  | alone on v=>cases on<;>first | exact qE | exact kg (λ_ _ _ e=>by cases e)
  | _=>
   first
    | exact qX h
    | exact KQ h
    | exact qE
    | exact kg (λ_ _ _ e=>by cases e)
 | halt x w=>
  cases x with
  | fatal m=>exact Yo
  | throw m=>exact Qz
  | _=>first | exact qX h | exact qE
def Jf{d:qi5}{a pre:List qi5}(h:a=pre++[qk f])(u:qhy):jd f (qmr Q true d a none u):=by
 unfold qmr;split
 ·simp only[qiE];refine jV ?_;split
  ·exact qX h
  ·exact qE
 ·exact KR h _ _
 ·split
  ·exact qE
  ·split
   ·exact qE
   ·cases a with
    | nil=>cases pre<;>simp at h
    | cons c b=>exact xg h λe=>e ▸ q2D _
  ·split
   ·exact xO h _ _
   ·simp only[qiE];refine jV ?_;split
    ·exact xO h _ _
    all_goals exact qE
def q6z(hrf:Q.follows .rangeFuncRecover=true){fr:qi5}{b pre:List qi5}(h:b=pre++[qk f])(u:qhy):jd f (qla Q true true fr b none u):=by
 have a:∀(j:Bool) (d:Option qkk) (s c:String),jd f (match fr.roundOf with
   | none=>if j=true then .go { frame:={ fr with mode:=.returning },callers:=b,status:=.running,dying:=none } u else .ended (.stuck s (fr.pos Q)) u
   | some l=>
    let (r,es):=(ql1 l d).runT Q u #[]
    qjg (seen Q fr.fn es) <| match r with
    | .ok v w=>qkc Q true fr b none v w
    | .halt _ w=>.ended (.stuck c (fr.pos Q)) w):=λj d s c=>by
  split
  ·split
   ·exact qX h
   ·exact qE
  ·simp only[qiE];refine jV ?_;split
   ·exact xO h _ _
   ·exact qE
 unfold qla;dsimp only;split
 ·exact a true _ _ _
 ·exact a true _ _ _
 all_goals first
  | exact qX h
  | exact qE
  | exact kh hrf h _ _
  | (
    generalize qnq _ _=X;cases X
    ·exact a false _ _ _
    ·exact qX h)
  | (
    generalize qo7 _ _=X;cases X
    ·exact a false _ _ _
    ·exact qX h)
  | (
    unfold qox
    repeat' split
    all_goals first
     | exact qX h
     | exact qE
     | exact kh hrf h _ _)
  | (
    simp only[qiE];refine jV ?_
    repeat' split
    all_goals first
     | exact qX h
     | exact qE
     | exact kh hrf h _ _)
  | (
    repeat' split
    all_goals first
     | exact qX h
     | exact qE
     | exact kh hrf h _ _)
  | (
    generalize Extern.next _=X
    cases X
    ·exact qE
    ·exact kh hrf h _ _)
def Qk(hrf:Q.follows .rangeFuncRecover=true){g:qhD}{pre:List qi5}(h:g.callers=pre++[qk f])(a:g.dying=none)(u:qhy):jd f (qjc Q true g u true):=by
 obtain⟨c,i,d,e,b⟩:=g;dsimp only at h a;subst a;unfold qjc;dsimp only;cases c.mode with
 | run=>exact q6z hrf h u
 | returning=>exact Jf h u
 | panicking l=>exact Jf h u
def Qs{b:qi5}(h:Popped f b)(d:ql2)(a:Option (Array qlb × qkA))(u:qhy):∃o c e,qjc Q true { frame:=b,callers:=[],status:=d,dying:=none,offers:=a } u true=.ended o c e:=by
 rcases h with rfl | ⟨l,rfl⟩
 ·exact⟨_,_,_,rfl⟩
 ·exact⟨_,_,_,rfl⟩
end
end
section
def zO(g:qhD)(u:qhy):Machine:={ world:=u,gs:=#[g],rest:={ timers:=#[],alone:=none,slice:=none } }
section
variable{Q:qi4}
def q1F{g:qhD}{u:qhy}(h:g.status=.running):move Q (zO g u)=.goroutine (zO g u) 0:=by
 simp[move,ask,askOn,zO,runnable,runnable.go,due,ahead,Goroutine.canRun,qm5,choose,pure,qjk,Question.forced,h]
def ZU{g a:qhD}{u u1:qhy}{b:Array qjs}(h:g.status=.running)(e:qjc Q true g u true=.go a u1 b):step Q (zO g u)=.next (zO a u1):=by
 rw[step,stepT,q1F h];simp[runT,zO,qsb,e]
def kw{g:qhD}{u u1:qhy}{o:Outcome}{a:Array qjs}(h:g.status=.running)(e:qjc Q true g u true=.ended o u1 a):step Q (zO g u)=.ended o u1:=by
 rw[step,stepT,q1F h];simp[runT,zO,qsb,e]
def q9D{g:qhD}(u:qhy)(h:q5z g):(∃o u1,step Q (zO g u)=.ended o u1)\/∃c u1,step Q (zO g u)=.next (zO c u1)/\q5z c:=by
 have jZ:(g.status=.blocked\/g.status=.waiting\/g.status=.finished)->(∃o u1,step Q (zO g u)=.ended o u1)\/∃c u1,step Q (zO g u)=.next (zO c u1)/\q5z c:=by
  intro x;by_cases p:g.status=.waiting
  ·refine .inr ⟨g,u,?_,.inr (.inl p)⟩;rw[step,stepT];simp[move,ask,askOn,zO,runnable,runnable.go,due,ahead,Goroutine.canRun,qm5,choose,pure,qjk,Question.forced,p]
  ·refine .inl ?_;have j:runnable #[g] u.os.mono=[]:=by
    rcases x with h | h | h<;>simp[runnable,runnable.go,Goroutine.canRun,h]
   have s:∀b,ahead (zO g u) b=none:=by
    intro b;rcases x with h | h | h<;>simp[ahead,zO,h]
   rw[step,stepT];have hm:∃o u1,move Q (zO g u)=.machine (.ended o u1):=by
    have a:=s false;simp only[zO] at a;simp only[move,ask,askOn,zO,j,due,a];simp[pure,qjk,p];split
    ·rename_i t w
     rw[a] at w;cases w
    ·split
     ·exact⟨_,_,rfl⟩
     ·exact⟨_,_,rfl⟩
   obtain⟨o,u1,e⟩:=hm;rw[e];exact⟨o,u1,rfl⟩
 rcases h with h | h | h | ⟨h,d,z,A,y⟩
 ·exact jZ (.inl h)
 ·exact jZ (.inr (.inl h))
 ·exact jZ (.inr (.inr h))
 ·have q:(∃o u1 k,qjc Q true g u true=.ended o u1 k)\/∃c u1 k,qjc Q true g u true=.go c u1 k/\q5z c:=by
   obtain⟨H,L,D,I,C⟩:=g;obtain⟨v,n,l,i,G,B,fatal⟩:=d;dsimp only at h z A y;subst z;subst A;cases fatal with
   | none=>cases y
   | some f=>
    unfold qjc;dsimp only;unfold die writeOn;dsimp only;split
    ·exact .inl ⟨_,_,_,rfl⟩
    ·split
     ·exact .inr ⟨_,_,_,rfl,.inr (.inr (.inr ⟨rfl,_,rfl,rfl,rfl⟩))⟩
     ·exact .inr ⟨_,_,_,rfl,.inl rfl⟩
     ·exact .inl ⟨_,_,_,rfl⟩
     ·exact .inl ⟨_,_,_,rfl⟩
  rcases q with⟨o,u1,k,e⟩ | ⟨c,u1,k,e,r⟩
  ·exact .inl ⟨o,u1,kw h e⟩
  ·exact .inr ⟨c,u1,ZU h e,r⟩
def q79:∀(n:Nat) {g c:qhD} {u u1:qhy},q5z g->runN Q n (zO g u)=.next (zO c u1)->¬ Live c:=by
 intro n;induction n with
 | zero=>
  intro g c u u1 b e k;simp only[runN,Stepped.next.injEq,zO,Machine.mk.injEq] at e;obtain⟨_,e,_⟩:=e;have e:g=c:=by simpa using e
  subst e;obtain⟨a,i⟩:=k;rcases b with h | h | h | ⟨h,d,b,_⟩
  ·rw[h] at a;cases a
  ·rw[h] at a;cases a
  ·rw[h] at a;cases a
  ·rw[b] at i;cases i
 | succ n j=>
  intro g c u u1 b e;rcases q9D (Q:=Q) u b with⟨o,u2,h⟩ | ⟨l,u2,h,f⟩
  ·rw[runN,h] at e;cases e
  ·rw[runN,h] at e;exact j f e
end
section
variable[JunkSet]{Q:qi4}{base:Nat}{F:qhD->qhy->Prop}
def LP.of_runs(H:Duo Q Q){f:qjf}:∀(n:Nat) {g g1:qhD} {u u1:qhy} {pre:List qi5},xV Q base g u->Live g->g.callers=pre++[qk f] ->runN Q n (zO g u)=.next (zO g1 u1)->Live g1->(∃b,g1.callers=b++[qk f])->F g1 u1->LP Q F g u:=by
 intro n;induction n with
 | zero=>
  intro g g1 u u1 pre q k t e h _ v;simp only[runN,Stepped.next.injEq,zO,Machine.mk.injEq] at e;obtain⟨O,e,_⟩:=e;have e:g=g1:=by simpa using e
  subst e;subst O;exact .done v
 | succ n G=>
  intro g g1 u u1 pre q k t e h j v;have B:=q.one H;cases hs:qjc Q true g u true with
  | go w u2 D=>
   rw[runN,ZU k.1 hs] at e;have c:=B.flat;rw[hs] at c;have r:g.callers≠[]:=by rw[t];simp
   rcases c with a | I | s
   ·have p:=q.next H hs a.1 a.2
    rcases Qk (f:=f) H.rfr t k.2 u w u2 D hs a.1 a.2 with⟨x,d⟩ | ⟨d,A⟩
    ·exact .step hs a.1 a.2 (G p a d e h j v)
    ·exfalso;cases n with
     | zero=>
      simp only[runN,Stepped.next.injEq,zO,Machine.mk.injEq] at e;obtain⟨_,e,_⟩:=e;have e:w=g1:=by simpa using e
      subst e;obtain⟨b,C⟩:=j;rw[d] at C;cases b<;>simp at C
     | succ n=>
      obtain⟨M,R,l,P,i⟩:=w;obtain⟨z,y⟩:=a;dsimp only at d A z y;subst d;subst y;have⟨o,u3,N,L⟩:=Qs (Q:=Q) A l i u2;unfold runN at e;dsimp only at e;rw[kw z L] at e;cases e
   ·exact absurd h (q79 n I e)
   ·exact absurd s r
  | ended o u2 D=>
   rw[runN,kw k.1 hs] at e;cases e
  | _=>have c:=B.flat;rw[hs] at c;exact c.elim
def AtRet(Q:qi4)(f:qjf)(a:List qi5)(R:Ending->qhy->Prop)(g:qhD)(u:qhy):Prop :=
 Live g/\g.callers=a/\g.frame.fn=f/\∃T e,R e (u.tp T)/\g.frame.leaving Q (u.tp T) e
def AtRet.tape{f:qjf}{a:List qi5}{R:Ending->qhy->Prop}{g:qhD}{u:qhy}(T:Nat->qk9->Nat)(h:AtRet Q f a R g u):AtRet Q f a R g (u.tp T):=by
 obtain⟨j,i,d,k,e,c,b⟩:=h;exact⟨j,i,d,k,e,c,b⟩
def yw(Q:qi4)(f:qjf)(a:Array qhC)(b:List qi5):qhD:={ frame:=qj1 Q f a .normal,callers:=b,status:=.running,dying:=none }
def LT.of_calls(H:Duo Q Q){f:qjf}{a:Array qhC}{w:qhy}{R:Ending->qhy->Prop}(s:∀T,qiw Q f a (w.tp T) R)(i:∀u,¬ R .outgrown u)(o:xV Q base (yw Q f a [qk f]) w):LT Q (AtRet Q f [qk f] R) (yw Q f a [qk f]) w:=by
 refine LT.of_all H (λg u T h=>h.tape T) o λT=>?_;have⟨e,l,q,p,b,k,j⟩:=s T [qk f];have d:Steps Q (lone (qj1 Q f a .normal) [qk f] (w.tp T)) (lone q [qk f] l):=by
  cases e with
  | returned v=>exact b
  | panicked c=>exact b
  | outgrown=>exact absurd p (i _)
 obtain⟨n,r⟩:=d;exact LP.of_runs H (f:=f) n (g:=yw Q f a [qk f]) (g1:={ frame:=q,callers:=[qk f],status:=.running,dying:=none }) (u:=w.tp T) (pre:=[]) (o.tape T) ⟨rfl,rfl⟩ rfl r ⟨rfl,rfl⟩ ⟨[],rfl⟩ ⟨⟨rfl,rfl⟩,rfl,k,l.tape,e,p,j⟩
end
end
section
section
variable[JunkSet]{Q P:qi4}{Z:Ren}{base:Nat}{wq w:qhy}{F:qhD->qhy->Prop}
def LT.next{g:qhD}{u:qhy}(h:LT Q F g u)(d:¬ F g u)(T:Nat->qk9->Nat):∃a u1 b,qjc Q true g (u.tp T) true=.go a u1 b/\a.status=.running/\a.dying=none/\LT Q F a u1:=by
 cases h with
 | done h=>exact absurd h d
 | step _ k j=>
  have⟨a,u1,b,e,c,i⟩:=k T;exact⟨a,u1,b,e,c,i,j T a u1 b e⟩
def Below(Q:qi4)(F:qhD->qhy->Prop)(a b:qhD × qhy):Prop :=
 ¬ F b.1 b.2/\∃T c,qjc Q true b.1 (b.2.tp T) true=.go a.1 a.2 c
def LT.acc{g:qhD}{u:qhy}(h:LT Q F g u):Acc (Below Q F) (g,u):=by
 induction h with
 | done h=>exact .intro _ λy a=>absurd h a.1
 | step _ _ _ b=>exact .intro _ λy a=>let ⟨T,es,e⟩:=a.2;b T y.1 y.2 es e
def KL(H:Duo Q P)(r:base<=Z.length)(c:WR Q base Z wq w)(s:Gl P Z){g x:qhD}(v:ve Q P Z g x)(G:LT Q F g wq)(u:¬ F g wq)(b:Bool) :∃O f d a h j,qjc P b x w true=.go a h j/\q0n Q P O f a/\WR Q base O d h/\Gl P O/\base<=O.length/\LT Q F f d/\Below Q F (f,d) (g,wq)/\Eff base Z O w h/\(∀e∈j,vg base O e)/\f.status=.running/\f.dying=none:=by
 let T:Nat->qk9->Nat:=λn q=>w.tape (n - wq.drawn+w.drawn) q
 have⟨f,u1,j,e,l,p,o⟩:=G.next u T
 have i:WR Q base Z (wq.tp T) w:=⟨c.len,c.nodup,c.lt,c.obj,c.low,c.env,c.below,c.gar⟩;have D:=q4s H r i s v;have hm:=(D.go _ _ _ e l p).2.1;have C:zD u1.drawn (wq.tp T) w:=λn q _=>by
  show w.tape (wq.drawn+n - wq.drawn+w.drawn) q=w.tape (w.drawn+n) q;rw[show wq.drawn+n - wq.drawn+w.drawn=w.drawn+n by omega]
 have⟨O,a,h,t,B,A,z,_,k,y,_⟩:=q1w H r i s C hm v b _ _ _ e (qhz _) l p;exact⟨O,f,u1,a,h,t,B,A,z,s.mono k.le,qi1 r k.le.len,o,⟨u,T,j,e⟩,k,y,l,p⟩
def WR.rely(h:WR Q base Z wq w){a:qhy}(g:w.heap.size<=a.heap.size)(b:a.os.env=w.os.env)(p:∀i j,BR Z i j->¬ JunkSet.jk i->a.heap[j]?=w.heap[j]?)(q:∀i j,BR Z i j->JunkSet.jk i->∃c e f,a.heap[j]?=some (.cells c e f)):WR Q base Z wq a where
 len:=h.len
 nodup:=h.nodup
 lt i j hb:=qia (h.lt i j hb) g
 obj i j o hb ho:=by
  rcases h.obj i j o hb ho with⟨d,l,k,_⟩ | ⟨d,n,l,k⟩
  ·exact .inl ⟨d,l,k,q i j hb d⟩
  ·exact .inr ⟨d,n,by rw[p i j hb d];exact l,k⟩
 low:=h.low
 env:=h.env.trans b.symm
 below:=h.below
 gar:=h.gar
end
end
section
def q8h(g:qhD):Prop:=∀r a k,g.frame.todo≠.extern r a::k
def swap(real:List qi5)(g:qhD):qhD:={ g with callers:=g.callers.dropLast++real }
def zz(real:List qi5)(r c:qks):Prop:=∀a u1 b,r=.go a u1 b->Live a->a.callers≠[]->q8h a->c=.go (swap real a) u1 b
section
variable[JunkSet]{P:qi4}{f:qjf}{real:List qi5}
def vP{r a:qks}{b:Array qjs}(h:zz real r a):zz real (qjg b r) (qjg b a):=λk u1 j e d g c=>by
 obtain⟨l,i,rfl⟩:=ja e;rw[h _ _ _ i d g c];rfl
def z8{o:Outcome}{u:qhy}{b:Array qjs}{a:qks}:zz real (.ended o u b) a:=λ_ _ _ e _ _ _=>by cases e
def Qi{r b:qks}(h:∀g u a,r≠.go g u a):zz real r b:=λg u a e _ _ _=>absurd e (h g u a)
def qdn{g:qhD}{u:qhy}{c:Array qjs}{a:qks}(h:¬ Live g):zz real (.go g u c) a:=λ_ _ _ e b _ _=>by cases e;exact absurd b h
def q41{c:qi5}{d:List qi5}{m:String}{u:qhy}{a:qks}:zz real (qp0 P c d none m u) a:=λg u1 h e b _ _=>absurd b.2 (zd e)
def Ke{b:qi5}{m:String}{u:qhy}{a:qks}:zz real (qoj b m u) a:=qdn λh=>by cases h.2
def yD{c:qi5}{pre:List qi5}{b:ql2}{g:Option qnd}{a:Option (Array qlb × qkA)}{u:qhy}{d:Array qjs} :zz real (.go { frame:=c,callers:=pre++[qk f],status:=b,dying:=g,offers:=a } u d) (.go { frame:=c,callers:=pre++real,status:=b,dying:=g,offers:=a } u d):=λ_ _ _ e _ _ _=>by
 cases e;simp[swap]
def q7r{d a:qi5}{pre:List qi5}{c:ql2}{g:Option qnd}{b:Option (Array qlb × qkA)}{u:qhy}{e:Array qjs} :zz real (.go { frame:=d,callers:=a::(pre++[qk f]),status:=c,dying:=g,offers:=b } u e) (.go { frame:=d,callers:=a::(pre++real),status:=c,dying:=g,offers:=b } u e) :=
 yD (pre:=a::pre)
def qfn{d a:qi5}{X pre:List qi5}{c:ql2}{h:Option qnd}{b:Option (Array qlb × qkA)}{u:qhy}{g:Array qjs} :zz real (.go { frame:=d,callers:=X++a::(pre++[qk f]),status:=c,dying:=h,offers:=b } u g) (.go { frame:=d,callers:=X++a::(pre++real),status:=c,dying:=h,offers:=b } u g):=λ_ _ _ e _ _ _=>by
 cases e;have:X++a::(pre++[qk f])=(X++a::pre)++[qk f]:=by simp
 simp only[swap,this,qp1];simp
def qaz{d:qi5}{a:ql2}{h:Option qnd}{u:qhy}{g:Array qjs}{b:qks}:zz real (.go { frame:=d,callers:=[],status:=a,dying:=h } u g) b:=λ_ _ _ e _ c _=>by
 cases e;exact absurd rfl c
def qaA{b:qi5}{l:List qi5}{c:ql2}{j:Option qnd}{u:qhy}{i:Array qjs}{d:qks}{x:String}{a:Array qhC}{k:List qm1}(h:b.todo=.extern x a::k):zz real (.go { frame:=b,callers:=l,status:=c,dying:=j } u i) d:=λ_ _ _ e _ _ g=>by
 cases e;exact absurd h (g _ _ _)
def yj(a:qi5):qis a [qk f]=none:=by
 unfold qis;cases a.kind<;>rfl
def J4(g:∀b,qis b real=none):∀(pre:List qi5) (b:qi5),(qis b (pre++[qk f])=none/\qis b (pre++real)=none)\/∃v a,qis b (pre++[qk f])=some (v,a++[qk f])/\qis b (pre++real)=some (v,a++real):=by
 intro pre;induction pre with
 | nil=>intro b;exact .inl ⟨yj b,g b⟩
 | cons p pre e=>
  intro b;simp only[qi9];unfold qis;cases hk:b.kind with
  | deferred=>
   dsimp only;split
   ·exact .inr ⟨_,_::pre,rfl,rfl⟩
   ·exact .inl ⟨rfl,rfl⟩
  | wrapped=>
   dsimp only;rcases e p with⟨d,c⟩ | ⟨v,a,d,c⟩
   ·rw[d,c];exact .inl ⟨rfl,rfl⟩
   ·rw[d,c];exact .inr ⟨v,p::a,rfl,rfl⟩
  | _=>exact .inl ⟨rfl,rfl⟩
def Jv{a:qi5}{pre:List qi5}(b c:Bool)(v:qhC)(u:qhy):zz real (qkc P b a (pre++[qk f]) none v u) (qkc P c a (pre++real) none v u):=by
 unfold qkc;cases pre with
 | nil=>
  simp only[qin];split<;>exact qaz
 | cons p pre=>
  simp only[qi9];split<;>exact yD
def qaB{a:qi5}{pre:List qi5}(g:Nat)(u:qhy):zz real (early P a (pre++[qk f]) none g u) (early P a (pre++real) none g u):=by
 unfold early;dsimp only
 repeat' split
 all_goals first
  | exact yD
  | exact z8
  | exact qfn
def Qj(hrf:P.follows .rangeFuncRecover=true)(i:∀b,qis b real=none){b:qi5}{pre:List qi5}(s:Sem qmt)(u:qhy):zz real (qjp P true b (pre++[qk f]) none s u) (qjp P true b (pre++real) none s u):=by
 unfold qjp;simp only[if_true,qiE,hrf];refine vP ?_;cases s.run P u with
 | ok a w=>
  cases a with
  | recover=>
   rcases J4 (f:=f) i pre b with⟨h,g⟩ | ⟨v,c,h,g⟩<;>cases hro:b.roundOf<;>simp only[h,g,hro]<;>exact yD
  | stack r j=>
   dsimp only;split
   ·exact qaA rfl
   ·exact qaA rfl
  | spawn d=>
   dsimp only
   repeat' split
   all_goals first
    | exact Ke
    | exact Qi (λ_ _ _ e=>by cases e)
  | _=>
   dsimp only
   repeat' split
   all_goals first
    | exact yD
    | exact q7r
    | exact Qi (λ_ _ _ e=>by cases e)
 | halt x w=>
  cases x with
  | fatal m=>exact q41
  | throw m=>exact Ke
  | unsupported x=>cases x<;>first | exact qaB _ _ | exact z8
  | _=>first | exact yD | exact z8
def q42(t:∀g,qis g real=none){g:qi5}{pre:List qi5}(d:qk6)(u:qhy):zz real (qk8 P g (pre++[qk f]) none d u) (qk8 P g (pre++real) none d u):=by
 unfold qk8;by_cases h:(kU d.target && kT g.mode)=true
 ·have:∀(a b k:qks),(∃o u q,a=.ended o u q)->zz real (if(kU d.target && kT g.mode)=true then a else b) k:=λa b k ⟨o,u,q,e⟩=>by
   rw[if_pos h,e];exact z8
  exact this _ _ _ ⟨_,_,_,rfl⟩
 have i:∀(a b r j:qks),zz real b j->zz real (if(kU d.target && kT g.mode)=true then a else b) (if(kU d.target && kT g.mode)=true then r else j):=λa b r j s=>by rw[if_neg h,if_neg h];exact s
 refine i _ _ _ _ ?_;simp only[qiE];refine vP ?_;cases qjk P (invoke d.target d.args) u with
 | ok a w=>
  cases a with
  | recover=>
   dsimp only;rcases J4 (f:=f) t pre g with⟨p,n⟩ | ⟨v,l,p,n⟩<;>rw[p,n]<;>cases g.mode<;>exact yD
  | coroswitch c e=>cases e<;>first | exact z8 | exact Qi (λ_ _ _ e=>by cases e)
  | alone on v=>cases on<;>first | exact z8 | exact Qi (λ_ _ _ e=>by cases e)
  | _=>
   first
    | exact yD
    | exact q7r
    | exact z8
    | exact Qi (λ_ _ _ e=>by cases e)
 | halt x w=>
  cases x with
  | fatal m=>exact q41
  | throw m=>exact Ke
  | _=>first | exact yD | exact z8
def q1g(c:∀a,qis a real=none){a:qi5}{pre:List qi5}(b d:Bool)(u:qhy):zz real (qmr P b a (pre++[qk f]) none u) (qmr P d a (pre++real) none u):=by
 unfold qmr;split
 ·simp only[qiE];refine vP ?_;split
  ·exact yD
  ·exact z8
 ·exact q42 c _ _
 ·split
  ·exact z8
  ·split
   ·exact z8
   ·cases pre with
    | nil=>exact qaz
    | cons p pre=>exact yD
  ·split
   ·exact Jv _ _ _ _
   ·simp only[qiE];refine vP ?_;split
    ·exact Jv _ _ _ _
    all_goals exact z8
def qdm(hrf:P.follows .rangeFuncRecover=true)(c:∀fr,qis fr real=none){fr:qi5}{pre:List qi5}(b g:Bool)(u:qhy) :zz real (qla P b true fr (pre++[qk f]) none u) (qla P g true fr (pre++real) none u):=by
 have a:∀(j:Bool) (e:Option qkk) (s d:String),zz real (match fr.roundOf with
   | none=>if j=true then .go { frame:={ fr with mode:=.returning },callers:=pre++[qk f],status:=.running,dying:=none } u else .ended (.stuck s (fr.pos P)) u
   | some l=>
    let (r,es):=(ql1 l e).runT P u #[]
    qjg (seen P fr.fn es) <| match r with
    | .ok v w=>qkc P b fr (pre++[qk f]) none v w
    | .halt _ w=>.ended (.stuck d (fr.pos P)) w) (match fr.roundOf with
   | none=>if j=true then .go { frame:={ fr with mode:=.returning },callers:=pre++real,status:=.running,dying:=none } u else .ended (.stuck s (fr.pos P)) u
   | some l=>
    let (r,es):=(ql1 l e).runT P u #[]
    qjg (seen P fr.fn es) <| match r with
    | .ok v w=>qkc P g fr (pre++real) none v w
    | .halt _ w=>.ended (.stuck d (fr.pos P)) w):=λj e s d=>by
  split
  ·split
   ·exact yD
   ·exact z8
  ·simp only[qiE];refine vP ?_;split
   ·exact Jv _ _ _ _
   ·exact z8
 unfold qla;dsimp only;split
 ·exact a true _ _ _
 ·exact a true _ _ _
 all_goals first
  | exact yD
  | exact z8
  | exact Qj hrf c _ _
  | (
    generalize qnq _ _=X;cases X
    ·exact a false _ _ _
    ·exact yD)
  | (
    generalize qo7 _ _=X;cases X
    ·exact a false _ _ _
    ·exact yD)
  | (
    unfold qox
    repeat' split
    all_goals first
     | exact yD
     | exact z8
     | exact Qj hrf c _ _)
  | (
    simp only[qiE];refine vP ?_
    repeat' split
    all_goals first
     | exact yD
     | exact z8
     | exact Qj hrf c _ _)
  | (
    repeat' split
    all_goals first
     | exact yD
     | exact z8
     | exact Qj hrf c _ _)
  | (
    generalize Extern.next _=X
    cases X
    ·exact z8
    ·exact Qj hrf c _ _)
def q1f(hrf:P.follows .rangeFuncRecover=true)(c:∀d,qis d real=none){g:qhD}{pre:List qi5}(h:g.callers=pre++[qk f])(e:g.dying=none)(b a:Bool)(u:qhy) :zz real (qjc P b g u true) (qjc P a (swap real g) u true):=by
 obtain⟨d,n,j,k,i⟩:=g;dsimp only at h e;subst e;subst h;unfold qjc;simp only[swap,qp1];cases d.mode with
 | run=>exact qdm hrf c b a u
 | returning=>exact q1g c b a u
 | panicking l=>exact q1g c b a u
end
end
section
section
variable[JunkSet]{Q P:qi4}{base:Nat}{F:qhD->qhy->Prop}{f:qjf}{real:List qi5}
def q7g{Z:Ren}{b:qi5}(h:qx Q P Z (qk f) b):b=qk f:=by
 obtain⟨D,g,e,c,i,n,x⟩:=b;obtain⟨j,_,_,w,v,u,s,r,q⟩:=h;dsimp only[qk] at j w v u s r q;have C:g=#[]:=by
  have:=w.1;exact qmG (by simpa using this.symm)
 have B:e=[.code (.exit 0)]:=by
  cases v with
  | cons k l=>cases k;cases l;rfl
 have A:c=[{ target:=.nil,args:=#[] }]:=by
  cases u with
  | cons k l=>
   cases l
   rename_i d
   obtain⟨t,a⟩:=d;rcases k with⟨o,p⟩ | ⟨j,_,_⟩
   case bound=>cases j
   dsimp only at o p;cases o;have:a=#[]:=qmG (by simpa using p.1.symm);rw[this]
 have z:i=.run:=by cases s;rfl
 have y:x=none:=by
  rcases q with⟨_,h⟩ | ⟨_,_,h,_⟩
  ·exact h
  ·cases h
 subst C B A z y;subst j;subst r;rfl
def vS{Z:Ren}:∀{pre b:List qi5},LsR (qx Q P Z) (pre++[qk f]) b->∃a,b=a++[qk f]/\LsR (qx Q P Z) pre a:=by
 intro pre;induction pre with
 | nil=>
  intro b h;cases h with
  | cons c d=>cases d;exact⟨[],by rw[q7g c];rfl,.nil⟩
 | cons p pre g=>
  intro b h;cases h with
  | cons c d=>
   have⟨a,e,i⟩:=g d;exact⟨_::a,by rw[e];rfl,.cons c i⟩
structure Sub(Q P:qi4)(base:Nat)(F:qhD->qhy->Prop)(f:qjf)(real:List qi5)(Z:Ren)(g:qhD)(wq:qhy)(g':qhD)(w:qhy):Prop where
 len:base<=Z.length
 wr:WR Q base Z wq w
 gl:Gl P Z
 tree:LT Q F g wq
 stack:∃pre,g.callers=pre++[qk f]
 rel:∃gv,ve Q P Z g gv/\g'=swap real gv
def KE{Z:Ren}{g b:qhD}(h:ve Q P Z g b):q8h b:=λr a k e=>by
 have:=h.frame.todo;rw[e] at this;generalize g.frame.todo=l at this;cases this with
 | cons c _=>cases c
def Sub.ret(H:Duo Q P){c:qi5}{Z:Ren}{g:qhD}{o:qhy}{g':qhD}{w:qhy}(h:Sub Q P base F f (c::real) Z g o g' w)(A:g.callers=[qk f]){T:Nat->qk9->Nat}{v:qhC}(U:g.frame.leaving Q (o.tp T) (.returned v))(b:Bool) :∃O p v' C es,qjc P b g' w true=.go { frame:=c.finish v',callers:=real,status:=.running,dying:=none } C es/\VR O v v'/\WR Q base O p C/\p=o.tp T/\Eff base Z O w C/\(∀e∈es,vg base O e):=by
 obtain⟨gv,hg,rfl⟩:=h.rel;obtain⟨hm,hd,hk,j,x,i⟩:=U;obtain⟨fr,cs,st,dy,c9⟩:=g;obtain⟨a,a9,G,g5,s⟩:=gv;obtain⟨k,h2,h3,h4,h5,h6⟩:=hg;dsimp only at k h2 h3 h4 h5 h6 hm hd hk x i A;subst h6;subst A;have⟨b0,R,U⟩:=vS (pre:=[]) h2;cases U;have R:a9=[qk f]:=R;subst R;have⟨gf,t,W⟩:=k.same;have X:j=gf:=by rw[x] at t;exact qkH t
 subst X;have S:a.mode=.returning:=by
  have:=k.mode;rw[hm] at this;generalize a.mode=m at this;cases this;rfl
 have a8:a.defers=[]:=by
  have:=k.defers;rw[hd] at this;generalize a.defers=m at this;cases this;rfl
 have V:a.kind=.normal:=k.kind.trans hk;have hs:=Zx H h.gl j k.tmps (Q:=Q) (P:=P);have z:=Dry.run Q (w:=o.tp T) (Yt j fr.tmps);have L:WR Q base Z (o.tp T) w:=⟨h.wr.len,h.wr.nodup,h.wr.lt,h.wr.obj,h.wr.low,h.wr.env,h.wr.below,h.wr.gar⟩;have⟨O,c8,B,l,d,a6,Y,I,_,a7,_⟩:=SR.runs (es:=#[]) (D:=(o.tp T).drawn) hs h.len L (λn q hn=>absurd hn (by omega)) (qn5 z) (by rw[i];trivial);rw[i] at d;have M:∀{v'},qjk P (qkh j a.tmps) w=.ok v' B->qjc P b (swap (c::real) { frame:=a,callers:=[qk f],status:=G,dying:=none,offers:=s }) w true =
   .go { frame:=c.finish v',callers:=real,status:=.running,dying:=none } B (seen P a.fn l):=by
  intro v' N;have y:(qkh j a.tmps).events P w #[]=l:=by
   show((qkh j a.tmps).runT P w #[]).2=l;rw[a6];simp
  have u:P.funcs[a.fn]?=some j:=by rw[k.fn];exact W
  simp[qjc,swap,S,qmr,a8,u,qiE,N,y,qkc,V,qjg]
 generalize N:qjk P (qkh j a.tmps) w=r at d;cases d with
 | ok _ _ hv=>exact⟨O,_,_,B,_,M N,hv,I,rfl,a7,λe he=>Y e (kR _ _ _ e he)⟩
def q3o{Z:Ren}(c:Q.inits.idxOf? f=none)(b:∃g,Q.funcs[f]?=some g/\P.funcs[f]?=some g):qx Q P Z (qk f) (qk f) :=
 ⟨rfl,b,c,⟨rfl,λi x y a=>by simp[qk] at a⟩,.cons (.code (.exit 0)) .nil,.cons (.mk .nil ⟨rfl,λi x y a=>by simp at a⟩) .nil,.run,rfl,.inl ⟨rfl,rfl⟩⟩
def q02(H:Duo Q P){Z:Ren}(c:JunkSet.okf f)(b:Q.funcs[f]?=P.funcs[f]?){a i:Array qhC}(j:AsR Z a i):ve Q P Z (yw Q f a [qk f]) (yw P f i [qk f]):=by
 have⟨k,h,g,d,_⟩:=H.funcs f c;have e:h=k:=by rw[g,d] at b;exact(qkH b).symm
 subst e;exact⟨qcs H c b j .normal,.cons (q3o (H.inits f c) ⟨h,g,d⟩) .nil,rfl,rfl,rfl,rfl⟩
def Sub.enter(H:Duo Q P){Z:Ren}(h:JunkSet.okf f)(g:Q.funcs[f]?=P.funcs[f]?){a c:Array qhC}(j:AsR Z a c){b w:qhy}(i:base<=Z.length)(d:WR Q base Z b w)(k:Gl P Z)(e:LT Q F (yw Q f a [qk f]) b) :Sub Q P base F f real Z (yw Q f a [qk f]) b { frame:=qj1 P f c .normal,callers:=real,status:=.running,dying:=none } w :=
 ⟨i,d,k,e,⟨[],rfl⟩,yw P f c [qk f],q02 H h g j,rfl⟩
end
end
section
section
variable[JunkSet]{Q:qi4}{Z:Ren}{base:Nat}{wq w:qhy}
end
end
section
section
variable[JunkSet]{Q P:qi4}{base:Nat}{F:qhD->qhy->Prop}{f:qjf}{real:List qi5}
structure qhn(Q P:qi4)(base:Nat)(F:qhD->qhy->Prop)(f:qjf)(real:List qi5)(Z:Ren)(fk:qjf)(k:CallKind)(a a':Array qhC)(c c':qi5)(pre pre':List qi5)(wq w:qhy):Prop where
 len:base<=Z.length
 wr:WR Q base Z wq w
 gl:Gl P Z
 tree:LT Q F { frame:=qj1 Q fk a k,callers:=c::(pre++[qk f]),status:=.running,dying:=none } wq
 diff:Q.funcs[fk]?≠P.funcs[fk]?
 okf:JunkSet.okf fk
 args:AsR Z a a'
 top:qx Q P Z c c'
 rest:LsR (qx Q P Z) pre pre'
def Sub.stepK(H:Duo Q P)(hrf:P.follows .rangeFuncRecover=true)(hR:∀fr,qis fr real=none){Z:Ren}{g:qhD}{U:qhy}{g':qhD}{w:qhy}(h:Sub Q P base F f real Z g U g' w)(hn:¬ F g U)(b:Bool)(hF:∀g u,F g u->g.callers≠[]) :∃O z i D A N,qjc P b g' w true=.go D A N/\Below Q F (z,i) (g,U)/\Eff base Z O w A/\(∀e∈N,vg base O e)/\Live D /\(Sub Q P base F f real O z i D A\/∃fk k a a' c S pre t,qhn Q P base F f real O fk k a a' c S pre t i A /\z={ frame:=qj1 Q fk a k,callers:=c::(pre++[qk f]),status:=.running,dying:=none } /\D={ frame:=qj1 P fk a' k,callers:=S::(t++real),status:=.running,dying:=none }):=by
 obtain⟨gv,R,rfl⟩:=h.rel;have⟨pre,y⟩:=h.stack;have a6:=R.callers;rw[y] at a6;have⟨t,v,_⟩:=vS a6;have⟨O,z,i,M,A,N,k0,B,k2,k3,k4,k5,k6,k7,k8,W,C⟩:=KL H h.len h.wr h.gl R h.tree hn b;obtain⟨_,T,G,e1⟩:=k6;dsimp only at e1;have X:Q.follows .rangeFuncRecover=true:=H.rfr;have s:z.callers≠[]:=λs=>by
  rcases Qk (f:=f) X y R.dy (U.tp T) z i G e1 W C with⟨d,I⟩ | ⟨_,hp⟩
  ·rw[s] at I;cases d<;>simp at I
  ·cases k5 with
   | done I=>exact hF _ _ I s
   | step _ h1 _=>
    have⟨g2,u2,l4,e2,_,_⟩:=h1 i.tape;obtain⟨h8,l6,b0,l5,V⟩:=z;dsimp only at s hp C;subst s;subst C;have⟨o,u3,k9,h3⟩:=Qs (Q:=Q) hp b0 V (i.tp i.tape);rw[h3] at e2;cases e2
 have b7:∃d,z.callers=d++[qk f]:=by
  rcases Qk (f:=f) X y R.dy (U.tp T) z i G e1 W C with I | ⟨I,_⟩
  ·exact I
  ·exact absurd I s
 obtain⟨d,q⟩:=b7;rcases B with⟨_,B⟩ | ⟨fk,k,a,a',c,S,cs,l7,b9,b8,rfl,rfl,ha,hc,n,hm⟩
 ·have n:=B.callers;rw[q] at n;have⟨j,Y,_⟩:=vS n;have L:=q1f hrf hR (f:=f) v R.dy' b b w M A N k0 ⟨B.st',B.dy'⟩ (by rw[Y];simp) (KE B);exact⟨O,z,i,swap real M,A,N,L,⟨hn,T,G,e1⟩,k7,k8,⟨B.st',B.dy'⟩,.inl ⟨k4,k2,k3,k5,⟨d,q⟩,M,B,rfl⟩⟩
 ·cases d with
  | nil=>
   exfalso;simp only[qin,ql3] at q;rw[q.1] at hm;rcases hm with hm | hm
   ·exact hm rfl
   ·exact hm _ _ rfl
  | cons p d=>
   simp only[qi9,ql3] at q;obtain⟨rfl,rfl⟩:=q;obtain⟨j,rfl,hl⟩:=vS n;have L:=q1f hrf hR (f:=f) v R.dy' b b w _ A N k0 ⟨rfl,rfl⟩ (by simp) (by intro r x l hx;unfold qj1 at hx;simp at hx);refine⟨O,_,i,_,A,N,L,⟨hn,T,G,e1⟩,k7,k8,⟨rfl,rfl⟩,.inr ⟨fk,k,a,a',c,S,d,j,⟨k4,k2,k3,k5,b9,b8,ha,hc,hl⟩,rfl,?_⟩⟩;have:S::(j++[qk f])=(S::j)++[qk f]:=rfl;simp only[swap,this,qp1];rfl
end
end
end Go.Sim
