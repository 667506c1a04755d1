/-
  Part 1 of the proof. PileMend answers true for every list and keeps it. No conditions.
-/
import GoSem.Step
import Derived.StepT
import Derived.Laws.Sem
import Derived.Conc.Events
import Derived.Calls
set_option maxRecDepth 100000
set_option maxHeartbeats 8000000
set_option linter.all false
open Array renaming all_eq_true_iff_forall_mem->qiv,foldl_toList->qmD,forIn_toList->qlb,getD_eq_getD_getElem?->qii,getElem!_eq_getD->qow,getElem?_append->qkg,getElem?_eq_getElem->qhg,getElem?_eq_none_iff->qo4,getElem?_eq_some_iff->qgu,getElem?_map->qmE,getElem?_modify->qld,getElem?_push->ql0,getElem?_setIfInBounds->qhB,getElem?_toList->qma,length_toList->qpj,mapM_eq_mapM_toList->qkv,mem_append->qk8,mem_of_getElem?->qiC,mem_toList_iff->qjl,range->qkA,swapAt!->qqH,toList_zip->qqk
open Bool renaming and_eq_true->qh9,false_eq_true->qho,not_false->qmh,not_true->qmw,or_eq_true->qju
open Classical renaming byContradiction->qin,choose->qk2,choose_spec->qkh
open Go renaming Addr->qi2,BoundsCode->qpy,Calls->qhx,Code->qj9,CommCase->qk7,CommShape->qjw,Deferred->qiE,Dying->qm2,Event->qim,FieldStep->qql,Frame->qgH,FuncId->qi8,GStep->qjo,GoStatus->qjF,Goroutine->qgy,Item->qkz,MapEntry->qki,Next->qlj,Oper->qiu,Operand->qhF,PanicEntry->qlC,Program->qgG,Question->qj1,Result->qla,TypeId->qh5,TypeInfo->qli,Value->qgx,World->qgt,asAddr->qqg,behindNumber->qjm,boundsPanic->ql4,byteOf->qov,byteOfCell->qou,callDeferred->qj0,cellAtBytes->qn1,doReturn->qj4,endFatal->qnu,endThrow->qn8,execOp->qk5,exitTo->qmi,gotoIn->qmF,loadCellsFrom->qnp,loadVar->qq0,movedNumber->qoe,reportChain->qqr,results->qk1,runtimePanic->qkm,sizeOf->qnD,stepG->qi4,storeCells->qo5,tryRecover->qhi,typeHandle->qot,typeInfo->ql1,undef->qgz,underlying->qkc,unwind->qle,yielded->qjn,zeroValue->qlv
open Go.Builtin renaming append_->qlf,cap_->qq2,clear_->qn6,copy_->qoi,firstCells->qpz,holdsCells->qpA,lenOf->qqG,len_->qq1,max2->qr3,max_->qq3,mayShare->qqh,min_->qo1,unsafeAdd_->qj6,zeroCells->qjd
open Go.Frame renaming catches->qok,enter->qhy,eval->qlq,finish->qox,pos->qqm,raise->qp6
open Go.GStep renaming after->qi9,go->qp7
open Go.GStep.go renaming injEq->qkC
open Go.Instr renaming beginRound->qoq,buildSlice->qqj,checkKey->qkB,deferInRound->qpB,endLoop->qps,endRound->qjE,enterLoop->qmA,extract->qpp,fieldAt->qqE,fill->qmg,findAsking->ql5,findKey->qlp,findNow->qnr,getLoop->qpr,index->qn2,indexAt->qpq,keyThatStays->qig,lookup->qmq,makeInterface->qpi,makeMap->qoj,makeSlice->qnE,mapUpdate->qiz,panicnil->qn7,sameBits->qjv,sameNow->qnq,slice->qp5,sliceAt->qqF,sliceBound->qk9,sliceBounds->qof,storeAt->qqD,sureAddr->qqA,takeDeferred->qo7,typeAssert->qkx
open Go.Region renaming wanted->qhD
open Go.Result renaming andThen_ok->qix,evThen_ok->qop
open Go.Sem renaming bind->qme,events_bind->qm1,run->qie,runT->qlu,runT_eq->qhq,run_bind->qiw,setObj->qqz,store->qqf
open Go.World renaming cell?->qhu,farLoad->qpo,farStore->qmf,freeze->qpH,frozen?->qkr,setCell->qja,viewStore->qqu
open Go.stepG renaming apply->qik,exec->qk6,oper->qnh
open List renaming all_eq_true->qhE,cons_append->qha,dropLast_concat->qnv,dropWhile_cons->qpk,foldlM_cons->qqi,foldl_cons->qje,forIn_cons->qqv,getElem?_append_left->qhh,getElem?_eq_some_iff->qh0,mapM_cons->qn5,mem_cons_of_mem->qnt,mem_cons_self->qo6,mem_singleton->qib,mem_toArray->qka,nil_append->qhn,range_succ->qkG
open List.cons renaming injEq->qjG
open Nat renaming add_assoc->qmv,le_of_eq->qkl,le_refl->qgw,le_succ->qqq,le_trans->qgE,lt_irrefl->qm4,lt_of_lt_of_le->qh2,lt_or_ge->qiA,lt_succ_self->qmr
open Option renaming bind_some->qmp,getD_some->qgD,map_some->qij
open Option.some renaming inj->qkk,injEq->qht
open Std.Legacy.Range renaming forIn_eq_forIn_range'->qj2
namespace Go.Sim
section
abbrev Ren:=List (Option Nat)
def BR(Z:Ren)(i j:Nat):Prop:=Z[i]?=some (some j)
def Inj(Z:Ren):Prop:=∀i i' j,BR Z i j->BR Z i' j->i=i'
def Out(Z:Ren)(j:Nat):Prop:=∀i,¬ BR Z i j
def Le(Z O:Ren):Prop:=(∃V,O=Z++V)/\(Inj Z->Inj O)
theorem BR.lt{Z:Ren}{i j:Nat}(h:BR Z i j):i<Z.length:=by
 unfold BR at h;exact(qh0.1 h).1
theorem BR.new(Z:Ren)(j:Nat):BR (Z++[some j]) Z.length j:=by simp[BR]
theorem BR.fn{Z:Ren}{i j k:Nat}(h:BR Z i j)(h':BR Z i k):j=k:=by
 unfold BR at h h';rw[h] at h';exact qkk (qkk h')
theorem Le.refl(Z:Ren):Le Z Z:=⟨⟨[],by simp⟩,id⟩
theorem Le.trans{a b c:Ren}(h:Le a b)(k:Le b c):Le a c:=by
 obtain⟨⟨x,rfl⟩,h2⟩:=h;obtain⟨⟨y,rfl⟩,k2⟩:=k;exact⟨⟨x++y,by simp⟩,λn=>k2 (h2 n)⟩
theorem BR.snoc_cases{Z:Ren}{x:Option Nat}{i j:Nat}(h:BR (Z++[x]) i j):(i<Z.length/\BR Z i j)\/(i=Z.length/\x=some j):=by
 have hl:=h.lt;simp at hl;unfold BR at h ⊢;rcases qiA i Z.length with h1 | h1
 ·rw[qhh h1] at h;exact .inl ⟨h1,h⟩
 ·have e:i=Z.length:=by omega
  subst e;simp at h;exact .inr ⟨rfl,h⟩
theorem Le.snoc(Z:Ren)(j:Nat)(hj:Out Z j):Le Z (Z++[some j]):=⟨⟨[some j],rfl⟩,λn i i' k h h'=>by
 rcases h.snoc_cases with⟨_,h⟩ | ⟨h1,h2⟩<;>rcases h'.snoc_cases with⟨_,h'⟩ | ⟨h1',h2'⟩
 ·exact n i i' k h h'
 ·cases h2';exact absurd h (hj i)
 ·cases h2;exact absurd h' (hj i')
 ·rw[h1,h1']⟩
theorem BR.mono{Z O:Ren}{i j:Nat}(h:BR Z i j)(l:Le Z O):BR O i j:=by
 obtain⟨⟨V,rfl⟩,_⟩:=l;have hl:=h.lt;unfold BR at h ⊢;rw[qhh hl];exact h
def qbg:qgx->Bool
 | .bool _ | .int _ _ | .string _ | .pointer none | .slice none _ _ | .map none | .nilFunc | .nilIface | .agg _ | .tuple _ | .func (.method _) _ _=>false
 | _=>true
class JunkSet where
 jk:Nat->Prop
 okf:qi8->Prop
 okm:String->Prop
 okc:qj9->Prop
 okb:Builtin->Array qh5->Prop
 okg:qi8->Prop
section
variable[JunkSet]
inductive FnR (Z:Ren):Fn->Fn->Prop
 | func (f:qi8):JunkSet.okf f->FnR Z (.func f) (.func f)
 | yield {i j:Nat}:BR Z i j->FnR Z (.yield i) (.yield j)
inductive VR (Z:Ren):qgx->qgx->Prop
 | bool (b:Bool):VR Z (.bool b) (.bool b)
 | int (k:IntKind) (n:Int):VR Z (.int k n) (.int k n)
 | string (s:ByteArray):VR Z (.string s) (.string s)
 | ptrNil:VR Z (.pointer none) (.pointer none)
 | ptr {i j:Nat} (off:Nat) (spot:Option Nat):BR Z i j->VR Z (.pointer (some ⟨i,off,spot⟩)) (.pointer (some ⟨j,off,spot⟩))
 | sliceNil (n c:Nat):VR Z (.slice none n c) (.slice none n c)
 | slice {i j:Nat} (off:Nat) (spot:Option Nat) (n c:Nat):BR Z i j->VR Z (.slice (some ⟨i,off,spot⟩) n c) (.slice (some ⟨j,off,spot⟩) n c)
 | mapNil:VR Z (.map none) (.map none)
 | map {i j:Nat}:BR Z i j->VR Z (.map (some i)) (.map (some j))
 | func {f f':Fn} {a a' c c':Array qgx}:FnR Z f f'->a.size=a'.size->(∀(i:Nat) (x y:qgx),a[i]?=some x->a'[i]?=some y->VR Z x y) ->
   c.size=c'.size->(∀(i:Nat) (x y:qgx),c[i]?=some x->c'[i]?=some y->VR Z x y)->VR Z (.func f a c) (.func f' a' c')
 | nilFunc:VR Z .nilFunc .nilFunc
 | iface (t:qh5) {v v':qgx}:VR Z v v'->VR Z (.iface t v) (.iface t v')
 | nilIface:VR Z .nilIface .nilIface
 | agg {a a':Array qgx}:a.size=a'.size->(∀(i:Nat) (x y:qgx),a[i]?=some x->a'[i]?=some y->VR Z x y)->VR Z (.agg a) (.agg a')
 | tuple {a a':Array qgx}:a.size=a'.size->(∀(i:Nat) (x y:qgx),a[i]?=some x->a'[i]?=some y->VR Z x y)->VR Z (.tuple a) (.tuple a')
 | wild (y:qgx):qbg y=true->VR Z (.chan none) y
 | meth (n:String) (a c:Array qgx):VR Z (.func (.method "") #[.iface 0 .nilIface] #[]) (.func (.method n) a c)
theorem FnR.mono{Z O:Ren}(l:Le Z O){f f':Fn}(h:FnR Z f f'):FnR O f f':=by
 cases h with
 | func f h=>exact .func f h
 | yield h=>exact .yield (h.mono l)
theorem VR.mono{Z O:Ren}(l:Le Z O){v v':qgx}(h:VR Z v v'):VR O v v':=by
 induction h with
 | bool b=>exact .bool b
 | int k n=>exact .int k n
 | string s=>exact .string s
 | ptrNil=>exact .ptrNil
 | ptr off spot h=>exact .ptr off spot (h.mono l)
 | sliceNil n c=>exact .sliceNil n c
 | slice off spot n c h=>exact .slice off spot n c (h.mono l)
 | mapNil=>exact .mapNil
 | map h=>exact .map (h.mono l)
 | func hf h1 _ h2 _ ih1 ih2=>exact .func (hf.mono l) h1 ih1 h2 ih2
 | nilFunc=>exact .nilFunc
 | iface t _ ih=>exact .iface t ih
 | nilIface=>exact .nilIface
 | agg h _ ih=>exact .agg h ih
 | tuple h _ ih=>exact .tuple h ih
 | wild y h=>exact .wild y h
 | meth n a c=>exact .meth n a c
def AsR(Z:Ren)(a b:Array qgx):Prop:=a.size=b.size/\∀(i:Nat) (x y:qgx),a[i]?=some x->b[i]?=some y->VR Z x y
inductive LsR {Y M:Type} (R:Y->M->Prop):List Y->List M->Prop
 | nil:LsR R [] []
 | cons {x:Y} {y:M} {l:List Y} {m:List M}:R x y->LsR R l m->LsR R (x::l) (y::m)
section
variable{Y M:Type}{R:Y->M->Prop}
theorem LsR.imp{S:Y->M->Prop}(h:∀x y,R x y->S x y){l:List Y}{m:List M}(k:LsR R l m):LsR S l m:=by
 induction k with
 | nil=>exact .nil
 | cons a _ ih=>exact .cons (h _ _ a) ih
theorem LsR.length{l:List Y}{m:List M}(h:LsR R l m):l.length=m.length:=by
 induction h with
 | nil=>rfl
 | cons _ _ ih=>simp[ih]
theorem LsR.append{l l':List Y}{m m':List M}(h:LsR R l m)(h':LsR R l' m'):LsR R (l++l') (m++m'):=by
 induction h with
 | nil=>exact h'
 | cons a _ ih=>exact .cons a ih
theorem q6G{l:List Y}{m:List M}:LsR R l m↔l.length=m.length/\∀(i:Nat) (x:Y) (y:M),l[i]?=some x->m[i]?=some y->R x y:=by
 constructor
 ·intro h;refine⟨h.length,?_⟩;induction h with
  | nil=>intro i x y hx;simp at hx
  | cons a _ ih=>
   intro i x y hx hy;cases i with
   | zero=>simp at hx hy;subst hx;subst hy;exact a
   | succ i=>exact ih i x y (by simpa using hx) (by simpa using hy)
 ·rintro⟨h1,h2⟩;induction l generalizing m with
  | nil=>cases m with
   | nil=>exact .nil
   | cons _ _=>simp at h1
  | cons x l ih=>cases m with
   | nil=>simp at h1
   | cons y m=>exact .cons (h2 0 x y rfl rfl) (ih (by simpa using h1) λi a b ha hb=>h2 (i+1) a b (by simpa using ha) (by simpa using hb))
end
section
variable{Z O:Ren}{a b a' b':Array qgx}
theorem zl:AsR Z a b↔LsR (VR Z) a.toList b.toList:=by
 rw[q6G];simp[AsR]
theorem AsR.mono(l:Le Z O)(h:AsR Z a b):AsR O a b:=⟨h.1,λi x y hx hy=>(h.2 i x y hx hy).mono l⟩
theorem AsR.get(h:AsR Z a b){i:Nat}{x:qgx}(hx:a[i]?=some x):∃y,b[i]?=some y/\VR Z x y:=by
 have hi:i<b.size:=h.1 ▸ (qgu.1 hx).1;exact⟨b[i],qhg hi,h.2 i x _ hx (qhg hi)⟩
theorem AsR.get_none(h:AsR Z a b){i:Nat}(hx:a[i]?=none):b[i]?=none:=by
 rw[qo4] at hx ⊢;exact h.1 ▸ hx
theorem AsR.getD(h:AsR Z a b)(i:Nat){d d':qgx}(hd:VR Z d d'):VR Z (a.getD i d) (b.getD i d'):=by
 rw[qii,qii];cases ha:a[i]? with
 | none=>rw[h.get_none ha];exact hd
 | some x=>obtain⟨y,hy,hv⟩:=h.get ha;rw[hy];exact hv
theorem AsR.nil:AsR Z #[] #[]:=⟨rfl,λi x y hx=>by simp at hx⟩
theorem AsR.append(h:AsR Z a b)(h':AsR Z a' b'):AsR Z (a++a') (b++b'):=by
 rw[zl] at *
 simpa using h.append h'
theorem AsR.push(h:AsR Z a b){x y:qgx}(hv:VR Z x y):AsR Z (a.push x) (b.push y):=by
 rw[zl] at *
 simpa using h.append (.cons hv .nil)
theorem AsR.one{x y:qgx}(hv:VR Z x y):AsR Z #[x] #[y]:=by
 rw[zl];exact .cons hv .nil
theorem AsR.set(h:AsR Z a b)(i:Nat){x y:qgx}(hv:VR Z x y):AsR Z (a.setIfInBounds i x) (b.setIfInBounds i y):=by
 refine⟨by simpa using h.1,λj u v hu a6=>?_⟩;rw[qhB] at hu a6;by_cases hij:i=j
 ·subst hij;by_cases hi:i<a.size
  ·rw[if_pos rfl,if_pos hi] at hu;rw[if_pos rfl,if_pos (h.1 ▸ hi)] at a6;cases hu;cases a6;exact hv
  ·rw[if_pos rfl,if_neg hi] at hu;cases hu
 ·rw[if_neg hij] at hu a6;exact h.2 j u v hu a6
theorem AsR.extract(h:AsR Z a b)(i j:Nat):AsR Z (a.extract i j) (b.extract i j):=by
 refine⟨by simp[h.1],λk x y hx hy=>?_⟩;rw[Array.getElem?_extract] at hx hy;split at hx
 ·split at hy
  ·exact h.2 _ x y hx hy
  ·cases hy
 ·cases hx
end
inductive vf:qgx->Prop
 | bool (b:Bool):vf (.bool b)
 | int (k:IntKind) (n:Int):vf (.int k n)
 | string (s:ByteArray):vf (.string s)
 | ptrNil:vf (.pointer none)
 | sliceNil (n c:Nat):vf (.slice none n c)
 | mapNil:vf (.map none)
 | nilFunc:vf .nilFunc
 | nilIface:vf .nilIface
 | agg {a:Array qgx}:(∀(i:Nat) (x:qgx),a[i]?=some x->vf x)->vf (.agg a)
 | tuple {a:Array qgx}:(∀(i:Nat) (x:qgx),a[i]?=some x->vf x)->vf (.tuple a)
theorem vf.vr(Z:Ren){v:qgx}(h:vf v):VR Z v v:=by
 induction h with
 | bool b=>exact .bool b
 | int k n=>exact .int k n
 | string s=>exact .string s
 | ptrNil=>exact .ptrNil
 | sliceNil n c=>exact .sliceNil n c
 | mapNil=>exact .mapNil
 | nilFunc=>exact .nilFunc
 | nilIface=>exact .nilIface
 | agg _ ih=>exact .agg rfl λi x y hx hy=>by rw[hx] at hy;cases hy;exact ih i x hx
 | tuple _ ih=>exact .tuple rfl λi x y hx hy=>by rw[hx] at hy;cases hy;exact ih i x hx
def Ki:qgx->Bool
 | .bool _ | .int _ _ | .string _ | .pointer none | .slice none _ _ | .map none | .nilFunc | .nilIface=>true
 | _=>false
def qbD:qgx->Bool
 | .agg a | .tuple a=>a.toList.all λv=>match v with
   | .agg b | .tuple b=>b.toList.all Ki
   | v=>Ki v
 | v=>Ki v
theorem Kh{v:qgx}(h:Ki v=true):vf v:=by
 cases v with
 | bool b=>exact .bool b
 | int k n=>exact .int k n
 | string s=>exact .string s
 | pointer a=>cases a with
  | none=>exact .ptrNil
  | some _=>cases h
 | slice a n c=>cases a with
  | none=>exact .sliceNil n c
  | some _=>cases h
 | map a=>cases a with
  | none=>exact .mapNil
  | some _=>cases h
 | chan a=>cases h
 | float k b=>cases h
 | complex k a b=>cases h
 | func _ _ _=>cases h
 | nilFunc=>exact .nilFunc
 | iface _ _=>cases h
 | nilIface=>exact .nilIface
 | agg _=>cases h
 | tuple _=>cases h
theorem q13{a:Array qgx}(h:a.toList.all Ki=true)(i:Nat)(x:qgx)(hx:a[i]?=some x):vf x:=by
 rw[qhE] at h;exact Kh (h x (by rw[qjl];exact qiC hx))
theorem q27{v:qgx}(h:qbD v=true):vf v:=by
 have key:∀a:Array qgx,(a.toList.all λv=>match v with
   | .agg b | .tuple b=>b.toList.all Ki
   | v=>Ki v)=true->∀(i:Nat) (x:qgx),a[i]?=some x->vf x:=by
  intro a ha i x hx;rw[qhE] at ha;have:=ha x (by rw[qjl];exact qiC hx);cases x with
  | agg b=>exact .agg (q13 this)
  | tuple b=>exact .tuple (q13 this)
  | _=>exact Kh this
 cases v with
 | agg a=>exact .agg (key a h)
 | tuple a=>exact .tuple (key a h)
 | _=>exact Kh h
structure kb(Z:Ren)(e e':qki):Prop where
 key:VR Z e.key e'.key
 val:VR Z e.val e'.val
 born:e'.born=e.born
inductive ym (Z:Ren):Target->Target->Prop
 | fn {f f':Fn} {c c':Array qgx}:FnR Z f f'->AsR Z c c'->ym Z (.fn f c) (.fn f' c')
 | meth (n:String):JunkSet.okm n->ym Z (.fn (.method n) #[]) (.fn (.method n) #[])
 | nil:ym Z .nil .nil
 | builtin (b:Builtin) (a:Array qh5) (t:qh5) (c:Array Bool):JunkSet.okb b a->ym Z (.builtin b a t c) (.builtin b a t c)
 | collected {i j:Nat}:BR Z i j->ym Z (.collected i) (.collected j)
inductive yO (Z:Ren) (d d':qiE):Prop
 | mk:ym Z d.target d'.target->AsR Z d.args d'.args->yO Z d d'
 | bound:d.target=.fn (.method "") #[]->d.args[0]?=some (.iface 0 .nilIface)->(∃n c,d'.target=.fn (.method n) c)->yO Z d d'
structure QO(Z:Ren)(l l':Loop):Prop where
 state:l'.state=l.state
 pending:l'.pending=l.pending
 fn:l'.fn=l.fn
 tmps:AsR Z l.tmps l'.tmps
 params:l'.params=l.params
 assign:l'.assign=l.assign
 body:l'.body=l.body
 defers:BR Z l.defers l'.defers
 okF:JunkSet.okg l.fn
 okA:JunkSet.okc l.assign
 okB:JunkSet.okc l.body
 okP:∀c,l.pending=some c->JunkSet.okc c
inductive ObR (Z:Ren):Obj->Obj->Prop
 | cells {c c':Array qgx} (e:qh5) {f f':Nat × Nat}:AsR Z c c'->(∀o,f'.1<=o->o<f'.2->f.1<=o/\o<f.2)->ObR Z (.cells c e f) (.cells c' e f')
 | map {es es':Array qki} (clock:Nat):LsR (kb Z) es.toList es'.toList->ObR Z (.map es clock) (.map es' clock)
 | stringIter (s:ByteArray) (p:Nat):ObR Z (.stringIter s p) (.stringIter s p)
 | mapIterNil (a:Nat) (s:Array Nat) (b:Nat):ObR Z (.mapIter none a s b) (.mapIter none a s b)
 | mapIter {i j:Nat} (a:Nat) (s:Array Nat) (b:Nat):BR Z i j->ObR Z (.mapIter (some i) a s b) (.mapIter (some j) a s b)
 | loop {l l':Loop}:QO Z l l'->ObR Z (.loop l) (.loop l')
 | number {i j:Nat} (o:Nat) (s:Option Nat) (lost:Bool):BR Z i j->ObR Z (.number ⟨i,o,s⟩ lost) (.number ⟨j,o,s⟩ lost)
 | deferredNone:ObR Z (.deferred none) (.deferred none)
 | deferred {l l':List qiE}:LsR (yO Z) l l'->ObR Z (.deferred (some l)) (.deferred (some l'))
section
variable{Z O:Ren}
theorem kb.mono(l:Le Z O){a b:qki}(h:kb Z a b):kb O a b:=⟨h.key.mono l,h.val.mono l,h.born⟩
theorem ym.mono(l:Le Z O){a b:Target}(h:ym Z a b):ym O a b:=by
 cases h with
 | fn h1 h2=>exact .fn (h1.mono l) (h2.mono l)
 | meth n h=>exact .meth n h
 | nil=>exact .nil
 | builtin b a t c h=>exact .builtin b a t c h
 | collected h=>exact .collected (h.mono l)
theorem yO.mono(l:Le Z O){a b:qiE}(h:yO Z a b):yO O a b:=by
 cases h with
 | mk h1 h2=>exact .mk (h1.mono l) (h2.mono l)
 | bound h1 h2 h3=>exact .bound h1 h2 h3
theorem QO.mono(l:Le Z O){a b:Loop}(h:QO Z a b):QO O a b:=⟨h.state,h.pending,h.fn,h.tmps.mono l,h.params,h.assign,h.body,h.defers.mono l,h.okF,h.okA,h.okB,h.okP⟩
theorem ObR.mono(l:Le Z O){a b:Obj}(h:ObR Z a b):ObR O a b:=by
 cases h with
 | cells e h1 h2=>exact .cells e (h1.mono l) h2
 | map c h=>exact .map c (h.imp λ_ _ k=>k.mono l)
 | stringIter s p=>exact .stringIter s p
 | mapIterNil a s b=>exact .mapIterNil a s b
 | mapIter a s b h=>exact .mapIter a s b (h.mono l)
 | loop h=>exact .loop (h.mono l)
 | number o s x h=>exact .number o s x (h.mono l)
 | deferredNone=>exact .deferredNone
 | deferred h=>exact .deferred (h.imp λ_ _ k=>k.mono l)
end
end
end
section
abbrev Rel (Y M:Type):=Ren->Y->M->Prop
def odd:Halt->Bool
 | .panic _ | .goexit | .unsupported (.initOrder _)=>true
 | _=>false
def zN:Obj->Bool
 | .pending ..=>true
 | _=>false
def Bad(Q:qgG){Y:Type}:Sem Y->Prop
 | .pure _=>False
 | .load _ _ k=>∀v,Bad Q (k v)
 | .store _ _ _ k=>Bad Q k
 | .new o k=>zN o=false/\∀r,Bad Q (k r)
 | .shape _ k=>∀x,Bad Q (k x)
 | .freeze _ _ k=>Bad Q k
 | .frozen _ k=>∀b,Bad Q (k b)
 | .getObj _ k=>∀o,Bad Q (k o)
 | .setObj _ o k=>zN o=false/\Bad Q k
 | .choose _ k=>∀n,Bad Q (k n)
 | .sys _ k=>∀r,Bad Q (k r)
 | .program k=>Bad Q (k Q)
 | .mark _ k=>Bad Q k
 | .halt h=>odd h=false
def yQ(Q:qgG):qh5:=Q.types.size
def ShR[JunkSet](Q:qgG)(r:Nat)(x x':Option (qh5 × Nat)):Prop:=(¬ JunkSet.jk r/\x'=x)\/(JunkSet.jk r/\Q.globals.size<=r/\x=some (yQ Q,0)/\∃e n,x'=some (e,n))
def SR[JunkSet](Q P:qgG){Y M:Type}(R:Rel Y M):Sem Y->Ren->Sem M->Prop
 | .pure a=>λZ s'=>∃b,s'=.pure b/\R Z a b
 | .load m a k=>λZ s'=>Bad Q (.load m a k)\/(m=.plain/\∃j k',s'=.load .plain ⟨j,a.off,a.spot⟩ k'/\BR Z a.block j/\∀v v',VR Z v v'->SR Q P R (k v) Z (k' v'))
 | .store m a v k=>λZ s'=>Bad Q (.store m a v k)\/(m=.plain/\∃j v' k',s'=.store .plain ⟨j,a.off,a.spot⟩ v' k'/\BR Z a.block j/\VR Z v v'/\SR Q P R k Z k')
 | .new o k=>λZ s'=>Bad Q (.new o k)\/∃o' k',s'=.new o' k'/\ObR Z o o'/\∀j,Out Z j->SR Q P R (k Z.length) (Z++[some j]) (k' j)
 | .shape r k=>λZ s'=>Bad Q (.shape r k)\/∃j k',s'=.shape j k'/\BR Z r j/\∀x x',ShR Q r x x'->SR Q P R (k x) Z (k' x')
 | .getObj r k=>λZ s'=>Bad Q (.getObj r k)\/∃j k',s'=.getObj j k'/\BR Z r j/\∀o o',ObR Z o o'->SR Q P R (k o) Z (k' o')
 | .setObj r o k=>λZ s'=>Bad Q (.setObj r o k)\/∃j o' k',s'=.setObj j o' k'/\BR Z r j/\ObR Z o o'/\SR Q P R k Z k'
 | .choose q k=>λZ s'=>Bad Q (.choose q k)\/∃k',s'=.choose q k'/\∀n,SR Q P R (k n) Z (k' n)
 | .sys c k=>λZ s'=>Bad Q (.sys c k)\/(c=.env/\∃k',s'=.sys .env k'/\∀r,SR Q P R (k r) Z (k' r))
 | .program k=>λZ s'=>Bad Q (.program k)\/∃k',s'=.program k'/\SR Q P R (k Q) Z (k' P)
 | .mark m k=>λZ s'=>Bad Q (.mark m k)\/(m=.noRoom/\∃k',s'=.mark .noRoom k'/\SR Q P R k Z k')
 | .halt (.panic v)=>λZ s'=>∃v',s'=.halt (.panic v')/\VR Z v v'
 | .halt h=>λ_ _=>odd h=false
 | .freeze a n k=>λ_ _=>Bad Q (.freeze a n k)
 | .frozen a k=>λ_ _=>Bad Q (.frozen a k)
theorem Bad.bind{Q:qgG}{Y W:Type}{s:Sem Y}(h:Bad Q s)(f:Y->Sem W):Bad Q (s.bind f):=by
 induction s with
 | pure a=>exact h.elim
 | load m a k ih=>exact λv=>ih v (h v)
 | store m a v k ih=>exact ih h
 | new o k ih=>exact⟨h.1,λv=>ih v (h.2 v)⟩
 | shape r k ih=>exact λv=>ih v (h v)
 | freeze a n k ih=>exact ih h
 | frozen a k ih=>exact λv=>ih v (h v)
 | getObj r k ih=>exact λv=>ih v (h v)
 | setObj r o k ih=>exact⟨h.1,ih h.2⟩
 | choose q k ih=>exact λv=>ih v (h v)
 | sys c k ih=>exact λv=>ih v (h v)
 | program k ih=>exact ih Q h
 | mark m k ih=>exact ih h
 | halt x=>exact h
theorem SR.bad[JunkSet]{Q P:qgG}{Y M:Type}{R:Rel Y M}{s:Sem Y}{Z:Ren}{s':Sem M}(h:Bad Q s):SR Q P R s Z s':=by
 cases s with
 | pure a=>exact h.elim
 | load m a k=>exact .inl h
 | store m a v k=>exact .inl h
 | new o k=>exact .inl h
 | shape r k=>exact .inl h
 | freeze a n k=>exact h
 | frozen a k=>exact h
 | getObj r k=>exact .inl h
 | setObj r o k=>exact .inl h
 | choose q k=>exact .inl h
 | sys c k=>exact .inl h
 | program k=>exact .inl h
 | mark m k=>exact .inl h
 | halt x=>
  cases x with
  | panic v=>cases h
  | _=>exact h
section
variable[JunkSet]{Q P:qgG}{Y M W X:Type}{R:Rel Y M}{S:Rel W X}
theorem SR.bind{s:Sem Y}{Z:Ren}{s':Sem M}{f:Y->Sem W}{f':M->Sem X}(h:SR Q P R s Z s')(hf:∀O a b,Le Z O->R O a b->SR Q P S (f a) O (f' b)):SR Q P S (s.bind f) Z (s'.bind f'):=by
 induction s generalizing Z s' with
 | pure a=>
  obtain⟨b,rfl,hr⟩:=h;exact hf Z a b (.refl Z) hr
 | load m a k ih=>
  rcases h with hb | ⟨hm,j,k',rfl,hb,hk⟩
  ·exact .bad (hb.bind f)
  ·exact .inr ⟨hm,j,_,rfl,hb,λv v' hv=>ih v (hk v v' hv) hf⟩
 | store m a v k ih=>
  rcases h with hb | ⟨hm,j,v',k',rfl,hb,hv,hk⟩
  ·exact .bad (Bad.bind (s:=.store m a v k) hb f)
  ·exact .inr ⟨hm,j,v',_,rfl,hb,hv,ih hk hf⟩
 | new o k ih=>
  rcases h with hb | ⟨o',k',rfl,ho,hk⟩
  ·exact .bad (hb.bind f)
  ·exact .inr ⟨o',_,rfl,ho,λj hj=>ih _ (hk j hj) λO a b l=>hf O a b ((Le.snoc Z j hj).trans l)⟩
 | shape r k ih=>
  rcases h with hb | ⟨j,k',rfl,hb,hk⟩
  ·exact .bad (hb.bind f)
  ·exact .inr ⟨j,_,rfl,hb,λx x' hx=>ih x (hk x x' hx) hf⟩
 | freeze a n k _=>exact .bad (Bad.bind (s:=.freeze a n k) h f)
 | frozen a k _=>exact .bad (Bad.bind (s:=.frozen a k) h f)
 | getObj r k ih=>
  rcases h with hb | ⟨j,k',rfl,hb,hk⟩
  ·exact .bad (hb.bind f)
  ·exact .inr ⟨j,_,rfl,hb,λo o' ho=>ih o (hk o o' ho) hf⟩
 | setObj r o k ih=>
  rcases h with hb | ⟨j,o',k',rfl,hb,ho,hk⟩
  ·exact .bad (Bad.bind (s:=.setObj r o k) hb f)
  ·exact .inr ⟨j,o',_,rfl,hb,ho,ih hk hf⟩
 | choose q k ih=>
  rcases h with hb | ⟨k',rfl,hk⟩
  ·exact .bad (hb.bind f)
  ·exact .inr ⟨_,rfl,λn=>ih n (hk n) hf⟩
 | sys c k ih=>
  rcases h with hb | ⟨hc,k',rfl,hk⟩
  ·exact .bad (hb.bind f)
  ·exact .inr ⟨hc,_,rfl,λr=>ih r (hk r) hf⟩
 | program k ih=>
  rcases h with hb | ⟨k',rfl,hk⟩
  ·exact .bad (hb.bind f)
  ·exact .inr ⟨_,rfl,ih Q hk hf⟩
 | mark m k ih=>
  rcases h with hb | ⟨rfl,k',rfl,hk⟩
  ·exact .bad (Bad.bind (s:=.mark m k) hb f)
  ·exact .inr ⟨rfl,_,rfl,ih hk hf⟩
 | halt x=>
  cases x with
  | panic v=>
   obtain⟨v',rfl,hv⟩:=h;exact⟨v',rfl,hv⟩
  | _=>exact h
theorem SR.imp{R':Rel Y M}{s:Sem Y}{Z:Ren}{s':Sem M}(h:SR Q P R s Z s')(hr:∀O a b,Le Z O->R O a b->R' O a b):SR Q P R' s Z s':=by
 have e:∀{Y:Type} (x:Sem Y),x.bind .pure=x:=by
  intro Y x;induction x with
  | pure a=>rfl
  | load m a k ih=>simp only[qme,ih]
  | store m a v k ih=>simp only[qme,ih]
  | new o k ih=>simp only[qme,ih]
  | shape r k ih=>simp only[qme,ih]
  | freeze a n k ih=>simp only[qme,ih]
  | frozen a k ih=>simp only[qme,ih]
  | getObj r k ih=>simp only[qme,ih]
  | setObj r o k ih=>simp only[qme,ih]
  | choose q k ih=>simp only[qme,ih]
  | sys c k ih=>simp only[qme,ih]
  | program k ih=>simp only[qme,ih]
  | mark m k ih=>simp only[qme,ih]
  | halt h=>rfl
 rw[<- e s,<- e s'];exact h.bind λO a b l hab=>⟨b,rfl,hr O a b l hab⟩
end
theorem BR.inj{Z:Ren}(hn:Inj Z){i i' j:Nat}(h:BR Z i j)(h':BR Z i' j):i=i':=hn i i' j h h'
def qeE(Q:qgG):Obj:=.cells #[] (yQ Q) (0,0)
structure WR[JunkSet](Q:qgG)(base:Nat)(Z:Ren)(wq w:qgt):Prop where
 len:Z.length=wq.heap.size
 nodup:Inj Z
 lt:∀(i j:Nat),BR Z i j->j<w.heap.size
 obj:∀(i j:Nat) (o:Obj),BR Z i j->wq.heap[i]?=some o->(JunkSet.jk i/\o=qeE Q/\Q.globals.size<=i/\∃c e f,w.heap[j]?=some (.cells c e f))\/(¬ JunkSet.jk i/\∃o',w.heap[j]?=some o'/\ObR Z o o')
 low:∀(i:Nat),i<base->∃c e f,wq.heap[i]?=some (.cells c e f)/\∀o,o<c.size->f.1<=o/\o<f.2
 env:wq.os.env=w.os.env
 below:∀(i:Nat),JunkSet.jk i->i<base
 gar:∀(i:Nat) (o:Obj),wq.heap[i]?=some o->(∃j,BR Z i j)\/zN o=false
def zB(D:Nat)(wq w:qgt):Prop:=∀(n:Nat) (q:qj1),wq.drawn+n<D->wq.tape (wq.drawn+n) q=w.tape (w.drawn+n) q
def rwR{Y:Type}:qla Y->qgt
 | .ok _ w=>w
 | .halt _ w=>w
theorem xA(p:qgG)(w:qgt)(a:qi2)(u:qh5)(k:qi2)(v:qgx)(b:Bool){r:qgt × List qi2}(h:w.viewStore p a u k v b=.ok r):r.1.drawn=w.drawn:=by
 unfold qqu at h;simp only[bind,Except.bind,pure,Except.pure] at h
 repeat' (split at h)
 all_goals first | (cases h;rfl) | cases h | (cases h;done)
theorem q8E{Y:Type}(x:Ask Y):∀w:qgt,w.drawn<=(w.ask x).2.drawn:=by
 induction x with
 | done a=>intro w;exact qgw _
 | ask what range k ih=>
  intro w;unfold World.ask;dsimp only;split
  ·exact ih _ w
  ·refine qgE (qqq _) ?_;exact ih ((Question.extern what range).cut (w.tape w.drawn (Question.extern what range))) { w with drawn:=w.drawn+1 }
theorem q7q(w:qgt)(c:Sys):w.drawn<=(w.sys c).2.drawn:=by
 unfold World.sys;have:=q8E (Kernel.perform c w.os) w;split
 ·exact qgw _
 ·rename_i h
  rw[h] at this;exact this
theorem vE{Y:Type}(p:qgG)(s:Sem Y):∀w:qgt,w.drawn<=(rwR (s.run p w)).drawn:=by
 induction s with
 | pure a=>intro w;exact qgw _
 | load m a k ih=>
  intro w;simp only[qie];split
  ·exact ih _ w
  ·split
   ·exact ih _ w
   ·exact qgw _
 | store m a v k ih=>
  intro w;have key:w.drawn<=(rwR (match w.cell? a with
     | some _=>if w.frozen? a then(.halt (.unsupported (.unsafePointer "a write to bytes that a string shares")) w:qla Y) else k.run p (w.setCell a v)
     | none=>match w.farStore p a v (m == .atomic) with
      | .ok (w,_)=>k.run p w
      | .error h=>.halt h w)).drawn:=by
   split
   ·split
    ·exact qgw _
    ·exact ih (w.setCell a v)
   ·split
    ·rename_i w' t a6
     refine qgE ?_ (ih _);unfold qmf at a6;split at a6
     ·split at a6
      ·rename_i r hr
       cases a6;exact qkl (xA _ _ _ _ _ _ _ hr).symm
      ·cases a6
     ·cases a6
    ·exact qgw _
  cases v<;>first | exact key | exact qgw _
 | new o k ih=>intro w;exact ih _ { w with heap:=w.heap.push o }
 | shape r k ih=>intro w;exact ih _ w
 | freeze a n k ih=>
  intro w;refine qgE ?_ (ih (w.freeze a n));unfold qpH;split<;>exact qgw _
 | frozen a k ih=>intro w;exact ih _ w
 | getObj r k ih=>
  intro w;simp only[qie];cases ho:w.heap[r]? with
  | none=>exact qgw _
  | some o=>cases o<;>first | exact ih _ w | exact qgw _
 | setObj r o k ih=>
  intro w;simp only[qie];cases ho:w.heap[r]? with
  | none=>exact qgw _
  | some ob=>cases ob<;>first | exact ih { w with heap:=w.heap.setIfInBounds r o } | exact qgw _
 | choose q k ih=>
  intro w;simp only[qie];split
  ·exact ih _ w
  ·exact qgE (qqq _) (ih _ { w with drawn:=w.drawn+1 })
 | sys c k ih=>intro w;exact qgE (q7q w c) (ih _ _)
 | program k ih=>intro w;exact ih _ w
 | mark m k ih=>intro w;exact ih w
 | halt h=>intro w;exact qgw _
inductive kL [JunkSet] (base:Nat) (O:Ren):qim->Prop
 | cell {i j:Nat} (off:Nat) (spot:Option Nat) (wr:Bool):BR O i j->¬ JunkSet.jk i->(wr=true->base<=i)->kL base O ⟨.cell ⟨j,off,spot⟩,wr,false⟩
 | obj {i j:Nat} (wr:Bool):BR O i j->base<=i->kL base O ⟨.obj j,wr,false⟩
 | noRoom:kL base O ⟨.mark .noRoom,false,true⟩
 | env:kL base O ⟨.output,true,false⟩
structure Eff(base:Nat)(Z O:Ren)(w w':qgt):Prop where
 le:Le Z O
 tape:w'.tape=w.tape
 os:w'.os=w.os
 output:w'.output=w.output
 size:w.heap.size<=w'.heap.size
 keep:∀j,j<w.heap.size->(∀i,BR Z i j->i<base)->w'.heap[j]?=w.heap[j]?
 fresh:∀i j,BR O i j->Z.length<=i->w.heap.size<=j
 mine:∀j,w.heap.size<=j->j<w'.heap.size->∃i,Z.length<=i/\BR O i j
theorem kL.mono[JunkSet]{base:Nat}{Z O:Ren}(l:Le Z O){e:qim}(h:kL base Z e):kL base O e:=by
 cases h with
 | cell off spot wr h1 hk h2=>exact .cell off spot wr (h1.mono l) hk h2
 | obj wr h1 h2=>exact .obj wr (h1.mono l) h2
 | noRoom=>exact .noRoom
 | env=>exact .env
theorem Eff.refl(base:Nat){Z:Ren}(w:qgt):Eff base Z Z w w :=
 ⟨.refl Z,rfl,rfl,rfl,qgw _,λ_ _ _=>rfl,λi j h hi=>absurd h.lt (by omega),λj h1 h2=>by omega⟩
theorem Le.len{Z O:Ren}(l:Le Z O):Z.length<=O.length:=by
 obtain⟨⟨V,rfl⟩,_⟩:=l;simp
theorem BR.back{Z O:Ren}(l:Le Z O){i j:Nat}(h:BR O i j)(hi:i<Z.length):BR Z i j:=by
 obtain⟨⟨V,rfl⟩,_⟩:=l;unfold BR at h ⊢
 rwa [qhh hi] at h
theorem Eff.trans{base:Nat}{Z O V:Ren}{w w₁ w₂:qgt}(hb:base<=Z.length)(h:Eff base Z O w w₁)(k:Eff base O V w₁ w₂):Eff base Z V w w₂:=by
 refine⟨h.le.trans k.le,k.tape.trans h.tape,k.os.trans h.os,k.output.trans h.output,qgE h.size k.size,λj hj hn=>?_,λi j hij hi=>?_,λj h1 h2=>?_⟩
 ·rw[k.keep j (qh2 hj h.size) λi hij=>?_,h.keep j hj hn];rcases qiA i Z.length with hl | hl
  ·exact hn i (hij.back h.le hl)
  ·have:=h.fresh i j hij hl;omega
 ·rcases qiA i O.length with hl | hl
  ·exact h.fresh i j (hij.back k.le hl) hi
  ·exact qgE h.size (k.fresh i j hij hl)
 ·rcases qiA j w₁.heap.size with hl | hl
  ·obtain⟨i,hi,hij⟩:=h.mine j h1 hl;exact⟨i,hi,hij.mono k.le⟩
  ·obtain⟨i,hi,hij⟩:=k.mine j hl h2;exact⟨i,qgE h.le.len hi,hij⟩
def vR{Y:Type}:qla Y->Prop
 | .ok _ _=>True
 | .halt h _=>odd h=true
def zR(w:qgt):Prop:=∀(i:Nat) (o:Obj),w.heap[i]?=some o->zN o=false
theorem jM{w:qgt}(hw:zR w)(a:qi2)(x:String){Y:Type}(u:qgt):¬ vR (.halt (w.noCell a x) u:qla Y):=by
 unfold World.noCell;split
 ·rename_i h
  have:=hw _ _ h;cases this
 ·exact λh=>by cases h
 ·exact λh=>by cases h
theorem q44{p:qgG}{w:qgt}(hw:zR w){a:qi2}{b:Bool}{h:Halt}(e:w.farLoad p a b=.error h):odd h=false:=by
 unfold qpo at e;split at e
 ·split at e
  ·cases e
  ·cases e;rfl
 ·cases e;have:=jM hw a "load: no such cell" (Y:=Unit) w;cases ho:odd (w.noCell a "load: no such cell") with
  | false=>rfl
  | true=>exact absurd ho this
theorem q1C{p:qgG}{w:qgt}(hw:zR w){a:qi2}{v:qgx}{b:Bool}{h:Halt}(e:w.farStore p a v b=.error h):odd h=false:=by
 unfold qmf at e;split at e
 ·split at e
  ·cases e
  ·cases e;rfl
 ·cases e;have:=jM hw a "store: no such cell" (Y:=Unit) w;cases ho:odd (w.noCell a "store: no such cell") with
  | false=>rfl
  | true=>exact absurd ho this
theorem yE{Y:Type}{h:Halt}(hp:odd h=false)(w:qgt):¬ vR (.halt h w:qla Y):=λx=>by
 have x:odd h=true:=x;rw[hp] at x;cases x
theorem zR.set{w:qgt}(hw:zR w){r:Nat}{o:Obj}(ho:zN o=false):zR { w with heap:=w.heap.setIfInBounds r o }:=λi x hx=>by
 simp only[qhB] at hx;split at hx
 ·split at hx
  ·cases hx;exact ho
  ·cases hx
 ·exact hw i x hx
theorem zR.push{w:qgt}(hw:zR w){o:Obj}(ho:zN o=false):zR { w with heap:=w.heap.push o }:=λi x hx=>by
 simp only[ql0] at hx;split at hx
 ·cases hx;exact ho
 ·exact hw i x hx
theorem zR.modify{w:qgt}(hw:zR w)(r:Nat){f:Obj->Obj}(hf:∀o,zN o=false->zN (f o)=false):zR { w with heap:=w.heap.modify r f }:=λi x hx=>by
 simp only[qld] at hx;split at hx
 ·cases h:w.heap[i]? with
  | none=>rw[h] at hx;cases hx
  | some y=>
   rw[h] at hx;cases hx;exact hf y (hw i y h)
 ·exact hw i x hx
theorem zR.cell{w:qgt}(hw:zR w)(a:qi2)(v:qgx):zR (w.setCell a v):=hw.modify a.block λo ho=>by
 cases o<;>first | rfl | exact ho
theorem zR.freeze{w:qgt}(hw:zR w)(a:qi2)(n:Nat):zR (w.freeze a n):=by
 unfold qpH;split
 ·exact hw
 ·exact hw.modify a.block λo ho=>by
   cases o<;>first | rfl | exact ho
theorem Ks{p:qgG}{w:qgt}{a:qi2}{u:qh5}{k:qi2}{v:qgx}{b:Bool}{r:qgt × List qi2}(h:w.viewStore p a u k v b=.ok r):∃x o,zN o=false/\r.1={ w with heap:=w.heap.setIfInBounds x o }:=by
 unfold qqu at h;simp only[bind,Except.bind,pure,Except.pure] at h
 repeat' (split at h)
 all_goals first | (cases h;exact⟨_,_,rfl,rfl⟩) | cases h | (cases h;done)
theorem q9j(w:qgt)(c:Sys):(w.sys c).2.heap=w.heap:=by
 have key:∀{Y:Type} (x:Ask Y) (w:qgt),(w.ask x).2.heap=w.heap:=by
  intro Y x;induction x with
  | done a=>intro w;rfl
  | ask what range k ih=>
   intro w;unfold World.ask;dsimp only;split
   ·exact ih _ w
   ·exact ih _ { w with drawn:=w.drawn+1 }
 unfold World.sys;have:=key (Kernel.perform c w.os) w;split
 ·rfl
 ·rename_i h
  rw[h] at this;exact this
theorem Bad.not_fine{Y:Type}{p:qgG}{s:Sem Y}:∀{w:qgt},zR w->Bad p s->¬ vR (s.run p w):=by
 induction s with
 | pure a=>intro w _ h;exact h.elim
 | load m a k ih=>
  intro w hw h;simp only[qie];split
  ·exact ih _ hw (h _)
  ·split
   ·exact ih _ hw (h _)
   ·rename_i e
    exact yE (q44 hw e) w
 | store m a v k ih=>
  intro w hw h;have key:¬ vR (match w.cell? a with
     | some _=>if w.frozen? a then(.halt (.unsupported (.unsafePointer "a write to bytes that a string shares")) w:qla Y) else k.run p (w.setCell a v)
     | none=>match w.farStore p a v (m == .atomic) with
      | .ok (w,_)=>k.run p w
      | .error h=>.halt h w):=by
   split
   ·split
    ·exact λh=>by cases h
    ·exact ih (hw.cell a v) h
   ·split
    ·rename_i w' t e
     refine ih ?_ h;unfold qmf at e;split at e
     ·split at e
      ·rename_i r hr
       cases e;obtain⟨x,o,ho,hx⟩:=Ks hr;have hx:w'={ w with heap:=w.heap.setIfInBounds x o }:=hx;rw[hx];exact hw.set ho
      ·cases e
     ·cases e
    ·rename_i e
     exact yE (q1C hw e) w
  cases v<;>first | exact key | exact λh=>by cases h
 | new o k ih=>intro w hw h;exact ih _ (hw.push h.1) (h.2 _)
 | shape r k ih=>intro w hw h;exact ih _ hw (h _)
 | freeze a n k ih=>intro w hw h;exact ih (w:=w.freeze a n) (hw.freeze a n) h
 | frozen a k ih=>intro w hw h;exact ih _ hw (h _)
 | getObj r k ih=>
  intro w hw h;simp only[qie];cases ho:w.heap[r]? with
  | none=>exact λh=>by cases h
  | some o=>cases o<;>first | exact ih _ hw (h _) | exact λh=>by cases h
 | setObj r o k ih=>
  intro w hw h;simp only[qie];cases ho:w.heap[r]? with
  | none=>exact λh=>by cases h
  | some ob=>cases ob<;>first | exact ih (hw.set h.1) h.2 | exact λh=>by cases h
 | choose q k ih=>
  intro w hw h;simp only[qie];split
  ·exact ih _ hw (h _)
  ·exact ih _ (w:={ w with drawn:=w.drawn+1 }) hw (h _)
 | sys c k ih=>
  intro w hw h;refine ih _ (w:=(w.sys c).2) (λi o ho=>hw i o ?_) (h _)
  rwa [q9j] at ho
 | program k ih=>intro w hw h;exact ih _ hw h
 | mark m k ih=>intro w hw h;exact ih hw h
 | halt x=>intro w hw h;exact yE h w
inductive q6f [JunkSet] {Y M:Type} (R:Rel Y M) (O:Ren):qla Y->qgt->qla M->qgt->Prop
 | ok {a:Y} {b:M} (wq w:qgt):R O a b->q6f R O (.ok a wq) wq (.ok b w) w
 | panic {v v':qgx} (wq w:qgt):VR O v v'->q6f R O (.halt (.panic v) wq) wq (.halt (.panic v') w) w
section
variable[JunkSet]{Q P:qgG}{base:Nat}
theorem WR.looked{Z:Ren}{wq w:qgt}(h:WR Q base Z wq w){a:qi2}{j:Nat}(hb:BR Z a.block j){v:qgx}(hv:wq.cell? a=some v):¬ JunkSet.jk a.block:=by
 intro hk;unfold qhu at hv;split at hv
 ·rename_i c e f hc
  rcases h.obj _ _ _ hb hc with⟨_,ho,_⟩ | ⟨hn,_⟩
  ·cases ho;split at hv<;>simp at hv
  ·exact hn hk
 ·cases hv
theorem WR.cell{Z:Ren}{wq w:qgt}(h:WR Q base Z wq w){a:qi2}{j:Nat}(hb:BR Z a.block j){v:qgx}(hv:wq.cell? a=some v) :∃v',w.cell? ⟨j,a.off,a.spot⟩=some v'/\VR Z v v':=by
 unfold qhu at hv;split at hv
 ·rename_i c e f hc
  split at hv
  ·cases hv
  ·rename_i hs
   rcases h.obj _ _ _ hb hc with⟨_,hj,_⟩ | ⟨_,o',ho',hr⟩
   ·cases hj;simp at hv
   ·cases hr with
    | cells e hcs hf=>
     obtain⟨v',a7,a6⟩:=hcs.get hv;refine⟨v',?_,a6⟩;unfold qhu;simp only[ho'];rw[if_neg hs];exact a7
 ·cases hv
theorem WR.nopend{Z:Ren}{wq w:qgt}(h:WR Q base Z wq w):zR wq:=λi o ho=>by
 rcases h.gar i o ho with⟨j,hb⟩ | hp
 ·rcases h.obj _ _ _ hb ho with⟨_,rfl,_⟩ | ⟨_,o',_,hr⟩
  ·rfl
  ·cases hr<;>rfl
 ·exact hp
theorem WR.shape{Z:Ren}{wq w:qgt}(h:WR Q base Z wq w){i j:Nat}(hb:BR Z i j):ShR Q i (wq.shape? i) (w.shape? j):=by
 have hi:i<wq.heap.size:=by rw[<- h.len];exact hb.lt
 have ho:wq.heap[i]?=some wq.heap[i]:=qhg hi;rcases h.obj _ _ _ hb ho with⟨a6,hj,hgl,c,e,f,hc⟩ | ⟨a6,o',ho',hr⟩
 ·rw[hj] at ho;exact .inr ⟨a6,hgl,by simp[World.shape?,ho,qeE],e,c.size,by simp[World.shape?,hc]⟩
 ·refine .inl ⟨a6,?_⟩;unfold World.shape?;rw[ho,ho'];generalize wq.heap[i]=x at hr;cases hr with
  | cells e h1 h2=>simp[h1.1]
  | _=>rfl
theorem WR.noview{Z:Ren}{wq w:qgt}(h:WR Q base Z wq w){i j:Nat}(hb:BR Z i j)(a:qi2)(t:qh5):wq.heap[i]?≠some (.view a t):=by
 intro hc;rcases h.obj _ _ _ hb hc with⟨_,hj,_⟩ | ⟨_,o',_,hr⟩
 ·cases hj
 ·cases hr
theorem WR.set{Z:Ren}{wq w:qgt}(h:WR Q base Z wq w){a:qi2}{j:Nat}(hb:BR Z a.block j){u v v':qgx}(hc:wq.cell? a=some u)(hf:wq.frozen? a=false)(hv:VR Z v v') :base<=a.block/\w.frozen? ⟨j,a.off,a.spot⟩=false/\WR Q base Z (wq.setCell a v) (w.setCell ⟨j,a.off,a.spot⟩ v')/\Eff base Z Z w (w.setCell ⟨j,a.off,a.spot⟩ v'):=by
 unfold qhu at hc;split at hc
 ·rename_i c e f hcs
  split at hc
  ·cases hc
  ·rename_i hs
   have a8:a.spot=none:=by
    cases hsp:a.spot with
    | none=>rfl
    | some _=>rw[hsp] at hs;exact absurd rfl hs
   have hlt:a.off<c.size:=(qgu.1 hc).1;have hbase:base<=a.block:=by
    rcases qiA a.block base with hl | hl
    ·obtain⟨c',e',f',h1,h2⟩:=h.low _ hl;rw[hcs] at h1;cases h1;have:=h2 _ hlt;simp[qkr,hcs,this.1,this.2] at hf
    ·exact hl
   rcases h.obj _ _ _ hb hcs with⟨_,hj,_⟩ | ⟨_,o',ho',hr⟩
   ·cases hj;simp at hlt
   ·cases hr with
    | @cells _ c' _ _ f' hcc hff=>
     have b6:w.frozen? ⟨j,a.off,a.spot⟩=false:=by
      simp only[qkr,ho'];rw[Bool.eq_false_iff];intro hx;simp only[qh9,decide_eq_true_eq] at hx;have:=hff _ hx.1 hx.2;simp[qkr,hcs,this.1,this.2] at hf
     have hi:a.block<wq.heap.size:=(qgu.1 hcs).1;have b8:j<w.heap.size:=(qgu.1 ho').1;have a7:∀i:Nat,(wq.setCell a v).heap[i]?=if i=a.block then some (.cells (c.setIfInBounds a.off v) e f) else wq.heap[i]?:=by
      intro i;simp only[qja,qld];by_cases hx:a.block=i
      ·subst hx;simp[hcs,a8]
      ·rw[if_neg hx,if_neg (λx=>hx x.symm)]
     have b0:∀i:Nat,(w.setCell ⟨j,a.off,a.spot⟩ v').heap[i]?=if i=j then some (.cells (c'.setIfInBounds a.off v') e f') else w.heap[i]?:=by
      intro i;simp only[qja,qld];by_cases hx:j=i
      ·subst hx;simp[ho',a8]
      ·rw[if_neg hx,if_neg (λx=>hx x.symm)]
     refine⟨hbase,b6,⟨by rw[h.len];simp[qja],h.nodup,λi k hk=>by have:=h.lt i k hk;simpa[qja] using this,λi k o hik ho=>?_,λi a9=>?_,h.env,h.below,λi o a6=>by
      rw[a7] at a6;by_cases hx:i=a.block
      ·exact .inl ⟨j,hx ▸ hb⟩
      ·rw[if_neg hx] at a6;exact h.gar i o a6⟩,⟨.refl Z,rfl,rfl,rfl,by simp[qja],λk hk hn=>?_,λi k hik a9=>absurd hik.lt (by omega),λk h1 h2=>by simp[qja] at h2;omega⟩⟩
     ·rw[a7] at ho;rw[b0];by_cases hx:i=a.block
      ·subst hx;have:k=j:=hik.fn hb;subst this;rw[if_pos rfl] at ho ⊢;cases ho;exact .inr ⟨λhk=>by have:=h.below _ hk;omega,_,rfl,.cells e (hcc.set _ hv) hff⟩
      ·have b7:k≠j:=λx=>by
        subst x;exact hx (hik.inj h.nodup hb)
       rw[if_neg hx] at ho;rw[if_neg b7];exact h.obj i k o hik ho
     ·obtain⟨c1,e1,f1,h1,h2⟩:=h.low i a9;refine⟨c1,e1,f1,?_,h2⟩;rw[a7,if_neg (by omega)];exact h1
     ·rw[b0];by_cases hx:k=j
      ·subst hx;have:=hn _ hb;omega
      ·rw[if_neg hx]
 ·cases hc
theorem WR.setO{Z:Ren}{wq w:qgt}(h:WR Q base Z wq w){r j:Nat}(hb:BR Z r j){o o' ob:Obj}(hc:wq.heap[r]?=some ob)(hnc:∀c e f,ob≠.cells c e f)(ho:ObR Z o o') :base<=r/\(∃a6,w.heap[j]?=some a6/\ObR Z ob a6)/\WR Q base Z { wq with heap:=wq.heap.setIfInBounds r o } { w with heap:=w.heap.setIfInBounds j o' }/\Eff base Z Z w { w with heap:=w.heap.setIfInBounds j o' }:=by
 have hbase:base<=r:=by
  rcases qiA r base with hl | hl
  ·obtain⟨c,e,f,h1,_⟩:=h.low _ hl;rw[hc] at h1;cases h1;exact absurd rfl (hnc _ _ _)
  ·exact hl
 have hrel:∃a6,w.heap[j]?=some a6/\ObR Z ob a6:=by
  rcases h.obj _ _ _ hb hc with⟨_,hj,_⟩ | ⟨_,hr⟩
  ·exact absurd hj (hnc _ _ _)
  ·exact hr
 obtain⟨a6,ho',hr⟩:=hrel;have hi:r<wq.heap.size:=(qgu.1 hc).1;have a8:j<w.heap.size:=(qgu.1 ho').1;refine⟨hbase,⟨a6,ho',hr⟩,⟨by rw[h.len];simp,h.nodup,λi k hk=>by have:=h.lt i k hk;simpa using this,λi k x hik hx=>?_,λi a9=>?_,h.env,h.below,λi x a7=>by
   rw[qhB] at a7;by_cases hy:r=i
   ·exact .inl ⟨j,hy ▸ hb⟩
   ·rw[if_neg hy] at a7;exact h.gar i x a7⟩,⟨.refl Z,rfl,rfl,rfl,by simp,λk hk hn=>?_,λi k hik a9=>absurd hik.lt (by omega),λk h1 h2=>by simp at h2;omega⟩⟩
 ·simp only[qhB] at hx ⊢;by_cases hy:r=i
  ·subst hy;have:k=j:=hik.fn hb;subst this;rw[if_pos rfl,if_pos hi] at hx;cases hx;refine .inr ⟨λhk=>by have:=h.below _ hk;omega,o',?_,ho⟩;rw[if_pos rfl,if_pos a8]
  ·have b0:j≠k:=λx=>by
    subst x;exact hy (hb.inj h.nodup hik)
   rw[if_neg hy] at hx;rw[if_neg b0];exact h.obj i k x hik hx
 ·obtain⟨c1,e1,f1,h1,h2⟩:=h.low i a9;refine⟨c1,e1,f1,?_,h2⟩;simp only[qhB];rw[if_neg (by omega)];exact h1
 ·simp only[qhB];by_cases hx:j=k
  ·subst hx;have:=hn _ hb;omega
  ·rw[if_neg hx]
theorem WR.newO{Z:Ren}{wq w:qgt}(h:WR Q base Z wq w)(hb:base<=Z.length){o o':Obj}(ho:ObR Z o o') :WR Q base (Z++[some w.heap.size]) { wq with heap:=wq.heap.push o } { w with heap:=w.heap.push o' }/\Eff base Z (Z++[some w.heap.size]) w { w with heap:=w.heap.push o' }:=by
 have hle:Le Z (Z++[some w.heap.size]):=.snoc _ _ λi hi=>qm4 _ (h.lt i _ hi);have a6:∀{i j:Nat},BR (Z++[some w.heap.size]) i j->(i<Z.length/\BR Z i j)\/(i=Z.length/\j=w.heap.size):=by
  intro i j hij;rcases hij.snoc_cases with hh | ⟨h1,h2⟩
  ·exact .inl hh
  ·exact .inr ⟨h1,(qkk h2).symm⟩
 refine⟨⟨by simp[h.len],?_,λi j hij=>?_,λi j x hij hx=>?_,λi hi=>?_,h.env,h.below,λi o hi=>?_⟩,⟨hle,rfl,rfl,rfl,by simp,λj hj hn=>?_,λi j hij hi=>?_,λj h1 h2=>?_⟩⟩
 ·exact hle.2 h.nodup
 ·rcases a6 hij with⟨hl,hb'⟩ | ⟨rfl,rfl⟩
  ·have:=h.lt i j hb';simp;omega
  ·simp
 ·simp only[ql0] at hx ⊢;rcases a6 hij with⟨hl,hb'⟩ | ⟨rfl,rfl⟩
  ·have h1:=h.lt i j hb';rw[if_neg (by have:=h.len;omega)] at hx;rw[if_neg (by omega)];rcases h.obj i j x hb' hx with⟨hk,rfl,hc⟩ | ⟨hk,y,hy,hr⟩
   ·exact .inl ⟨hk,rfl,hc⟩
   ·exact .inr ⟨hk,y,hy,hr.mono hle⟩
  ·rw[if_pos h.len] at hx;cases hx;exact .inr ⟨λhk=>by have:=h.below _ hk;omega,o',by simp,ho.mono hle⟩
 ·obtain⟨c1,e1,f1,h1,h2⟩:=h.low i hi;refine⟨c1,e1,f1,?_,h2⟩;simp only[ql0];have:=h.len;rw[if_neg (by omega)];exact h1
 ·simp only[ql0] at hi;split at hi
  ·rename_i e
   exact .inl ⟨w.heap.size,by rw[e,<- h.len];exact BR.new _ _⟩
  ·rcases h.gar i o hi with⟨j,hj⟩ | hp
   ·exact .inl ⟨j,hj.mono hle⟩
   ·exact .inr hp
 ·simp only[ql0];rw[if_neg (by omega)]
 ·rcases a6 hij with⟨hl,_⟩ | ⟨_,rfl⟩
  ·omega
  ·exact qgw _
 ·simp at h2;have:j=w.heap.size:=by omega
  subst this;exact⟨Z.length,qgw _,BR.new _ _⟩
theorem WR.draw{Z:Ren}{wq w:qgt}(h:WR Q base Z wq w):WR Q base Z { wq with drawn:=wq.drawn+1 } { w with drawn:=w.drawn+1 }/\Eff base Z Z w { w with drawn:=w.drawn+1 } :=
 ⟨⟨h.len,h.nodup,h.lt,h.obj,h.low,h.env,h.below,h.gar⟩,⟨.refl Z,rfl,rfl,rfl,qgw _,λ_ _ _=>rfl,λi k hik a6=>absurd hik.lt (by omega),λk h1 h2=>by simp at h2;omega⟩⟩
omit [JunkSet] in
theorem zB.draw{D:Nat}{wq w:qgt}(h:zB D wq w):zB D { wq with drawn:=wq.drawn+1 } { w with drawn:=w.drawn+1 }:=λn q hn=>by
 have:=h (n+1) q (by simp only at hn;omega);simpa[qmv,Nat.add_comm 1 n] using this
omit [JunkSet] in
theorem zB.heap{D:Nat}{wq w wq' w':qgt}(h:zB D wq w)(h1:wq'.tape=wq.tape)(h2:wq'.drawn=wq.drawn)(h3:w'.tape=w.tape)(h4:w'.drawn=w.drawn):zB D wq' w':=λn q hn=>by
 rw[h1,h2,h3,h4];exact h n q (by rw[<- h2];exact hn)
theorem yu{Y:Type}{p:qgG}{r:Nat}{k:Obj->Sem Y}{w:qgt}{o:Obj}(h:w.heap[r]?=some o)(hn:∀c e f,o≠.cells c e f):(Sem.getObj r k).run p w=(k o).run p w:=by
 rw[qie,h];cases o<;>first | exact absurd rfl (hn _ _ _) | rfl
theorem q32{Y:Type}{p:qgG}{r:Nat}{k:Obj->Sem Y}{w:qgt}{o:Obj}(es:Array qim)(h:w.heap[r]?=some o)(hn:∀c e f,o≠.cells c e f):(Sem.getObj r k).runT p w es=(k o).runT p w (es.push ⟨.obj r,false,o.isChan⟩):=by
 rw[qlu,h];cases o<;>first | exact absurd rfl (hn _ _ _) | rfl
theorem yt{Y:Type}{p:qgG}{r:Nat}{x:Obj}{k:Sem Y}{w:qgt}{o:Obj}(h:w.heap[r]?=some o)(hn:∀c e f,o≠.cells c e f):(qqz r x k).run p w=k.run p { w with heap:=w.heap.setIfInBounds r x }:=by
 rw[qie,h];cases o<;>first | exact absurd rfl (hn _ _ _) | rfl
theorem q31{Y:Type}{p:qgG}{r:Nat}{x:Obj}{k:Sem Y}{w:qgt}{o:Obj}(es:Array qim)(h:w.heap[r]?=some o)(hn:∀c e f,o≠.cells c e f):(qqz r x k).runT p w es=k.runT p { w with heap:=w.heap.setIfInBounds r x } (es.push ⟨.obj r,true,x.isChan⟩):=by
 rw[qlu,h];cases o<;>first | exact absurd rfl (hn _ _ _) | rfl
theorem SR.runs{Y M:Type}{R:Rel Y M}{s:Sem Y}{D:Nat}:∀{Z:Ren} {s':Sem M} {wq w:qgt} (es:Array qim),SR Q P R s Z s'->base<=Z.length->WR Q base Z wq w->zB D wq w->(rwR (s.run Q wq)).drawn<=D->vR (s.run Q wq) ->∃O wq' w' es',q6f R O (s.run Q wq) wq' (s'.run P w) w'/\(s'.runT P w es).2=es++es'/\(∀e∈es',kL base O e)/\WR Q base O wq' w'/\zB D wq' w'/\Eff base Z O w w'/\wq'.drawn+w.drawn=wq.drawn+w'.drawn:=by
 induction s with
 | pure a=>
  intro Z s' wq w es h hb hw ht _ _;obtain⟨b,rfl,hr⟩:=h;exact⟨Z,wq,w,#[],.ok wq w hr,by simp[qlu],by simp,hw,ht,.refl base w,rfl⟩
 | load m a k ih=>
  intro Z s' wq w es h hb hw ht hd hf;rcases h with hbad | ⟨rfl,j,k',rfl,hbr,hk⟩
  ·exact absurd hf (Bad.not_fine hw.nopend hbad)
  simp only[qie] at hd hf ⊢;cases hc:wq.cell? a with
  | none=>
   rw[hc] at hf;simp only[qpo] at hf;split at hf
   ·rename_i hv
    split at hv
    ·rename_i a7
     exact absurd a7 (hw.noview hbr _ _)
    ·cases hv
   ·rename_i hv
    split at hv
    ·rename_i a7
     exact absurd a7 (hw.noview hbr _ _)
    ·cases hv;exact absurd hf (jM hw.nopend _ _ _)
  | some v=>
   obtain⟨v',a7,hr⟩:=hw.cell hbr hc;rw[hc] at hd hf;simp only[a7] at hd hf ⊢;obtain⟨O,wq',w',es',h1,h2,h3,h4,h5,h6,h7⟩:=ih v (es.push ⟨.cell ⟨j,a.off,a.spot⟩,false,false⟩) (hk v v' hr) hb hw ht hd hf;refine⟨O,wq',w',#[⟨.cell ⟨j,a.off,a.spot⟩,false,false⟩]++es',h1,?_,?_,h4,h5,h6,h7⟩
   ·simp only[qlu,a7];rw[show((Mode.plain == Mode.atomic)=false) from rfl,h2];simp
   ·intro e he;rw[qk8] at he;rcases he with he | he
    ·simp at he;subst he;exact .cell _ _ _ (hbr.mono h6.le) (hw.looked hbr hc) (by simp)
    ·exact h3 e he
 | store m a v k ih=>
  intro Z s' wq w es h hb hw ht hd hf;rcases h with hbad | ⟨rfl,j,v',k',rfl,hbr,hv,hk⟩
  ·exact absurd hf (Bad.not_fine hw.nopend (s:=.store m a v k) hbad)
  have c3:(∃x,v=.agg x)\/(∃x,v=.tuple x)\/((∀x,v≠.agg x)/\∀x,v≠.tuple x):=by
   cases v<;>simp
  rcases c3 with⟨x,rfl⟩ | ⟨x,rfl⟩ | ⟨hna,hnt⟩
  ·simp only[qie] at hf;exact absurd hf (λh=>by cases h)
  ·simp only[qie] at hf;exact absurd hf (λh=>by cases h)
  ·have b8:∀x,v'≠.agg x:=λx e=>by subst e;cases hv<;>first | exact hna _ rfl | (rename_i h;cases h)
   have b7:∀x,v'≠.tuple x:=λx e=>by subst e;cases hv<;>first | exact hnt _ rfl | (rename_i h;cases h)
   have e1:(qqf .plain a v k).run Q wq=match wq.cell? a with
     | some _=>if wq.frozen? a then .halt (.unsupported (.unsafePointer "a write to bytes that a string shares")) wq else k.run Q (wq.setCell a v)
     | none=>match wq.farStore Q a v false with
      | .ok (w,_)=>k.run Q w
      | .error h=>.halt h wq:=by
    cases v<;>first | rfl | exact absurd rfl (hna _) | exact absurd rfl (hnt _)
   have e2:(qqf .plain (⟨j,a.off,a.spot⟩:qi2) v' k').run P w=match w.cell? ⟨j,a.off,a.spot⟩ with
     | some _=>if w.frozen? ⟨j,a.off,a.spot⟩ then .halt (.unsupported (.unsafePointer "a write to bytes that a string shares")) w else k'.run P (w.setCell ⟨j,a.off,a.spot⟩ v')
     | none=>match w.farStore P ⟨j,a.off,a.spot⟩ v' false with
      | .ok (w,_)=>k'.run P w
      | .error h=>.halt h w:=by
    cases v'<;>first | rfl | exact absurd rfl (b8 _) | exact absurd rfl (b7 _)
   have e3:((qqf .plain (⟨j,a.off,a.spot⟩:qi2) v' k').runT P w es).2=(match w.cell? ⟨j,a.off,a.spot⟩ with
     | some _=>if w.frozen? ⟨j,a.off,a.spot⟩ then((Result.halt (.unsupported (.unsafePointer "a write to bytes that a string shares")) w:qla M),es) else k'.runT P (w.setCell ⟨j,a.off,a.spot⟩ v') (es.push ⟨.cell ⟨j,a.off,a.spot⟩,true,false⟩)
     | none=>match w.farStore P ⟨j,a.off,a.spot⟩ v' false with
      | .ok (w,touched)=>k'.runT P w (es++touched.toArray.map λx=>(⟨.cell x,true,false⟩:qim))
      | .error h=>((Result.halt h w:qla M),es)).2:=by
    cases v'<;>first | rfl | exact absurd rfl (b8 _) | exact absurd rfl (b7 _)
   rw[e1] at hd hf ⊢;rw[e2,e3];cases hc:wq.cell? a with
   | none=>
    rw[hc] at hf;simp only[qmf] at hf;split at hf
    ·rename_i hv
     split at hv
     ·rename_i a7
      exact absurd a7 (hw.noview hbr _ _)
     ·cases hv
    ·rename_i hv
     split at hv
     ·rename_i a7
      exact absurd a7 (hw.noview hbr _ _)
     ·cases hv;exact absurd hf (jM hw.nopend _ _ _)
   | some u=>
    obtain⟨u',d5,_⟩:=hw.cell hbr hc;rw[hc] at hd hf;simp only[d5] at hd hf ⊢;cases hfz:wq.frozen? a with
    | true=>
     rw[hfz] at hf;exact absurd hf (λh=>by cases h)
    | false=>
     obtain⟨hbase,c8,a9,b0⟩:=hw.set hbr hc hfz hv;rw[hfz] at hd hf;simp only[c8,qho,if_false] at hd hf ⊢;obtain⟨O,wq',w',es',h1,h2,h3,h4,h5,h6,h7⟩:=ih (es.push ⟨.cell ⟨j,a.off,a.spot⟩,true,false⟩) hk hb a9 (ht.heap rfl rfl rfl rfl) hd hf;refine⟨O,wq',w',#[⟨.cell ⟨j,a.off,a.spot⟩,true,false⟩]++es',h1,by rw[h2];simp,?_,h4,h5,b0.trans hb h6,h7⟩;intro e he;rw[qk8] at he;rcases he with he | he
     ·simp at he;subst he;exact .cell _ _ _ (hbr.mono h6.le) (λhk=>absurd (hw.below _ hk) (by omega)) (λ_=>hbase)
     ·exact h3 e he
 | new o k ih=>
  intro Z s' wq w es h hb hw ht hd hf;rcases h with hbad | ⟨o',k',rfl,ho,hk⟩
  ·exact absurd hf (Bad.not_fine hw.nopend (s:=.new o k) hbad)
  simp only[qie] at hd hf ⊢;obtain⟨a9,b0⟩:=hw.newO hb ho;have hk':=hk w.heap.size (λi hi=>qm4 _ (hw.lt i _ hi));rw[hw.len] at hk';obtain⟨O,wq',w',es',h1,h2,h3,h4,h5,h6,h7⟩:=ih _ es hk' (by simp;omega) a9 (ht.heap rfl rfl rfl rfl) hd hf;exact⟨O,wq',w',es',h1,by simp only[qlu];exact h2,h3,h4,h5,b0.trans hb h6,by simp only at h7;omega⟩
 | shape r k ih=>
  intro Z s' wq w es h hb hw ht hd hf;rcases h with hbad | ⟨j,k',rfl,hbr,hk⟩
  ·exact absurd hf (Bad.not_fine hw.nopend (s:=.shape r k) hbad)
  simp only[qie] at hd hf ⊢;obtain⟨O,wq',w',es',h1,h2,h3,h4,h5,h6,h7⟩:=ih _ es (hk _ _ (hw.shape hbr)) hb hw ht hd hf;exact⟨O,wq',w',es',h1,by simp only[qlu];exact h2,h3,h4,h5,h6,h7⟩
 | freeze a n k _=>intro Z s' wq w es h hb hw ht hd hf;exact absurd hf (Bad.not_fine hw.nopend (s:=.freeze a n k) h)
 | frozen a k _=>intro Z s' wq w es h hb hw ht hd hf;exact absurd hf (Bad.not_fine hw.nopend (s:=.frozen a k) h)
 | getObj r k ih=>
  intro Z s' wq w es h hb hw ht hd hf;rcases h with hbad | ⟨j,k',rfl,hbr,hk⟩
  ·exact absurd hf (Bad.not_fine hw.nopend (s:=.getObj r k) hbad)
  cases ho:wq.heap[r]? with
  | none=>simp only[qie,ho] at hf;exact absurd hf (λh=>by cases h)
  | some o=>
   by_cases a6:∃c e f,o=.cells c e f
   ·obtain⟨c,e,f,rfl⟩:=a6;simp only[qie,ho] at hf;exact absurd hf (λh=>by cases h)
   ·have hnc:∀c e f,o≠.cells c e f:=λc e f x=>a6 ⟨c,e,f,x⟩;have hbase:base<=r:=by
     rcases qiA r base with hl | hl
     ·obtain⟨c,e,f,h1,_⟩:=hw.low _ hl;rw[ho] at h1;cases h1;exact absurd rfl (hnc _ _ _)
     ·exact hl
    rcases hw.obj _ _ _ hbr ho with⟨_,hj,_⟩ | ⟨_,o',ho',hr⟩
    ·exact absurd hj (hnc _ _ _)
    ·have a8:∀c e f,o'≠.cells c e f:=λc e f x=>by subst x;cases hr;exact hnc _ _ _ rfl
     have b9:o'.isChan=false:=by cases hr<;>rfl
     rw[yu ho hnc] at hd hf;rw[yu ho hnc,yu ho' a8,q32 es ho' a8,b9];obtain⟨O,wq',w',es',h1,h2,h3,h4,h5,h6,h7⟩:=ih o (es.push ⟨.obj j,false,false⟩) (hk _ _ hr) hb hw ht hd hf;refine⟨O,wq',w',#[⟨.obj j,false,false⟩]++es',h1,by rw[h2];simp,?_,h4,h5,h6,h7⟩;intro e he;rw[qk8] at he;rcases he with he | he
     ·simp at he;subst he;exact .obj _ (hbr.mono h6.le) hbase
     ·exact h3 e he
 | setObj r o k ih=>
  intro Z s' wq w es h hb hw ht hd hf;rcases h with hbad | ⟨j,o',k',rfl,hbr,hor,hk⟩
  ·exact absurd hf (Bad.not_fine hw.nopend (s:=.setObj r o k) hbad)
  cases ho:wq.heap[r]? with
  | none=>simp only[qie,ho] at hf;exact absurd hf (λh=>by cases h)
  | some ob=>
   by_cases a6:∃c e f,ob=.cells c e f
   ·obtain⟨c,e,f,rfl⟩:=a6;simp only[qie,ho] at hf;exact absurd hf (λh=>by cases h)
   ·have hnc:∀c e f,ob≠.cells c e f:=λc e f x=>a6 ⟨c,e,f,x⟩;obtain⟨hbase,⟨c9,b6,hr⟩,a9,b0⟩:=hw.setO hbr ho hnc hor;have a8:∀c e f,c9≠.cells c e f:=λc e f x=>by subst x;cases hr;exact hnc _ _ _ rfl
    have b9:o'.isChan=false:=by cases hor<;>rfl
    rw[yt ho hnc] at hd hf;rw[yt ho hnc,yt b6 a8,q31 es b6 a8,b9];obtain⟨O,wq',w',es',h1,h2,h3,h4,h5,h6,h7⟩:=ih (es.push ⟨.obj j,true,false⟩) hk hb a9 (ht.heap rfl rfl rfl rfl) hd hf;refine⟨O,wq',w',#[⟨.obj j,true,false⟩]++es',h1,by rw[h2];simp,?_,h4,h5,b0.trans hb h6,h7⟩;intro e he;rw[qk8] at he;rcases he with he | he
    ·simp at he;subst he;exact .obj _ (hbr.mono h6.le) hbase
    ·exact h3 e he
 | choose q k ih=>
  intro Z s' wq w es h hb hw ht hd hf;rcases h with hbad | ⟨k',rfl,hk⟩
  ·exact absurd hf (Bad.not_fine hw.nopend (s:=.choose q k) hbad)
  simp only[qie] at hd hf ⊢;cases hq:q.forced with
  | true=>
   rw[hq] at hd hf;simp only[if_true] at hd hf ⊢;obtain⟨O,wq',w',es',h1,h2,h3,h4,h5,h6,h7⟩:=ih _ es (hk _) hb hw ht hd hf;exact⟨O,wq',w',es',h1,by simp only[qlu,hq,if_true];exact h2,h3,h4,h5,h6,h7⟩
  | false=>
   rw[hq] at hd hf;simp only[qho,if_false] at hd hf ⊢;have d6:wq.tape wq.drawn q=w.tape w.drawn q:=by
    have:=qgE (vE Q _ _) hd;simpa using ht 0 q (by simp only at this;omega)
   obtain⟨a9,b0⟩:=hw.draw;rw[d6] at hd hf ⊢;obtain⟨O,wq',w',es',h1,h2,h3,h4,h5,h6,h7⟩:=ih _ es (hk _) hb a9 ht.draw hd hf;exact⟨O,wq',w',es',h1,by simp only[qlu,hq,qho,if_false];exact h2,h3,h4,h5,b0.trans hb h6,by simp only at h7;omega⟩
 | sys c k ih=>
  intro Z s' wq w es h hb hw ht hd hf;rcases h with hbad | ⟨rfl,k',rfl,hk⟩
  ·exact absurd hf (Bad.not_fine hw.nopend (s:=.sys c k) hbad)
  have e1:∀u:qgt,u.sys .env=(.strings u.os.env,u):=λu=>rfl;simp only[qie,e1] at hd hf ⊢;rw[hw.env] at hd hf ⊢;obtain⟨O,wq',w',es',h1,h2,h3,h4,h5,h6,h7⟩:=ih _ (es.push ⟨.output,true,false⟩) (hk _) hb hw ht hd hf;refine⟨O,wq',w',#[⟨.output,true,false⟩]++es',h1,by simp only[qlu,e1];rw[h2];simp,?_,h4,h5,h6,h7⟩;intro e he;rw[qk8] at he;rcases he with he | he
  ·simp at he;subst he;exact .env
  ·exact h3 e he
 | program k ih=>
  intro Z s' wq w es h hb hw ht hd hf;rcases h with hbad | ⟨k',rfl,hk⟩
  ·exact absurd hf (Bad.not_fine hw.nopend (s:=.program k) hbad)
  simp only[qie] at hd hf ⊢;obtain⟨O,wq',w',es',h1,h2,h3,h4,h5,h6,h7⟩:=ih _ es hk hb hw ht hd hf;exact⟨O,wq',w',es',h1,by simp only[qlu];exact h2,h3,h4,h5,h6,h7⟩
 | mark m k ih=>
  intro Z s' wq w es h hb hw ht hd hf;rcases h with hbad | ⟨rfl,k',rfl,hk⟩
  ·exact absurd hf (Bad.not_fine hw.nopend (s:=.mark m k) hbad)
  simp only[qie] at hd hf ⊢;obtain⟨O,wq',w',es',h1,h2,h3,h4,h5,h6,h7⟩:=ih (es.push ⟨.mark .noRoom,false,true⟩) hk hb hw ht hd hf;refine⟨O,wq',w',#[⟨.mark .noRoom,false,true⟩]++es',h1,by simp only[qlu];rw[h2];simp,?_,h4,h5,h6,h7⟩;intro e he;rw[qk8] at he;rcases he with he | he
  ·simp at he;subst he;exact .noRoom
  ·exact h3 e he
 | halt x=>
  intro Z s' wq w es h hb hw ht hd hf;cases x with
  | panic v=>
   obtain⟨v',rfl,hv⟩:=h;exact⟨Z,wq,w,#[],.panic wq w hv,by simp[qlu],by simp,hw,ht,.refl base w,rfl⟩
  | _=>exact absurd hf (yE h wq)
end
end
section
def EqR{Y:Type}:Rel Y Y:=λ_ a b=>b=a
def Gl(P:qgG)(Z:Ren):Prop:=∀i,i<=P.globals.size->BR Z i i
theorem Gl.mono{P:qgG}{Z O:Ren}(l:Le Z O)(h:Gl P Z):Gl P O:=λi hi=>(h i hi).mono l
section
variable[JunkSet]{Q P:qgG}{Y M W X:Type}{R:Rel Y M}{S:Rel W X}{Z:Ren}
theorem qf{a:Y}{b:M}(h:R Z a b):SR Q P R (pure a) Z (pure b):=⟨b,rfl,h⟩
theorem SR.bnd{s:Sem Y}{s':Sem M}{f:Y->Sem W}{f':M->Sem X}(h:SR Q P R s Z s')(hf:∀O a b,Le Z O->R O a b->SR Q P S (f a) O (f' b)) :SR Q P S (s>>=f) Z (s'>>=f'):=SR.bind h hf
theorem SR.bndE{s s':Sem Y}{f:Y->Sem W}{f':Y->Sem X}(h:SR Q P EqR s Z s')(hf:∀O a,Le Z O->SR Q P S (f a) O (f' a)) :SR Q P S (s>>=f) Z (s'>>=f'):=SR.bind h λO a b l e=>by cases e;exact hf O a l
theorem qi{w:String}{s':Sem M}:SR Q P R (stuck w) Z s':=rfl
theorem qx{w:Unsupported}{s':Sem M}(h:odd (.unsupported w)=false:=by rfl):SR Q P R (unsupported w) Z s':=by
 cases w<;>first | rfl | cases h
theorem zv{w:String}{f:Y->Sem W}{s':Sem X}:SR Q P S ((stuck w:Sem Y)>>=f) Z s':=rfl
theorem ja{w:Unsupported}{f:Y->Sem W}{s':Sem X}(h:odd (.unsupported w)=false:=by rfl):SR Q P S ((unsupported w:Sem Y)>>=f) Z s':=by
 cases w<;>first | rfl | cases h
theorem q9y{w:String}{s':Sem M}:SR Q P R (throw w) Z s':=rfl
theorem zH{f:qgG->Sem Y}{f':qgG->Sem M}(h:SR Q P R (f Q) Z (f' P)):SR Q P R (program>>=f) Z (program>>=f'):=.inr ⟨_,rfl,h⟩
theorem q2B{a:Y}{f:Y->Sem W}{s':Sem X}(h:SR Q P S (f a) Z s'):SR Q P S (pure a>>=f) Z s':=h
theorem vB{q:qj1}:SR Q P EqR (choose q) Z (choose q):=.inr ⟨_,rfl,λn=>⟨n,rfl,rfl⟩⟩
theorem q9B{f:Y->W}{s s':Sem Y}(h:SR Q P EqR s Z s'):SR Q P EqR (Functor.map f s) Z (Functor.map f s'):=SR.bndE (S:=EqR) (f:=λx=>pure (f x)) (f':=λx=>pure (f x)) h λO a _=>qf rfl
theorem q1h{f:Y->Sem W}{f':Y->Sem W}(h:∀O a,SR Q P EqR (f a) O (f' a)):∀(l:List Y) (Z:Ren),SR Q P EqR (l.mapM f) Z (l.mapM f'):=by
 intro l;induction l with
 | nil=>intro Z;exact qf rfl
 | cons a l ih=>
  intro Z;rw[qn5,qn5];exact .bndE (h Z a) λO b _=>.bndE (ih O) λV bs _=>qf rfl
theorem qcs{f:Y->Sem W}{f':Y->Sem W}(h:∀O a,SR Q P EqR (f a) O (f' a)){xs:Array Y}:SR Q P EqR (xs.mapM f) Z (xs.mapM f'):=by
 rw[qkv,qkv];exact q9B (q1h h xs.toList Z)
theorem q6p{i j:Nat}{off:Nat}{spot:Option Nat}(h:BR Z i j):SR Q P VR (load ⟨i,off,spot⟩) Z (load ⟨j,off,spot⟩):=.inr ⟨rfl,j,_,rfl,h,λv v' hv=>⟨v',rfl,hv⟩⟩
theorem q9z{i j:Nat}{off:Nat}{spot:Option Nat}{v v':qgx}(h:BR Z i j)(hv:VR Z v v'):SR Q P (λ_ _ _=>True) (store ⟨i,off,spot⟩ v) Z (store ⟨j,off,spot⟩ v'):=.inr ⟨rfl,j,v',_,rfl,h,hv,(),rfl,trivial⟩
theorem Yh{o o':Obj}(h:ObR Z o o'):SR Q P BR (newObj o) Z (newObj o'):=.inr ⟨o',_,rfl,h,λj _=>⟨j,rfl,BR.new Z j⟩⟩
theorem xS{i j:Nat}(h:BR Z i j):SR Q P (λ_=>ShR Q i) (shape i) Z (shape j):=.inr ⟨j,_,rfl,h,λx x' hx=>⟨x',rfl,hx⟩⟩
theorem jJ{i j:Nat}(h:BR Z i j):SR Q P ObR (getObj i) Z (getObj j):=.inr ⟨j,_,rfl,h,λo o' ho=>⟨o',rfl,ho⟩⟩
theorem jI{i j:Nat}{o o':Obj}(h:BR Z i j)(ho:ObR Z o o'):SR Q P (λ_ _ _=>True) (setObj i o) Z (setObj j o'):=.inr ⟨j,o',_,rfl,h,ho,(),rfl,trivial⟩
theorem jU{v v':qgx}(h:VR Z v v'):SR Q P R (goPanic v) Z (goPanic v'):=⟨v',rfl,h⟩
theorem qE{c:Prop}[Decidable c]{a b:Sem Y}{a' b':Sem M}(h1:c->SR Q P R a Z a')(h2:¬ c->SR Q P R b Z b'):SR Q P R (if c then a else b) Z (if c then a' else b'):=by
 by_cases h:c
 ·rw[if_pos h,if_pos h];exact h1 h
 ·rw[if_neg h,if_neg h];exact h2 h
end
section
variable[JunkSet]{Q P:qgG}(hT:P.toTables=Q.toTables){Z:Ren}{Y M:Type}{R:Rel Y M}
include hT
theorem JU(t:qh5):P.info? t=Q.info? t:=by rw[hT]
theorem km(t:qh5):P.underlying t=Q.underlying t:=by unfold Program.underlying;rw[hT]
theorem zu(t:qh5):SR Q P EqR (ql1 t) Z (ql1 t):=by
 refine zH ?_;rw[JU hT];cases Q.info? t with
 | some i=>exact qf rfl
 | none=>exact qi
theorem qD(t:qh5):SR Q P EqR (qkc t) Z (qkc t):=by
 refine zH ?_;rw[km hT];cases Q.underlying t with
 | some i=>exact qf rfl
 | none=>exact qi
theorem qR(t:qh5):SR Q P EqR (qnD t) Z (qnD t):=.bndE (zu hT t) λO i _=>qf rfl
theorem q2E(t:qh5):SR Q P EqR (isAgg t) Z (isAgg t):=.bndE (qD hT t) λO i _=>by
 cases i<;>exact qf rfl
def kM(P:qgG)(t:qh5):Bool :=
 match (P.info? t).bind (·.zero) with
 | some v=>qbD v
 | none=>true
omit hT in
theorem q2z{i:qli}(h:∀v,i.zero=some v->vf v):SR Q P VR (match i.zero with
  | some v=>pure v
  | none=>unsupported (.resourceLimit "a value of more than 2^22 cells")) Z (match i.zero with
  | some v=>pure v
  | none=>unsupported (.resourceLimit "a value of more than 2^22 cells")):=by
 cases hz:i.zero with
 | some v=>exact qf ((h v hz).vr _)
 | none=>exact qx
theorem vU(t:qh5):SR Q P (λ_ a b=>b=a/\Q.info? t=some a) (ql1 t) Z (ql1 t):=by
 refine zH ?_;rw[JU hT];cases Q.info? t with
 | some i=>exact qf ⟨rfl,rfl⟩
 | none=>exact qi
theorem zt{t:qh5}(h:kM Q t=true):SR Q P VR (qlv t) Z (qlv t):=by
 refine .bnd (vU hT t) λO i i' l hi=>?_;obtain⟨rfl,hi⟩:=hi;refine q2z λv hv=>?_;unfold kM at h;rw[hi] at h;simp only[qmp,hv] at h;exact q27 h
omit hT in
theorem VR.cells{v v':qgx}(h:VR Z v v'):AsR Z v.cells v'.cells:=by
 cases h with
 | agg h1 h2=>exact⟨h1,h2⟩
 | bool b=>exact .one (.bool b)
 | int k n=>exact .one (.int k n)
 | string s=>exact .one (.string s)
 | ptrNil=>exact .one .ptrNil
 | ptr o s h=>exact .one (.ptr o s h)
 | sliceNil a b=>exact .one (.sliceNil a b)
 | slice o s a b h=>exact .one (.slice o s a b h)
 | mapNil=>exact .one .mapNil
 | map h=>exact .one (.map h)
 | func a b c d e=>exact .one (.func a b c d e)
 | nilFunc=>exact .one .nilFunc
 | iface t h=>exact .one (.iface t h)
 | nilIface=>exact .one .nilIface
 | tuple h1 h2=>exact .one (.tuple h1 h2)
 | meth n a c=>exact .one (.meth n a c)
 | wild _ h=>
  have e:v'.cells=#[v']:=by cases v'<;>first | rfl | (cases h;done)
  rw[e];exact .one (.wild _ h)
omit hT in
theorem AsR.agg{a b:Array qgx}(h:AsR Z a b):VR Z (.agg a) (.agg b):=.agg h.1 h.2
omit hT in
theorem AsR.tuple{a b:Array qgx}(h:AsR Z a b):VR Z (.tuple a) (.tuple b):=.tuple h.1 h.2
omit hT in
theorem yg(i j off n:Nat)(spot:Option Nat):∃o s,(⟨i,off,spot⟩:qi2).add n=⟨i,o,s⟩/\(⟨j,off,spot⟩:qi2).add n=⟨j,o,s⟩:=by
 unfold Addr.add;split
 ·exact⟨off,spot,rfl,rfl⟩
 ·exact⟨off+n,none,rfl,rfl⟩
omit hT in
theorem ZU{i j:Nat}{off:Nat}{spot:Option Nat}(n:Nat):∀{Z:Ren} (k:Nat) (a7 a6:Array qgx),BR Z i j->AsR Z a7 a6 ->SR Q P AsR (qnp ⟨i,off,spot⟩ k n a7) Z (qnp ⟨j,off,spot⟩ k n a6):=by
 induction n with
 | zero=>intro Z k a7 a6 h ha;exact qf ha
 | succ n ih=>
  intro Z k a7 a6 h ha;obtain⟨o,s,e1,e2⟩:=yg i j off k spot;show SR Q P AsR (load ((⟨i,off,spot⟩:qi2).add k)>>=λv=>qnp ⟨i,off,spot⟩ (k+1) n (a7.push v)) Z (load ((⟨j,off,spot⟩:qi2).add k)>>=λv=>qnp ⟨j,off,spot⟩ (k+1) n (a6.push v));rw[e1,e2];exact .bnd (q6p h) λO v v' l hv=>ih (k+1) _ _ (h.mono l) ((ha.mono l).push hv)
omit hT in
theorem Zj{i j:Nat}{off:Nat}{spot:Option Nat}(n:Nat)(h:BR Z i j):SR Q P AsR (loadCells ⟨i,off,spot⟩ n) Z (loadCells ⟨j,off,spot⟩ n):=ZU n 0 _ _ h .nil
omit hT in
theorem jB{i j:Nat}{off:Nat}{spot:Option Nat}{vs a6:List qgx}(hv:LsR (VR Z) vs a6):∀(k:Nat),BR Z i j ->SR Q P (λ_ _ _=>True) (qo5 ⟨i,off,spot⟩ vs k) Z (qo5 ⟨j,off,spot⟩ a6 k):=by
 have a7:∀(vs a6:List qgx) (Z:Ren) (k:Nat),LsR (VR Z) vs a6->BR Z i j->SR Q P (λ_ _ _=>True) (qo5 ⟨i,off,spot⟩ vs k) Z (qo5 ⟨j,off,spot⟩ a6 k):=by
  intro vs;induction vs with
  | nil=>intro a6 Z k h hb;cases h;exact qf trivial
  | cons v l ih=>
   intro a6 Z k h hb;cases h with
   | @cons _ v' _ l' hv hl=>
    obtain⟨o,s,e1,e2⟩:=yg i j off k spot;show SR Q P _ (store ((⟨i,off,spot⟩:qi2).add k) v>>=λ_=>qo5 ⟨i,off,spot⟩ l (k+1)) Z (store ((⟨j,off,spot⟩:qi2).add k) v'>>=λ_=>qo5 ⟨j,off,spot⟩ l' (k+1));rw[e1,e2];exact .bnd (q9z hb hv) λO _ _ l' _=>ih _ O (k+1) (hl.imp λ_ _ x=>x.mono l') (hb.mono l')
 exact λk hb=>a7 vs a6 Z k hv hb
theorem Yi{t:qh5}{i j:Nat}{off:Nat}{spot:Option Nat}(h:BR Z i j):SR Q P VR (qq0 t ⟨i,off,spot⟩) Z (qq0 t ⟨j,off,spot⟩):=by
 refine .bndE (q2E hT t) λO b l=>?_;cases b with
 | true=>exact .bndE (qR hT t) λV n l'=>.bnd (Zj n (h.mono (l.trans l'))) λU a b _ hab=>qf hab.agg
 | false=>exact q6p (h.mono l)
theorem q2A{t:qh5}{i j:Nat}{off:Nat}{spot:Option Nat}{v v':qgx}(h:BR Z i j)(hv:VR Z v v') :SR Q P (λ_ _ _=>True) (storeVar t ⟨i,off,spot⟩ v) Z (storeVar t ⟨j,off,spot⟩ v'):=by
 refine .bndE (qR hT t) λO n l=>?_;dsimp only;rw[<- (hv.mono l).cells.1];split
 ·exact zv
 ·refine q2B ?_;exact jB (zl.1 (hv.mono l).cells) 0 (h.mono l)
omit hT in
theorem vz{e:qh5}{c c':Array qgx}(h:AsR Z c c'):SR Q P (λO a b=>∃i j,a=⟨i,0,none⟩/\b=⟨j,0,none⟩/\BR O i j) (newRow e c) Z (newRow e c') :=
 .bnd (Yh (.cells e h λo h1 h2=>absurd h2 (by simp))) λO i j l hb=>qf ⟨i,j,rfl,rfl,hb⟩
omit hT in
theorem Qk{e:qh5}{v v':qgx}(h:VR Z v v'):SR Q P (λO a b=>∃i j,a=⟨i,0,none⟩/\b=⟨j,0,none⟩/\BR O i j) (newVar e v) Z (newVar e v'):=vz h.cells
theorem q08(t:qh5):SR Q P EqR (elemOf t) Z (elemOf t):=.bndE (qD hT t) λO d _=>by
 cases d with
 | pointer e=>exact qf rfl
 | _=>exact qi
theorem jC{t:qh5}{c c':Array qgx}(h:AsR Z c c')(off:Nat):SR Q P VR (part t c off) Z (part t c' off):=by
 refine .bndE (q2E hT t) λO b l=>?_;cases b with
 | true=>exact .bndE (qR hT t) λV n l'=>qf (((h.mono (l.trans l')).extract _ _).agg)
 | false=>
  simp only[qho,if_false];cases hc:c[off]? with
  | some v=>
   obtain⟨v',a6,hr⟩:=h.get hc;simp only[a6];exact qf (hr.mono l)
  | none=>exact qi
theorem qz(hG:Gl P Z)(e:RuntimeError):SR Q P R (qkm e) Z (qkm e):=by
 have a6:P.rt=Q.rt:=by rw[hT]
 refine zH ?_;dsimp only;rw[a6];have hh:∀(O:Ren) (l:Le Z O) (t:qh5),VR O (qot Q t) (qot P t):=λO l t=>by
  unfold qot;have:P.globals.size=Q.globals.size:=by rw[hT]
  rw[<- this];exact .ptr _ _ ((hG _ (qgw _)).mono l)
 cases e with
 | bounds x y s c=>exact jU (vf.vr _ (q27 rfl) |> λh=>.iface _ h)
 | error m=>exact jU (.iface _ (.string _))
 | plain m=>exact jU (.iface _ (.string _))
 | nilDeref=>exact jU (.iface _ (.string _))
 | typeAssertion i c a m=>
  refine .bndE (q08 hT _) λO el l=>.bnd (Qk (AsR.agg ?_)) λV x y l' hxy=>?_
  ·have ho:∀o:Option qh5,VR O (match o with | some t=>qot Q t | none=>.pointer none) (match o with | some t=>qot P t | none=>.pointer none):=λo=>by
    cases o with
    | none=>exact .ptrNil
    | some t=>exact hh O l t
   rw[zl];exact .cons (ho i) (.cons (ho c) (.cons (ho (some a)) (.cons (.string _) .nil)))
  ·obtain⟨i,j,rfl,rfl,hb⟩:=hxy;exact jU (.iface _ (.ptr _ _ hb))
 | panicNil=>
  refine .bndE (q08 hT _) λO el l=>.bnd (Qk (AsR.agg .nil)) λV x y l' hxy=>?_;obtain⟨i,j,rfl,rfl,hb⟩:=hxy;exact jU (.iface _ (.ptr _ _ hb))
 | unhashable t=>exact jU (.iface _ (AsR.agg (.one (hh Z (.refl Z) t))))
theorem jl(hG:Gl P Z)(k:IntKind)(x y:Int)(c:qpy):SR Q P R (ql4 k x y c) Z (ql4 k x y c):=by
 unfold ql4;dsimp only;refine qE (λ_=>?_) λ_=>?_
 ·exact .bndE (q9B vB) λO n l=>qz hT (hG.mono l) _
 ·exact(qz hT hG (.bounds (IntKind.i64.wrap x) y (k != IntKind.u64) c):SR Q P R _ Z _)
omit hT in
theorem vX{v v':qgx}(h:VR Z v v'):SR Q P EqR (asIntOf v) Z (asIntOf v'):=by
 cases h<;>first | exact qf rfl | exact qi | exact qx
omit hT in
theorem Zl{v v':qgx}(h:VR Z v v'):SR Q P EqR (asInt v) Z (asInt v'):=.bndE (vX h) λO a _=>qf rfl
omit hT in
theorem q7v{v v':qgx}(h:VR Z v v'):SR Q P EqR (asBool v) Z (asBool v'):=by
 cases h<;>first | exact qf rfl | exact qi
omit hT in
theorem q9H{v v':qgx}(h:VR Z v v'):SR Q P AsR (asAgg v) Z (asAgg v'):=by
 cases h with
 | agg h1 h2=>exact qf ⟨h1,h2⟩
 | _=>exact qi
def AdR:Rel qi2 qi2:=λZ a b=>∃i j o s,a=⟨i,o,s⟩/\b=⟨j,o,s⟩/\BR Z i j
theorem q09(hG:Gl P Z){v v':qgx}(h:VR Z v v'):SR Q P AdR (qqg v) Z (qqg v'):=by
 cases h with
 | ptr o s h=>exact qf ⟨_,_,o,s,rfl,rfl,h⟩
 | ptrNil=>
  show SR Q P AdR (qkm .nilDeref) Z (qkm .nilDeref);exact qz hT hG _
 | _=>exact qi
end
section
variable[JunkSet]{Q P:qgG}(hT:P.toTables=Q.toTables){Z:Ren}
theorem yH{v v':qgx}(h:VR Z v v'):SR Q P AdR (qqA v) Z (qqA v'):=by
 cases h with
 | ptr o s h=>exact qf ⟨_,_,o,s,rfl,rfl,h⟩
 | _=>exact qi
include hT
theorem q7u(t:qh5){v v':qgx}(h:VR Z v v'):SR Q P VR (Instr.loadAt t v) Z (Instr.loadAt t v') :=
 .bnd (yH h) λO a b l hab=>by obtain⟨i,j,o,s,rfl,rfl,hb⟩:=hab;exact Yi hT hb
theorem q4H(t:qh5){v v' x x':qgx}(h:VR Z v v')(hx:VR Z x x'):SR Q P (λ_ _ _=>True) (qqD t v x) Z (qqD t v' x') :=
 .bnd (yH h) λO a b l hab=>by obtain⟨i,j,o,s,rfl,rfl,hb⟩:=hab;exact q2A hT hb (hx.mono l)
theorem qa1{t:qh5}(hz:kM Q t=true):SR Q P VR (Instr.alloc t true (.tuple #[])) Z (Instr.alloc t true (.tuple #[])):=by
 refine .bnd (zt hT hz) λO z z' l a6=>?_;show SR Q P VR (newVar t z>>=λa=>pure (.pointer (some a))) O (newVar t z'>>=λa=>pure (.pointer (some a)));exact .bnd (Qk a6) λV a b l hab=>by obtain⟨i,j,rfl,rfl,hb⟩:=hab;exact qf (.ptr _ _ hb)
omit hT in
theorem qer(t:qh5){v v':qgx}(h:VR Z v v'):SR Q P VR (Instr.box t v) Z (Instr.box t v') :=
 .bnd (Qk h) λV a b l hab=>by obtain⟨i,j,rfl,rfl,hb⟩:=hab;exact qf (.ptr _ _ hb)
def q15(Z:Ren)(a b:Nat × qgx):Prop:=b.1=a.1/\VR Z a.2 b.2
omit hT in
theorem q42(a6:Nat->Option (Nat × Nat)):∀(l l':List (Nat × qgx)) (c c':Array qgx),LsR (q15 Z) l l'->AsR Z c c' ->(qmg a6 c l=none/\qmg a6 c' l'=none)\/∃r r',qmg a6 c l=some r/\qmg a6 c' l'=some r'/\AsR Z r r':=by
 intro l;induction l with
 | nil=>intro l' c c' h hc;cases h;exact .inr ⟨c,c',rfl,rfl,hc⟩
 | cons x l ih=>
  intro l' c c' h hc;cases h with
  | @cons _ y _ l' hxy hl=>
   obtain⟨i,v⟩:=x;obtain⟨i',v'⟩:=y;obtain⟨rfl,hv⟩:=hxy;simp only[qmg];cases hp:a6 i' with
   | none=>exact .inl ⟨rfl,rfl⟩
   | some os=>
    obtain⟨off,size⟩:=os;dsimp only;have e1:v'.cells.size=v.cells.size:=hv.cells.1.symm;rw[e1,<- hc.1];by_cases a7:(decide (v.cells.size≠size) || decide (off+v.cells.size > c.size))=true
    ·rw[if_pos a7,if_pos a7];exact .inl ⟨rfl,rfl⟩
    ·rw[if_neg a7,if_neg a7];refine ih l' _ _ hl ?_;have a9:∀(xs a8:List qgx) (k:Nat) (d d':Array qgx),LsR (VR Z) xs a8->AsR Z d d' ->
       AsR Z ((xs.zipIdx k).foldl (λcs (x:qgx × Nat)=>cs.setIfInBounds (off+x.2) x.1) d) ((a8.zipIdx k).foldl (λcs (x:qgx × Nat)=>cs.setIfInBounds (off+x.2) x.1) d'):=by
      intro xs;induction xs with
      | nil=>intro a8 k d d' hx hd;cases hx;exact hd
      | cons a xs ihx=>
       intro a8 k d d' hx hd;cases hx with
       | cons ha hxs=>exact ihx _ (k+1) _ _ hxs (hd.set _ ha)
     have:=a9 v.cells.toList v'.cells.toList 0 c c' (zl.1 hv.cells) hc;have e3:∀(a d:Array qgx),a.zipIdx.foldl (λcs (x:qgx × Nat)=>cs.setIfInBounds (off+x.2) x.1) d=(a.toList.zipIdx 0).foldl (λcs (x:qgx × Nat)=>cs.setIfInBounds (off+x.2) x.1) d:=λa d=>by
      rw[<- qmD,Array.toList_zipIdx]
     exact(e3 v.cells c ▸ e3 v'.cells c' ▸ this :)
theorem q9G{t:qh5}(hz:kM Q t=true){ps a6:Array (Nat × qgx)}(h:LsR (q15 Z) ps.toList a6.toList):SR Q P VR (Instr.build t ps) Z (Instr.build t a6):=by
 refine .bnd (zt hT hz) λO z z' l a9=>.bndE (qD hT t) λV d l'=>?_;have hp:LsR (q15 V) ps.toList a6.toList:=h.imp λ_ _ x=>⟨x.1,x.2.mono (l.trans l')⟩;have hc:AsR V z.cells z'.cells:=a9.cells.mono l';have fin:∀(pl:Nat->Option (Nat × Nat)) (U:Ren) (a7:String),Le V U->SR Q P VR
   (match qmg pl z.cells ps.toList with | some cells=>pure (.agg cells) | _=>stuck a7) U (match qmg pl z'.cells a6.toList with | some cells=>pure (.agg cells) | _=>stuck a7):=λpl U a7 lu=>by
  rcases q42 (Z:=U) pl _ _ _ _ (hp.imp λ_ _ x=>⟨x.1,x.2.mono lu⟩) (hc.mono lu) with⟨e1,e2⟩ | ⟨r,r',e1,e2,hr⟩
  ·rw[e1,e2];exact qi
  ·rw[e1,e2];exact qf hr.agg
 cases d with
 | struct fs=>
  refine .bndE (qcs λO f=>?_) λU a8 lu=>fin _ U _ lu;exact .bndE (qR hT _) λ_ n _=>qf rfl
 | array n e=>exact .bndE (qR hT _) λU size lu=>fin _ U _ lu
 | _=>exact qi
end
end
section
def PVR[JunkSet]:Rel qgx qgx:=λZ a b=>VR Z a b/\a≠.tuple #[]/\∀r,a≠.chan r
section
variable[JunkSet]{Q P:qgG}(hT:P.toTables=Q.toTables)
include hT
theorem yB(t:qh5):P.cellsOf t=Q.cellsOf t:=by unfold Program.cellsOf;rw[hT]
theorem kF(t:qh5):P.bytesOf t=Q.bytesOf t:=by unfold Program.bytesOf;rw[hT]
theorem Qf:P.depth=Q.depth:=by unfold Program.depth;rw[hT]
theorem Z9:P.globals=Q.globals:=by rw[hT]
theorem vd:∀d t off,qou P d t off=qou Q d t off:=by
 intro d;induction d with
 | zero=>intro t off;rfl
 | succ d ih=>intro t off;simp only[qou,km hT,yB hT,kF hT,ih]
theorem KJ:∀d t off,cellOfByte P d t off=cellOfByte Q d t off:=by
 intro d;induction d with
 | zero=>intro t off;rfl
 | succ d ih=>intro t off;simp only[cellOfByte,km hT,yB hT,kF hT,ih]
theorem Ke(d:Nat)(e:qh5)(c o:Nat)(b:Int):qn1 P d e c o b=qn1 Q d e c o b:=by
 simp only[qn1,yB hT,kF hT,vd hT,KJ hT]
theorem qc2:∀d t u,P.alikeButTags d t u=Q.alikeButTags d t u:=by
 intro d;induction d with
 | zero=>intro t u;rfl
 | succ d ih=>intro t u;simp only[Program.alikeButTags,JU hT,ih]
theorem q4A(t:qh5):P.underlyingId t=Q.underlyingId t:=by unfold Program.underlyingId;rw[hT]
theorem q9t(t:qh5):P.stoodInHeld t=Q.stoodInHeld t:=by
 unfold Program.stoodInHeld Program.stoodInAs;simp only[km hT,qc2 hT,q4A hT,JU hT,Qf hT];rw[show P.cutTypes=Q.cutTypes by rw[hT]]
theorem q1x:∀d t,P.eqGuardType d t=Q.eqGuardType d t:=by
 intro d;induction d with
 | zero=>intro t;rfl
 | succ d ih=>intro t;simp only[Program.eqGuardType,km hT,ih]
omit hT in
theorem qap:Q.info? (yQ Q)=none:=by
 unfold yQ Tables.info?;rw[if_neg (qm4 _)];have e:∀(f:Nat) (t:qh5),Made.infoAt Q.toTables (f+1) t=if t<Q.types.size then Q.types[t]? else(Made.decode (t - Q.types.size)).bind (Made.reckon (Made.infoAt Q.toTables f)):=λ_ _=>rfl;show Made.infoAt Q.toTables (99+1) Q.types.size=none;rw[e,if_neg (qm4 _),Nat.sub_self];rfl
omit hT in
theorem q67:Q.cellsOf (yQ Q)=0:=by unfold Program.cellsOf;rw[qap];rfl
variable{Z:Ren}{Y M:Type}{R:Rel Y M}
omit hT in
theorem q04{i j:Nat}(h:BR Z i j):SR Q P (λ_ a b=>a=none/\b=none) (viewAt i) Z (viewAt j):=by
 refine .bnd (xS h) λO x x' l hx=>?_;have e:x'.isSome=x.isSome:=by
  rcases hx with⟨_,rfl⟩ | ⟨_,_,rfl,e,n,rfl⟩<;>rfl
 rw[e];cases x.isSome with
 | true=>exact qf ⟨rfl,rfl⟩
 | false=>
  refine .bnd (jJ (h.mono l)) λV o o' l' ho=>?_;cases ho<;>exact qf ⟨rfl,rfl⟩
omit hT in
theorem q2D{i j:Nat}(h:BR Z i j):SR Q P (λO a b=>(a=none/\b=none)\/∃i j o s x,a=some (⟨i,o,s⟩,x)/\b=some (⟨j,o,s⟩,x)/\BR O i j) (numberAt i) Z (numberAt j):=by
 refine .bnd (xS h) λO x x' l hx=>?_;have e:x'.isSome=x.isSome:=by
  rcases hx with⟨_,rfl⟩ | ⟨_,_,rfl,e,n,rfl⟩<;>rfl
 rw[e];cases x.isSome with
 | true=>exact qf (.inl ⟨rfl,rfl⟩)
 | false=>
  refine .bnd (jJ (h.mono l)) λV o o' l' ho=>?_;cases ho with
  | number o s x h=>exact qf (.inr ⟨_,_,o,s,x,rfl,rfl,h⟩)
  | _=>exact qf (.inl ⟨rfl,rfl⟩)
omit hT in
theorem q05{i j:Nat}{o o':Nat}{s s':Option Nat}(h:BR Z i j):SR Q P (λ_ _ _=>True) (noView ⟨i,o,s⟩) Z (noView ⟨j,o',s'⟩) :=
 .bnd (q04 h) λO a b l hab=>by obtain⟨rfl,rfl⟩:=hab;exact qf trivial
omit hT in
theorem jK{i j:Nat}{o:Nat}{s:Option Nat}(h:BR Z i j):SR Q P (λO a b=>∃i j o s x,a=(⟨i,o,s⟩,x)/\b=(⟨j,o,s⟩,x)/\BR O i j) (qjm ⟨i,o,s⟩) Z (qjm ⟨j,o,s⟩) :=
 .bnd (q2D h) λO a b l hab=>by
  rcases hab with⟨rfl,rfl⟩ | ⟨i',j',o',s',x,rfl,rfl,hb⟩
  ·exact qf ⟨_,_,_,_,_,rfl,rfl,h.mono l⟩
  ·exact qf ⟨_,_,_,_,_,rfl,rfl,hb⟩
theorem Ql{i j:Nat}{o:Nat}{s:Option Nat}(h:BR Z i j)(hg:i<Q.globals.size):SR Q P EqR (qov ⟨i,o,s⟩) Z (qov ⟨j,o,s⟩):=by
 unfold qov;cases s with
 | some s=>exact qf rfl
 | none=>
  dsimp only;refine zH ?_;refine .bnd (q05 h) λO _ _ l _=>.bnd (xS (h.mono l)) λV x x' l' hx=>?_;have e:x'=x:=by
   rcases hx with⟨_,h⟩ | ⟨_,hge,_⟩
   ·exact h
   ·omega
  subst e;cases x' with
  | none=>exact qi
  | some en=>
   obtain⟨e,n⟩:=en;dsimp only;rw[yB hT];refine qE (λ_=>qf rfl) λ_=>?_;rw[Qf hT,vd hT,kF hT];cases qou Q Q.depth e (o % Q.cellsOf e) with
   | none=>exact qi
   | some b=>exact qf rfl
theorem Zi{i j i' j':Nat}{o o':Nat}{s s':Option Nat}(h:BR Z i j)(h':BR Z i' j')(hG:Gl P Z) :SR Q P EqR (Op.twoPlaces ⟨i,o,s⟩ ⟨i',o',s'⟩) Z (Op.twoPlaces ⟨j,o,s⟩ ⟨j',o',s'⟩):=by
 unfold Op.twoPlaces;refine zH ?_;dsimp only;by_cases hi:i<Q.globals.size
 ·have hP:P.globals.size=Q.globals.size:=by rw[Z9 hT]
  have e1:j=i:=(hG i (by omega)).fn h |>.symm;by_cases a6:i'=i
  ·subst a6;have e2:j'=j:=h'.fn h;subst e2;subst e1;simp only[bne_self_eq_false,Bool.false_or,Z9 hT];rw[if_neg (by simpa using hi)];exact .bndE (Ql hT h hi) λO a l=>.bndE (Ql hT (h'.mono l) hi) λV b _=>qf rfl
  ·have:(i != i' || decide (i>=Q.globals.size))=true:=by
    simp[Ne.symm a6]
   rw[if_pos this];exact ja
 ·have:(i != i' || decide (i>=Q.globals.size))=true:=by
   have:i>=Q.globals.size:=by omega
   simp[this]
  rw[if_pos this];exact ja
theorem q5a{i j i' j':Nat}{o o':Nat}{s s':Option Nat}(k:IntKind)(h:BR Z i j)(h':BR Z i' j')(hG:Gl P Z) :SR Q P VR (Op.addrSub k ⟨i,o,s⟩ ⟨i',o',s'⟩) Z (Op.addrSub k ⟨j,o,s⟩ ⟨j',o',s'⟩) :=
 .bndE (Zi hT h h' hG) λO a l=>qf (.int _ _)
theorem q5c{i j i' j':Nat}{o o':Nat}{s s':Option Nat}(op:BinOp)(h:BR Z i j)(h':BR Z i' j')(hG:Gl P Z) :SR Q P VR (Op.addrCmp op ⟨i,o,s⟩ ⟨i',o',s'⟩) Z (Op.addrCmp op ⟨j,o,s⟩ ⟨j',o',s'⟩) :=
 .bndE (Zi hT h h' hG) λO a l=>by
  obtain⟨x,y⟩:=a;cases op<;>first | exact qf (.bool _) | exact qx
omit hT in
theorem vV{i j:Nat}(h:BR Z i j)(hk:¬ JunkSet.jk i):SR Q P EqR (shape i) Z (shape j) :=
 (xS h).imp λO x x' _ hx=>by
  rcases hx with⟨_,e⟩ | ⟨h,_⟩
  ·exact e
  ·exact absurd h hk
omit hT in
theorem QE{i j:Nat}(h:BR Z i j)(hk:JunkSet.jk i):SR Q P (λ_ x x'=>x=some (yQ Q,0)/\∃e n,x'=some (e,n)) (shape i) Z (shape j) :=
 (xS h).imp λO x x' _ hx=>by
  rcases hx with⟨h,_⟩ | ⟨_,_,h⟩
  ·exact absurd hk h
  ·exact h
omit hT in
theorem q52{f:qli->Sem Y}{s':Sem M}:SR Q P R (ql1 (yQ Q)>>=f) Z s':=by
 refine .bad ?_;refine Bad.bind (f:=f) ?_;show Bad Q (match Q.info? (yQ Q) with
  | some i=>(pure i:Sem qli)
  | none=>stuck "no such type")
 rw[qap];trivial
theorem q58{i j:Nat}{o:Nat}{s:Option Nat}(h:BR Z i j)(hk:¬ JunkSet.jk i):SR Q P EqR (qov ⟨i,o,s⟩) Z (qov ⟨j,o,s⟩):=by
 unfold qov;cases s with
 | some s=>exact qf rfl
 | none=>
  dsimp only;refine zH ?_;refine .bnd (q05 h) λO _ _ l _=>.bndE (vV (h.mono l) hk) λV x l'=>?_;cases x with
  | none=>exact qi
  | some en=>
   obtain⟨e,n⟩:=en;dsimp only;rw[yB hT];refine qE (λ_=>qf rfl) λ_=>?_;rw[Qf hT,vd hT,kF hT];cases qou Q Q.depth e (o % Q.cellsOf e) with
   | none=>exact qi
   | some b=>exact qf rfl
theorem q5b{i j:Nat}{o:Nat}{s:Option Nat}(k:IntKind)(n:Int)(h:BR Z i j):SR Q P VR (Op.addrMod k ⟨i,o,s⟩ n) Z (Op.addrMod k ⟨j,o,s⟩ n):=by
 by_cases hk:JunkSet.jk i
 ·refine .bnd (QE h hk) λO x x' l hx=>?_;obtain⟨rfl,e,m,rfl⟩:=hx;exact q52
 ·refine .bndE (vV h hk) λO x l=>?_;cases x with
  | none=>exact qx
  | some en=>
   obtain⟨e,m⟩:=en;refine .bndE (zu hT e) λV ti l'=>?_;dsimp only;refine qE (λ_=>ja) λ_=>?_;exact .bndE (q58 hT (h.mono (l.trans l')) hk) λU b _=>qf (.int _ _)
theorem QD{t t':qh5}{ts a6:Array qh5}{v v' x x':qgx}(h:VR Z v v')(hx:VR Z x x') :SR Q P PVR (qj6 ts t #[v,x]) Z (qj6 a6 t' #[v',x']):=by
 have key:∀(p p':Option qi2),VR Z (.pointer p) (.pointer p')->SR Q P PVR (qj6 ts t #[.pointer p,x]) Z (qj6 a6 t' #[.pointer p',x']):=by
  intro p p' hp;unfold qj6;dsimp only;refine .bndE (Zl hx) λO n l=>?_;refine qE (λ_=>?_) λ_=>?_
  ·cases hp with
   | ptrNil=>exact qx
   | ptr o s h=>
    dsimp only;refine .bnd (q04 (h.mono l)) λV a b l' hab=>?_;obtain⟨rfl,rfl⟩:=hab;exact qf ⟨.ptr _ _ (h.mono (l.trans l')),by simp⟩
  ·refine qE (λ_=>ja) λ_=>?_;cases hp with
   | ptrNil=>exact qx
   | @ptr i j o s h=>
    dsimp only;by_cases hk:JunkSet.jk i
    ·refine .bnd (QE (h.mono l) hk) λV x x' l' a7=>?_;obtain⟨rfl,e,m,rfl⟩:=a7;refine .bad ?_;show Bad Q (match qn1 Q Q.depth (yQ Q) (0 / Q.cellsOf (yQ Q)) o n with
      | some off=>(pure (.pointer (some ⟨i,off,s⟩)):Sem qgx)
      | none=>unsupported (.unsafePointer "Add"))
     have:qn1 Q Q.depth (yQ Q) (0 / Q.cellsOf (yQ Q)) o n=none:=by
      unfold qn1;simp[q67]
     rw[this];trivial
    ·refine .bndE (vV (h.mono l) hk) λV x l'=>?_;cases x with
     | none=>exact qx
     | some en=>
      obtain⟨e,m⟩:=en;dsimp only;refine zH ?_;rw[Ke hT,Qf hT,yB hT];cases qn1 Q Q.depth e (m / Q.cellsOf e) o n with
      | none=>exact qx
      | some off=>exact qf ⟨.ptr _ _ (h.mono (l.trans l')),by simp⟩
 cases h with
 | ptrNil=>exact key _ _ .ptrNil
 | ptr o s h=>exact key _ _ (.ptr o s h)
 | _=>exact qi
theorem q1g{t t':qh5}{ts a6:Array qh5}{v v' x x':qgx}(h:VR Z v v')(hx:VR Z x x') :SR Q P VR (qj6 ts t #[v,x]) Z (qj6 a6 t' #[v',x']):=(QD hT h hx).imp λ_ _ _ _ h=>h.1
theorem ji{t:qh5}{v v' x x':qgx}(h:VR Z v v')(hx:VR Z x x'):SR Q P VR (qoe t v x) Z (qoe t v' x'):=by
 have rest:∀O,Le Z O->SR Q P VR (do
   let .pointer (some n):=v | qj6 #[] t #[v,x]
   let (a,lost) <- qjm n
   match <- qj6 #[] t #[.pointer (some a),x] with
    | .pointer (some b)=>asNumber b lost
    | v=>pure v) O (do
   let .pointer (some n):=v' | qj6 #[] t #[v',x']
   let (a,lost) <- qjm n
   match <- qj6 #[] t #[.pointer (some a),x'] with
    | .pointer (some b)=>asNumber b lost
    | v=>pure v):=by
  intro O l;have hx':=hx.mono l;have a6:SR Q P VR (qj6 #[] t #[v,x]) O (qj6 #[] t #[v',x']):=q1g hT (h.mono l) hx';cases h with
  | ptr o s h=>
   dsimp only;refine .bnd (jK (h.mono l)) λV a b l' hab=>?_;obtain⟨i',j',o',s',lost,rfl,rfl,hb⟩:=hab;dsimp only;refine .bnd (QD hT (.ptr o' s' hb) (hx'.mono l')) λU y y' lu a8=>?_;obtain⟨hy,a9⟩:=a8;have a7:SR Q P VR (pure y) U (pure y'):=qf hy;cases hy with
   | ptr o' s' h'=>exact .bnd (Yh (.number _ _ _ h')) λX i j _ hij=>qf (.ptr _ _ hij)
   | wild _ _=>exact absurd rfl (a9.2 _)
   | _=>exact a7
  | _=>exact a6
 unfold qoe;refine .bndE (qD hT t) λO d l=>?_;cases d<;>first | exact rest O l | exact qx
def q1q(Q:qgG)(t:qh5):Bool :=
 match Q.underlying t with
 | some .unsafePointer=>false
 | _=>true
theorem qO(t:qh5):SR Q P (λ_ a b=>b=a/\Q.underlying t=some a) (qkc t) Z (qkc t):=by
 refine zH ?_;rw[km hT];cases Q.underlying t with
 | some i=>exact qf ⟨rfl,rfl⟩
 | none=>exact qi
def KD:BinOp->Bool
 | .eql | .neq=>true
 | _=>false
theorem qa0{op:BinOp}(ho:KD op=false){t:qh5}(ht:q1q Q t=true){v v' x x':qgx}(h:VR Z v v')(hx:VR Z x x')(hG:Gl P Z) :SR Q P VR (binOp op t v x) Z (binOp op t v' x'):=by
 have ints:∀(k:IntKind) (a:Int) (k':IntKind) (b:Int),SR Q P VR (binOp op t (.int k a) (.int k' b)) Z (binOp op t (.int k a) (.int k' b)):=by
  intro k a k' b;have b7:∀op,SR Q P VR (Op.intDiv op k a b) Z (Op.intDiv op k a b):=λop=>by
   unfold Op.intDiv;refine qE (λ_=>qz hT hG _) λ_=>?_;cases op<;>first | exact qf (.int _ _) | exact qi
  have a6:∀op,SR Q P VR (Op.shift op k a k' b) Z (Op.shift op k a k' b):=λop=>by
   unfold Op.shift;refine qE (λ_=>qz hT hG _) λ_=>?_;dsimp only;cases op<;>first | exact qf (.int _ _) | exact qi
  cases op<;>first
   | exact a6 .shl
   | exact a6 .shr
   | (refine qE (λ_=>qi) λ_=>?_;first | exact b7 .quo | exact b7 .rem | exact qf (.int _ _) | exact qf (.bool _))
   | exact absurd ho (by decide)
 have a7:op=.add->∀(p p':Option qi2) (k:IntKind) (b:Int),VR Z (.pointer p) (.pointer p')->SR Q P VR (binOp .add t (.pointer p) (.int k b)) Z (binOp .add t (.pointer p') (.int k b)):=by
  intro _ p p' k b hp;refine .bnd (qO hT t) λO d d' l hd=>?_;obtain⟨rfl,hd⟩:=hd;have:SR Q P VR (qoe t (.pointer p) (.int k b)) O (qoe t (.pointer p') (.int k b)):=ji hT (hp.mono l) (.int k b);unfold q1q at ht;rw[hd] at ht;cases d'<;>first | exact this | cases ht
 have a9:∀(a8:BinOp) {i j i' j' o s o' s'},BR Z i j->BR Z i' j'->SR Q P VR (do Op.addrCmp a8 (<- qjm ⟨i,o,s⟩).1 (<- qjm ⟨i',o',s'⟩).1) Z (do Op.addrCmp a8 (<- qjm ⟨j,o,s⟩).1 (<- qjm ⟨j',o',s'⟩).1):=by
  intro a8 i j i' j' o s o' s' h1 h2;refine .bnd (jK h1) λO a b l hab=>?_;obtain⟨_,_,_,_,_,rfl,rfl,hb1⟩:=hab;refine .bnd (jK (h2.mono l)) λV a b l' hab=>?_;obtain⟨_,_,_,_,_,rfl,rfl,b6⟩:=hab;exact q5c hT a8 (hb1.mono l') b6 (hG.mono (l.trans l'))
 have sub:∀{i j i' j' o s o' s'},BR Z i j->BR Z i' j'->SR Q P VR (do Op.addrSub .u64 (<- qjm ⟨i,o,s⟩).1 (<- qjm ⟨i',o',s'⟩).1) Z (do Op.addrSub .u64 (<- qjm ⟨j,o,s⟩).1 (<- qjm ⟨j',o',s'⟩).1):=by
  intro i j i' j' o s o' s' h1 h2;refine .bnd (jK h1) λO a b l hab=>?_;obtain⟨_,_,_,_,_,rfl,rfl,hb1⟩:=hab;refine .bnd (jK (h2.mono l)) λV a b l' hab=>?_;obtain⟨_,_,_,_,_,rfl,rfl,b6⟩:=hab;exact q5a hT .u64 (hb1.mono l') b6 (hG.mono (l.trans l'))
 have b0:∀{i j o s} (k:IntKind) (n:Int),BR Z i j->SR Q P VR (do Op.addrMod k (<- qjm ⟨i,o,s⟩).1 n) Z (do Op.addrMod k (<- qjm ⟨j,o,s⟩).1 n):=by
  intro i j o s k n h1;refine .bnd (jK h1) λO a b l hab=>?_;obtain⟨_,_,_,_,_,rfl,rfl,hb1⟩:=hab;exact q5b hT k n hb1
 cases h with
 | int k a=>
  cases hx with
  | int k' b=>exact ints k a k' b
  | ptr o s hb=>cases op<;>first | exact ji hT (.ptr o s hb) (.int k a) | exact b0 k (a+1) hb | exact qx | exact absurd ho (by decide)
  | ptrNil=>cases op<;>first | exact ji hT .ptrNil (.int k a) | exact qx | exact absurd ho (by decide)
  | _=>cases op<;>first | exact qi | exact absurd ho (by decide)
 | string a=>
  cases hx with
  | string b=>
   cases op<;>first
    | exact qf (.bool _)
    | exact qi
    | (refine qE (λ_=>qx) λ_=>?_;exact qf (.string _))
    | exact absurd ho (by decide)
  | ptr o s hb=>cases op<;>first | exact qx | exact qi | exact absurd ho (by decide)
  | ptrNil=>cases op<;>first | exact qx | exact qi | exact absurd ho (by decide)
  | _=>cases op<;>first | exact qi | exact absurd ho (by decide)
 | ptr o s hb=>
  cases hx with
  | int k b=>cases op<;>first | exact a7 rfl _ _ k b (.ptr o s hb) | exact ji hT (.ptr o s hb) (.int k (-b)) | exact b0 k b hb | exact b0 k (b+1) hb | exact qx | exact absurd ho (by decide)
  | ptr o' s' hb'=>cases op<;>first | exact sub hb hb' | exact a9 .lss hb hb' | exact a9 .leq hb hb' | exact a9 .gtr hb hb' | exact a9 .geq hb hb' | exact qx | exact absurd ho (by decide)
  | ptrNil=>cases op<;>first | exact qx | exact absurd ho (by decide)
  | _=>cases op<;>first | exact qx | exact qi | exact absurd ho (by decide)
 | ptrNil=>
  cases hx with
  | int k b=>cases op<;>first | exact a7 rfl _ _ k b .ptrNil | exact ji hT .ptrNil (.int k (-b)) | exact qx | exact absurd ho (by decide)
  | _=>cases op<;>first | exact qx | exact qi | exact absurd ho (by decide)
 | _=>
  cases hx with
  | ptr o s hb=>cases op<;>first | exact qx | exact qi | exact absurd ho (by decide)
  | ptrNil=>cases op<;>first | exact qx | exact qi | exact absurd ho (by decide)
  | _=>cases op<;>first | exact qi | exact absurd ho (by decide)
end
end
section
def q6x(Q:qgG)(t:qh5):Bool :=
 match Q.info? t with
 | some i=>match i.desc with | .named n _=>n != "sync.copyChecker" | _=>true
 | none=>true
def eqB(Q:qgG):Nat->qh5->Bool
 | 0,_=>false
 | n+1,t=>
  match Q.underlying t with
  | some .bool | some .string | some (.slice _) | some (.map ..) | some (.func ..)=>true
  | some (.int _)=>q6x Q t
  | some (.struct fs)=>fs.all λf=>f.name == "_" || eqB Q n f.type
  | some (.array _ e)=>eqB Q n e
  | _=>false
theorem zZ{Q:qgG}{v:qgx}(hv:v=.tuple #[]\/∃r,v=.chan r)(d:Nat){t:qh5}(ht:∀a b,Q.underlying t≠some (.chan a b))(x:qgx):Bad Q (Op.equalIn d t v x):=by
 cases d with
 | zero=>exact rfl
 | succ d=>
  unfold Op.equalIn;show Bad Q ((match Q.underlying t with | some i=>(pure i:Sem TypeDesc) | none=>stuck "no such type").bind _);cases hu:Q.underlying t with
  | none=>exact rfl
  | some ty=>
   rcases hv with rfl | ⟨r,rfl⟩
   ·cases ty<;>cases x<;>first | exact rfl | (rename_i p;cases p<;>exact rfl)
   ·cases ty<;>first | exact absurd hu (ht _ _) | (cases x<;>first | exact rfl | (rename_i p;cases p<;>exact rfl))
theorem zY{Q:qgG}{v:qgx}(hv:v=.tuple #[]\/∃r,v=.chan r)(d:Nat){t:qh5}(ht:∀a b,Q.underlying t≠some (.chan a b))(x:qgx):Bad Q (Op.equalIn d t x v):=by
 cases d with
 | zero=>exact rfl
 | succ d=>
  unfold Op.equalIn;show Bad Q ((match Q.underlying t with | some i=>(pure i:Sem TypeDesc) | none=>stuck "no such type").bind _);cases hu:Q.underlying t with
  | none=>exact rfl
  | some ty=>
   rcases hv with rfl | ⟨r,rfl⟩
   ·cases ty<;>cases x<;>first | exact rfl | (rename_i p;cases p<;>exact rfl) | (rename_i p _;cases p<;>exact rfl) | (rename_i p _ _;cases p<;>exact rfl)
   ·cases ty<;>first | exact absurd hu (ht _ _) | (cases x<;>first | exact rfl | (rename_i p;cases p<;>exact rfl) | (rename_i p _;cases p<;>exact rfl) | (rename_i p _ _;cases p<;>exact rfl))
theorem yd{Q:qgG}{n:Nat}{t:qh5}(h:eqB Q n t=true):∀a b,Q.underlying t≠some (.chan a b):=by
 intro a b e;cases n with
 | zero=>cases h
 | succ n=>
  unfold eqB at h;rw[e] at h;cases h
section
variable[JunkSet]{Q P:qgG}(hT:P.toTables=Q.toTables){Z:Ren}{Y M W:Type}{R:Rel Y M}
theorem zJ{σT:Type}{K:Ren->Prop}(hK:∀Z O,Le Z O->K Z->K O){f f':Y->σT->Sem (ForInStep σT)}(l:List Y)(h:∀a∈l,∀Z b,K Z->SR Q P EqR (f a b) Z (f' a b)):∀(Z:Ren) (b:σT),K Z->SR Q P EqR (forIn l b f) Z (forIn l b f'):=by
 induction l with
 | nil=>intro Z b _;exact qf rfl
 | cons a l ih=>
  intro Z b k;rw[qqv,qqv];refine .bndE (h a (qo6 ..) Z b k) λO s lσ=>?_;cases s with
  | done b=>exact qf rfl
  | yield b=>exact ih (λa ha=>h a (qnt _ ha)) O b (hK _ _ lσ k)
include hT
theorem QX:∀(n d:Nat) {Z:Ren} {t:qh5} {x x' y y':qgx},eqB Q n t=true->VR Z x x'->VR Z y y'->Gl P Z ->SR Q P EqR (Op.equalIn d t x y) Z (Op.equalIn d t x' y'):=by
 intro n;induction n with
 | zero=>intro d Z t x x' y y' h;cases h
 | succ n ih=>
  intro d Z t x x' y y' h hx hy hG;cases d with
  | zero=>exact qx
  | succ d=>
   unfold Op.equalIn;refine .bnd (qO hT t) λO ty b0 l a6=>?_;obtain⟨rfl,a6⟩:=a6;replace hx:=hx.mono l;replace hy:=hy.mono l;replace hG:=hG.mono l;unfold eqB at h;rw[a6] at h;cases b0 with
   | bool=>cases hx<;>first | exact qi | (cases hy<;>first | exact qi | exact qf rfl)
   | string=>cases hx<;>first | exact qi | (cases hy<;>first | exact qi | exact qf rfl)
   | slice e=>cases hx<;>first | exact qi | (cases hy<;>first | exact qi | exact qf rfl)
   | map k e=>cases hx<;>first | exact qi | (cases hy<;>first | exact qi | exact qf rfl)
   | func a b c=>cases hx<;>first | exact qi | (cases hy<;>first | exact qi | exact qf rfl)
   | int k=>
    have b6:∀{i j i' j' o s o' s'},BR O i j->BR O i' j'->SR Q P EqR (do
      let (a,b):=((<- qjm ⟨i,o,s⟩).1,(<- qjm ⟨i',o',s'⟩).1)
      if a.block == b.block && a.block<(<- program).globals.size then return (<- qov a) == (<- qov b)
      let .named "sync.copyChecker" _:=(<- ql1 t).desc | unsupported .addressObserved
      if a == b then pure true else unsupported .addressObserved) O (do
      let (a,b):=((<- qjm ⟨j,o,s⟩).1,(<- qjm ⟨j',o',s'⟩).1)
      if a.block == b.block && a.block<(<- program).globals.size then return (<- qov a) == (<- qov b)
      let .named "sync.copyChecker" _:=(<- ql1 t).desc | unsupported .addressObserved
      if a == b then pure true else unsupported .addressObserved):=by
     intro i j i' j' o s o' s' h1 h2;refine .bnd (jK h1) λO a b l hab=>?_;obtain⟨_,_,_,_,_,rfl,rfl,hb1⟩:=hab;refine .bnd (jK (h2.mono l)) λV a b l' hab=>?_;obtain⟨_,_,_,_,_,rfl,rfl,a8⟩:=hab;dsimp only;refine zH ?_
     rename_i i1 j1 o1 s1 x1 i2 j2 o2 s2 x2
     have hP:P.globals.size=Q.globals.size:=by rw[Z9 hT]
     by_cases hc:(i1 == i2 && decide (i1<Q.globals.size))=true
     ·rw[if_pos hc];simp only[qh9,beq_iff_eq,decide_eq_true_eq] at hc;obtain⟨rfl,hlt⟩:=hc;have e:j2=j1:=a8.fn (hb1.mono l');subst e;have e1:j2=i1:=(((hG.mono l).mono l') i1 (by omega)).fn a8 |>.symm;rw[if_pos (by simp[e1,hP,hlt])];exact .bndE (Ql hT (hb1.mono l') hlt) λU a lu=>.bndE (Ql hT (a8.mono lu) hlt) λX b _=>qf rfl
     ·rw[if_neg hc];refine .bad ?_;show Bad Q ((ql1 t).bind _);have a7:∃ti,Q.info? t=some ti:=by
       unfold Program.underlying at a6;cases hq:Q.info? t with
       | none=>rw[hq] at a6;cases a6
       | some ti=>exact⟨ti,rfl⟩
      obtain⟨ti,a9⟩:=a7;unfold q6x at h;simp only[a9] at h;show Bad Q ((match Q.info? t with
       | some i=>(pure i:Sem qli)
       | none=>stuck "no such type").bind _)
      rw[a9];show Bad Q (match ti.desc with
       | .named "sync.copyChecker" _=>if((⟨i1,o1,s1⟩:qi2) == ⟨i2,o2,s2⟩)=true then pure true else unsupported .addressObserved
       | _=>unsupported .addressObserved)
      split
      ·rename_i u hd
       rw[hd] at h;simp at h
      ·trivial
    cases hx with
    | int k1 a=>
     cases hy with
     | int k2 b=>exact qE (λ_=>qf rfl) λ_=>qi
     | ptr o s hb=>
      cases a with
      | ofNat m=>cases m with
       | zero=>exact qf rfl
       | succ m=>exact qx
      | negSucc m=>exact qx
     | ptrNil=>exact qx
     | _=>exact qi
    | ptr o s hb=>
     cases hy with
     | int k2 b=>
      cases b with
      | ofNat m=>cases m with
       | zero=>exact qf rfl
       | succ m=>exact qx
      | negSucc m=>exact qx
     | ptr o' s' hb'=>exact b6 hb hb'
     | ptrNil=>exact qx
     | _=>exact qx
    | ptrNil=>cases hy<;>exact qx
    | _=>cases hy<;>first | exact qi | exact qx
   | struct fs=>
    cases hx with
    | agg h1 h2=>
     cases hy with
     | agg h3 h4=>
      dsimp only;refine zH ?_;rw[q9t hT];refine qE (λ_=>ja) λ_=>?_;rw[<- qlb,<- qlb];dsimp only at h;rw[qiv] at h;refine .bndE (zJ (K:=λX=>Le O X) (λ_ _ l k=>k.trans l) _ (λf hf U b lu=>?_) O _ (.refl O)) λU r lu=>?_
      ·refine qE (λhne=>?_) λ_=>qf rfl;have b7:eqB Q n f.type=true:=by
        have:=h f (qjl.1 hf);simp only[qju,beq_iff_eq] at this;exact this.resolve_left hne
       exact .bnd (jC hT (AsR.mono lu ⟨h1,h2⟩) _) λω1 p p' l1 hp=>.bnd (jC hT (AsR.mono (lu.trans l1) ⟨h3,h4⟩) _) λω2 q q' l2 hq=>
        .bndE (ih d b7 (hp.mono l2) hq (hG.mono ((lu.trans l1).trans l2))) λω3 r _=>qE (λ_=>qf rfl) λ_=>qf rfl
      ·obtain⟨r,u⟩:=r;cases r<;>exact qf rfl
     | _=>exact qi
    | _=>exact qi
   | array len e=>
    cases hx with
    | agg h1 h2=>
     cases hy with
     | agg h3 h4=>
      dsimp only;refine .bndE (qR hT e) λV n l'=>?_;rw[qj2,qj2];refine .bndE (zJ (K:=λX=>Le O X) (λ_ _ l k=>k.trans l) _ (λf hf U b lu=>?_) V _ l') λU r lu=>?_
      ·exact .bnd (jC hT (AsR.mono lu ⟨h1,h2⟩) _) λω1 p p' l1 hp=>.bnd (jC hT (AsR.mono (lu.trans l1) ⟨h3,h4⟩) _) λω2 q q' l2 hq=>
        .bndE (ih d h (hp.mono l2) hq (hG.mono ((lu.trans l1).trans l2))) λω3 r _=>qE (λ_=>qf rfl) λ_=>qf rfl
      ·obtain⟨r,u⟩:=r;cases r<;>exact qf rfl
     | _=>exact qi
    | _=>exact qi
   | _=>cases h
theorem Yk:∀(n d:Nat) {Z:Ren} {t:qh5} {x x' y y':qgx},eqB Q n t=true->VR Z x x'->VR Z y y' ->SR Q P EqR (Op.eqGuardIn d t x y) Z (Op.eqGuardIn d t x' y'):=by
 intro n;induction n with
 | zero=>intro d Z t x x' y y' h;cases h
 | succ n ih=>
  intro d Z t x x' y y' h hx hy;cases d with
  | zero=>exact qx
  | succ d=>
   unfold Op.eqGuardIn;refine .bnd (qO hT t) λO ty a7 l a6=>?_;obtain⟨rfl,a6⟩:=a6;replace hx:=hx.mono l;replace hy:=hy.mono l;unfold eqB at h;rw[a6] at h;cases a7 with
   | struct fs=>
    cases hx with
    | agg h1 h2=>
     cases hy with
     | agg h3 h4=>
      dsimp only;rw[<- qlb,<- qlb];dsimp only at h;rw[qiv] at h;refine .bndE (zJ (K:=λX=>Le O X) (λ_ _ l k=>k.trans l) _ (λf hf U b lu=>?_) O _ (.refl O)) λU r lu=>?_
      ·refine qE (λhne=>?_) λ_=>qf rfl;have a8:eqB Q n f.type=true:=by
        have:=h f (qjl.1 hf);simp only[qju,beq_iff_eq] at this;exact this.resolve_left hne
       exact .bnd (jC hT (AsR.mono lu ⟨h1,h2⟩) _) λω1 p p' l1 hp=>.bnd (jC hT (AsR.mono (lu.trans l1) ⟨h3,h4⟩) _) λω2 q q' l2 hq=>
        .bndE (ih d a8 (hp.mono l2) hq) λω3 r _=>qE (λ_=>qf rfl) λ_=>qf rfl
      ·obtain⟨r,u⟩:=r;cases r<;>exact qf rfl
     | wild _ hn=>cases y'<;>first | exact qf rfl | cases hn
     | _=>exact qf rfl
    | wild _ hn=>cases x'<;>first | exact qf rfl | cases hn
    | _=>exact qf rfl
   | array len e=>
    cases hx with
    | agg h1 h2=>
     cases hy with
     | agg h3 h4=>
      dsimp only;refine .bndE (qR hT e) λV n l'=>?_;rw[qj2,qj2];refine .bndE (zJ (K:=λX=>Le O X) (λ_ _ l k=>k.trans l) _ (λf hf U b lu=>?_) V _ l') λU r lu=>?_
      ·exact .bnd (jC hT (AsR.mono lu ⟨h1,h2⟩) _) λω1 p p' l1 hp=>.bnd (jC hT (AsR.mono (lu.trans l1) ⟨h3,h4⟩) _) λω2 q q' l2 hq=>
        .bndE (ih d h (hp.mono l2) hq) λω3 r _=>qE (λ_=>qf rfl) λ_=>qf rfl
      ·obtain⟨r,u⟩:=r;cases r<;>exact qf rfl
     | wild _ hn=>cases y'<;>first | exact qf rfl | cases hn
     | _=>exact qf rfl
    | wild _ hn=>cases x'<;>first | exact qf rfl | cases hn
    | _=>exact qf rfl
   | interface ms=>cases h
   | _=>cases hx<;>first | exact qf rfl | (cases hy<;>exact qf rfl)
def kz:qhF->Bool
 | .const .nilIface=>true
 | _=>false
def q8r(Q:qgG)(t:qh5)(x y:qhF):Bool:=eqB Q 6 t || (kz x || kz y) && (match Q.underlying t with | some (.interface _)=>true | _=>false)
theorem qeo{op:BinOp}(ho:KD op=true){t:qh5}(ht:eqB Q 6 t=true){v v' x x':qgx}(h:VR Z v v')(hx:VR Z x x')(hG:Gl P Z) :SR Q P VR (binOp op t v x) Z (binOp op t v' x'):=by
 have e:SR Q P VR (do pure (.bool (<- Op.equal t v x))) Z (do pure (.bool (<- Op.equal t v' x'))):=.bndE (QX hT 6 _ ht h hx hG) λO b _=>qf (.bool _);have n:SR Q P VR (do pure (.bool (!(<- Op.equal t v x)))) Z (do pure (.bool (!(<- Op.equal t v' x')))):=.bndE (QX hT 6 _ ht h hx hG) λO b _=>qf (.bool _);cases op<;>first | exact absurd ho (by decide) | skip
 ·cases h<;>first | exact e | exact .bad (Bad.bind (zZ (.inl rfl) _ (yd ht) _) _) | exact .bad (Bad.bind (zZ (.inr ⟨_,rfl⟩) _ (yd ht) _) _) | (cases hx<;>first | exact e | exact .bad (Bad.bind (zY (.inl rfl) _ (yd ht) _) _) | exact .bad (Bad.bind (zY (.inr ⟨_,rfl⟩) _ (yd ht) _) _) | exact qf (.bool _) | exact qE (λ_=>qi) λ_=>qf (.bool _))
 ·cases h<;>first | exact n | exact .bad (Bad.bind (zZ (.inl rfl) _ (yd ht) _) _) | exact .bad (Bad.bind (zZ (.inr ⟨_,rfl⟩) _ (yd ht) _) _) | (cases hx<;>first | exact n | exact .bad (Bad.bind (zY (.inl rfl) _ (yd ht) _) _) | exact .bad (Bad.bind (zY (.inr ⟨_,rfl⟩) _ (yd ht) _) _) | exact qf (.bool _) | exact qE (λ_=>qi) λ_=>qf (.bool _))
end
end
section
section
variable[JunkSet]{Q P:qgG}(hT:P.toTables=Q.toTables){Z:Ren}{Y M W:Type}{R:Rel Y M}
include hT
theorem q9E{op:BinOp}(ho:KD op=true){t:qh5}(ht:∃ms,Q.underlying t=some (.interface ms)){v v' x x':qgx}(h:VR Z v v')(hx:VR Z x x')(hn:v=.nilIface\/x=.nilIface) :SR Q P VR (binOp op t v x) Z (binOp op t v' x'):=by
 obtain⟨ms,a8⟩:=ht;have a6:∀a b,Q.underlying t≠some (.chan a b):=λa b e=>by rw[a8] at e;cases e
 have key:SR Q P EqR (Op.equal t v x) Z (Op.equal t v' x'):=by
  refine .bnd (qO hT t) λO ty a9 l a7=>?_;obtain⟨rfl,a7⟩:=a7;rw[a8] at a7;cases a7;rcases hn with rfl | rfl
  ·cases h;cases hx<;>first | exact qf rfl | exact qi
  ·cases hx;cases h<;>first | exact qf rfl | exact qi
 have e:SR Q P VR (do pure (.bool (<- Op.equal t v x))) Z (do pure (.bool (<- Op.equal t v' x'))):=.bndE key λO b _=>qf (.bool _);have n:SR Q P VR (do pure (.bool (!(<- Op.equal t v x)))) Z (do pure (.bool (!(<- Op.equal t v' x')))):=.bndE key λO b _=>qf (.bool _);cases op<;>first | exact absurd ho (by decide) | skip
 ·rcases hn with rfl | rfl
  ·cases h;cases hx<;>first | exact e | exact .bad (Bad.bind (zY (.inl rfl) _ a6 _) _) | exact .bad (Bad.bind (zY (.inr ⟨_,rfl⟩) _ a6 _) _)
  ·cases hx;cases h<;>first | exact e | exact .bad (Bad.bind (zZ (.inl rfl) _ a6 _) _) | exact .bad (Bad.bind (zZ (.inr ⟨_,rfl⟩) _ a6 _) _)
 ·rcases hn with rfl | rfl
  ·cases h;cases hx<;>first | exact n | exact .bad (Bad.bind (zY (.inl rfl) _ a6 _) _) | exact .bad (Bad.bind (zY (.inr ⟨_,rfl⟩) _ a6 _) _)
  ·cases hx;cases h<;>first | exact n | exact .bad (Bad.bind (zZ (.inl rfl) _ a6 _) _) | exact .bad (Bad.bind (zZ (.inr ⟨_,rfl⟩) _ a6 _) _)
theorem Ym{op:BinOp}{t:qh5}{x y:qhF}(ht:KD op=true->q8r Q t x y=true){v v' u u':qgx}(h:VR Z v v')(hu:VR Z u u')(hx:kz x=true->v=.nilIface)(hy:kz y=true->u=.nilIface)(hw:KD op=true->∀w,(w=v\/w=u)->w≠.chan none) :SR Q P (λ_ _ _=>True) (eqGuard op t x y v u) Z (eqGuard op t x y v' u'):=by
 have a7:KD op=true->SR Q P (λ_ _ _=>True) (eqGuard .eql t x y v u) Z (eqGuard .eql t x y v' u'):=by
  intro ho;have ht:=ht ho;have a8:=hw ho v (.inl rfl);have a6:=hw ho u (.inr rfl);unfold q8r at ht;simp only[qju,qh9] at ht;cases h with
  | wild _ _=>exact absurd rfl a8
  | nilIface=>
   cases hu with
   | nilIface=>
    refine qE (λh=>absurd h (by decide)) λ_=>?_;refine qE (λ_=>qf trivial) λhc=>?_;rcases ht with ht | ⟨hn,_⟩
    ·refine .bndE (Yk hT 6 _ ht .nilIface .nilIface) λO b _=>?_;exact qE (λ_=>qx) λ_=>qf trivial
    ·exfalso;apply hc;rcases hn with hn | hn
     ·cases x<;>first | rfl | (exact absurd hn (by simp[kz]))
     ·cases y<;>first | exact absurd hn Bool.false_ne_true | (simp;done)
   | wild _ _=>exact absurd rfl a6
   | _=>exact qf trivial
  | agg h1 h2=>
   cases hu with
   | agg h3 h4=>
    refine qE (λh=>absurd h (by decide)) λ_=>?_;refine zH (zH ?_);rw[q1x hT,Qf hT];refine qE (λ_=>qf trivial) λ_=>?_;rcases ht with ht | ⟨hn,_⟩
    ·refine .bndE (Yk hT 6 _ ht (.agg h1 h2) (.agg h3 h4)) λO b _=>?_;exact qE (λ_=>qx) λ_=>qf trivial
    ·rcases hn with hn | hn
     ·have:=hx hn;cases this
     ·have:=hy hn;cases this
   | wild _ _=>exact absurd rfl a6
   | _=>exact qf trivial
  | _=>exact qf trivial
 cases op<;>first | exact a7 rfl | exact qf trivial
theorem qdu{op:BinOp}(ho:KD op=true){t:qh5}(ht:∀a b,Q.underlying t≠some (.chan a b)){x y:qhF}{v u:qgx}(h:v=.chan none\/u=.chan none):Bad Q (do eqGuard op t x y v u;binOp op t v u):=by
 rcases h with rfl | rfl
 ·cases op<;>first | (cases ho;done) | exact Bad.bind (zZ (.inr ⟨_,rfl⟩) _ ht _) _
 ·cases op<;>first | (cases ho;done) | (cases v<;>exact Bad.bind (zY (.inr ⟨_,rfl⟩) _ ht _) _)
omit hT in
theorem q56{v v':qgx}(h:VR Z v v')(i:Nat):SR Q P VR (qpp v i) Z (qpp v' i):=by
 cases h with
 | @tuple a a' h1 h2=>
  have ha:AsR Z a a':=⟨h1,h2⟩;unfold qpp;dsimp only;cases hc:a[i]? with
  | none=>exact qi
  | some x=>
   obtain⟨y,hy,hv⟩:=ha.get hc;rw[hy];exact qf hv
 | _=>exact qi
theorem q9D(t:qh5){v v':qgx}(h:VR Z v v')(i:Nat):SR Q P VR (Instr.field t v i) Z (Instr.field t v' i):=by
 refine .bndE (qD hT t) λO d l=>?_;cases d with
 | struct fs=>
  dsimp only;cases fs[i]? with
  | none=>exact qi
  | some f=>exact .bnd (q9H (h.mono l)) λV a a' l' ha=>jC hT ha _
 | _=>exact qi
theorem q9C(hG:Gl P Z)(t:qh5){v v' x x':qgx}(h:VR Z v v')(hx:VR Z x x'):SR Q P VR (qn2 t v x) Z (qn2 t v' x'):=by
 refine .bndE (vX hx) λO ki l=>?_;obtain⟨k,i⟩:=ki;refine .bndE (qD hT t) λV d l'=>?_;have h':=h.mono (l.trans l');have a6:=hG.mono (l.trans l');cases d with
 | array len e=>
  cases h' with
  | agg h1 h2=>
   dsimp only;refine qE (λ_=>?_) λ_=>jl hT a6 _ _ _ _;exact .bndE (qR hT e) λU n lu=>jC hT (AsR.mono lu ⟨h1,h2⟩) _
  | _=>exact qi
 | string=>
  cases h' with
  | string s=>
   dsimp only;split
   ·exact qf (.int _ _)
   ·exact jl hT a6 _ _ _ _
  | _=>exact qi
 | _=>exact qi
theorem ZT(t:qh5){v v':qgx}(h:VR Z v v'):SR Q P VR (qpi t v) Z (qpi t v'):=by
 refine .bndE (qD hT t) λO d l=>?_;cases d<;>first | exact qf (.iface t (h.mono l)) | exact qi
theorem q9x{op:UnOp}{v v':qgx}(h:VR Z v v'):SR Q P VR (Op.unary op v) Z (Op.unary op v'):=by
 cases h<;>cases op<;>first | exact qi | exact qx | exact qf (.int _ _) | exact qf (.bool _)
theorem Ku(hG:Gl P Z){t a:qh5}(hz:kM Q a=true)(c:Bool){v v':qgx}(h:VR Z v v'):SR Q P VR (qkx v t a c) Z (qkx v' t a c):=by
 have a7:∀{O:Ren} {u u':qgx},VR O u u'->SR Q P VR (pure (if c then .tuple #[u,.bool true] else u):Sem qgx) O (pure (if c then .tuple #[u',.bool true] else u')):=by
  intro O u u' hu;cases c with
  | true=>exact qf (AsR.tuple (zl.2 (.cons hu (.cons (.bool _) .nil))))
  | false=>exact qf hu
 have a6:∀{O:Ren} (s d:Option qh5) (m:String),Le Z O->SR Q P VR (if c then do pure (.tuple #[<- qlv a,.bool false]) else qkm (.typeAssertion s d a m):Sem qgx) O (if c then do pure (.tuple #[<- qlv a,.bool false]) else qkm (.typeAssertion s d a m)):=by
  intro O s d m l;cases c with
  | true=>exact .bnd (zt hT hz) λV z z' _ a8=>qf (AsR.tuple (zl.2 (.cons a8 (.cons (.bool _) .nil))))
  | false=>exact qz hT (hG.mono l) (.typeAssertion s d a m)
 unfold qkx;dsimp only;refine .bndE (qD hT a) λO d l=>?_;have h':=h.mono l;cases d with
 | interface ms=>
  cases h' with
  | nilIface=>exact a6 none none "" l
  | iface ty hv=>
   dsimp only;refine .bndE (zu hT ty) λV ti l'=>?_;split
   ·exact a7 (.iface ty (hv.mono l'))
   ·exact a6 none (some ty) _ (l.trans l')
  | _=>exact qi
 | _=>
  cases h' with
  | nilIface=>exact a6 (some t) none "" l
  | iface ty hv=>
   dsimp only;by_cases e:ty=a
   ·rw[if_pos e,if_pos e];exact a7 hv
   ·rw[if_neg e,if_neg e];exact a6 (some t) (some ty) "" l
  | _=>exact qi
def qa3(Q:qgG)(t:qh5):Bool :=
 match Q.info? t with
 | some i=>i.size != 0
 | none=>true
theorem q51{t:qh5}(h:qa3 Q t=true):SR Q P (λ_ a b=>b=a/\a≠0) (qnD t) Z (qnD t):=by
 refine .bnd (vU hT t) λO i i' l hi=>?_;obtain⟨rfl,hi⟩:=hi;refine qf ⟨rfl,?_⟩;unfold qa3 at h;rw[hi] at h;simpa using h
def q1B(Q:qgG)(s:qh5)(f:Nat):Bool :=
 match Q.underlying s with
 | some (.struct fs)=>match fs[f]? with | some f=>qa3 Q f.type | none=>true
 | _=>true
theorem q55{s:qh5}{f:Nat}(hf:q1B Q s f=true){v v':qgx}(h:VR Z v v'):SR Q P VR (qqE s v f) Z (qqE s v' f):=by
 refine .bnd (qO hT s) λO d d' l hd=>?_;obtain⟨rfl,hd⟩:=hd;unfold q1B at hf;rw[hd] at hf;cases d' with
 | struct fs=>
  dsimp only at hf ⊢;cases hfs:fs[f]? with
  | none=>exact qi
  | some fd=>
   rw[hfs] at hf;dsimp only at hf ⊢;refine .bnd (yH (h.mono l)) λV a b l' hab=>?_;obtain⟨i,j,o,sp,rfl,rfl,hb⟩:=hab;show SR Q P VR (fieldPlace ⟨i,o,sp⟩ fd>>=λp=>pure (.pointer (some p))) V (fieldPlace ⟨j,o,sp⟩ fd>>=λp=>pure (.pointer (some p)));refine .bnd (R:=AdR) ?_ λU p q _ a6=>by obtain⟨i',j',o',s',rfl,rfl,hb'⟩:=a6;exact qf (.ptr _ _ hb')
   refine .bnd (q51 hT hf) λU n n' lu hn=>?_;obtain⟨rfl,hn⟩:=hn;rw[if_neg hn,if_neg hn];obtain⟨o1,s1,e1,e2⟩:=yg i j o fd.offset sp;rw[e1,e2];exact qf ⟨_,_,_,_,rfl,rfl,hb.mono lu⟩
 | _=>exact qi
theorem q54(hG:Gl P Z)(t:qh5){v v' x x':qgx}(h:VR Z v v')(hx:VR Z x x'):SR Q P VR (qpq t v x) Z (qpq t v' x'):=by
 unfold qpq;refine .bndE (vX hx) λO ki l=>?_;obtain⟨k,i⟩:=ki;dsimp only;refine .bndE (qD hT t) λV d l'=>?_;have h':=h.mono (l.trans l');have a7:=hG.mono (l.trans l');have fin:∀(U:Ren) (b b':Option qi2) (len:Nat) (e:qh5) (a6:Bool),Le V U->VR U (.pointer b) (.pointer b') ->
   SR Q P VR (match b with
    | some a=>if 0<=i/\i<len then do pure (.pointer (some (a.add (i.toNat*(<- qnD e))))) else if a6 then unsupported (.noEntry "op/indexAddr.an index out of range at an array of length 0 or 1 (ledger 616)") else ql4 k i len .index
    | none=>ql4 k i 0 .index) U (match b' with
    | some a=>if 0<=i/\i<len then do pure (.pointer (some (a.add (i.toNat*(<- qnD e))))) else if a6 then unsupported (.noEntry "op/indexAddr.an index out of range at an array of length 0 or 1 (ledger 616)") else ql4 k i len .index
    | none=>ql4 k i 0 .index):=by
  intro U b b' len e a6 lu hb;cases hb with
  | ptrNil=>exact jl hT (a7.mono lu) _ _ _ _
  | @ptr i1 j1 o s hb=>
   dsimp only;refine qE (λ_=>?_) λ_=>qE (λ_=>qx) λ_=>jl hT (a7.mono lu) _ _ _ _;refine .bndE (qR hT e) λX n l2=>?_;obtain⟨o1,s1,e1,e2⟩:=yg i1 j1 o (i.toNat*n) s;rw[e1,e2];exact qf (.ptr _ _ (hb.mono l2))
 have go:∀(U:Ren) (b b':Option qi2) (len:Nat) (e:qh5),Le V U->VR U (.pointer b) (.pointer b')->SR Q P VR (do
    let a6:=len<=1 && (match <- qkc t with | .array ..=>true | _=>false)
    match b with
    | some a=>if 0<=i/\i<len then do pure (.pointer (some (a.add (i.toNat*(<- qnD e))))) else if a6 then unsupported (.noEntry "op/indexAddr.an index out of range at an array of length 0 or 1 (ledger 616)") else ql4 k i len .index
    | none=>ql4 k i 0 .index) U (do
    let a6:=len<=1 && (match <- qkc t with | .array ..=>true | _=>false)
    match b' with
    | some a=>if 0<=i/\i<len then do pure (.pointer (some (a.add (i.toNat*(<- qnD e))))) else if a6 then unsupported (.noEntry "op/indexAddr.an index out of range at an array of length 0 or 1 (ledger 616)") else ql4 k i len .index
    | none=>ql4 k i 0 .index):=λU b b' len e lu hb=>
   .bndE (qD hT t) λX d l2=>fin X b b' len e _ (lu.trans l2) (hb.mono l2)
 cases d with
 | array len e=>
  refine .bnd (yH h') λU a b lu hab=>?_;obtain⟨i1,j1,o,s,rfl,rfl,hb⟩:=hab;exact go U _ _ len e lu (.ptr o s hb)
 | slice e=>
  cases h' with
  | sliceNil n c=>exact go V none none n e (.refl _) .ptrNil
  | slice o s n c hb=>exact go V _ _ n e (.refl _) (.ptr o s hb)
  | _=>exact zv
 | _=>exact zv
theorem yC(hG:Gl P Z){x x':qgx}(h:VR Z x x')(y:Nat)(c:qpy):SR Q P EqR (qk9 x y c) Z (qk9 x' y c):=by
 refine .bndE (vX h) λO ki l=>?_;obtain⟨k,i⟩:=ki;exact qE (λ_=>qf rfl) λ_=>jl hT (hG.mono l) _ _ _ _
def Zd(Z:Ren)(a b:Option qgx):Prop:=(a=none/\b=none)\/∃x y,a=some x/\b=some y/\VR Z x y
theorem jh(hG:Gl P Z)(b:Bool)(len cap:Nat){lo lo' hi a8 mx a6:Option qgx}(h1:Zd Z lo lo')(h2:Zd Z hi a8)(h3:Zd Z mx a6) :SR Q P EqR (qof b len cap lo hi mx) Z (qof b len cap lo' a8 a6):=by
 have low:∀(O:Ren) (m h:Nat) (c:qpy),Le Z O->SR Q P EqR (do
   let l <- match lo with
    | some v=>qk9 v h c
    | none=>pure 0
   pure (l,h,m)) O (do
   let l <- match lo' with
    | some v=>qk9 v h c
    | none=>pure 0
   pure (l,h,m)):=by
  intro O m h c l;rcases h1 with⟨rfl,rfl⟩ | ⟨x,y,rfl,rfl,hv⟩
  ·exact qf rfl
  ·exact .bndE (yC hT (hG.mono l) (hv.mono l) _ _) λV a _=>qf rfl
 have a7:∀(O:Ren) (m:Nat) (c1 c2 c3:qpy),Le Z O->SR Q P EqR (do
   let h <- match hi,mx with
    | some v,some _=>qk9 v m c1
    | some v,none=>qk9 v m c2
    | none,none=>pure len
    | none,some _=>stuck "Slice: max without high"
   let l <- match lo with
    | some v=>qk9 v h c3
    | none=>pure 0
   pure (l,h,m)) O (do
   let h <- match a8,a6 with
    | some v,some _=>qk9 v m c1
    | some v,none=>qk9 v m c2
    | none,none=>pure len
    | none,some _=>stuck "Slice: max without high"
   let l <- match lo' with
    | some v=>qk9 v h c3
    | none=>pure 0
   pure (l,h,m)):=by
  intro O m c1 c2 c3 l;rcases h3 with⟨rfl,rfl⟩ | ⟨x,y,rfl,rfl,hv⟩
  ·rcases h2 with⟨rfl,rfl⟩ | ⟨x,y,rfl,rfl,hv⟩
   ·exact low O _ _ _ l
   ·exact .bndE (yC hT (hG.mono l) (hv.mono l) _ _) λU a l'=>low U _ _ _ (l.trans l')
  ·rcases h2 with⟨rfl,rfl⟩ | ⟨x,y,rfl,rfl,hv⟩
   ·exact zv
   ·exact .bndE (yC hT (hG.mono l) (hv.mono l) _ _) λU a l'=>low U _ _ _ (l.trans l')
 have es:a6.isSome=mx.isSome:=by rcases h3 with⟨rfl,rfl⟩ | ⟨x,y,rfl,rfl,_⟩<;>rfl
 unfold qof;rw[es];rcases h3':mx with _ | x
 ·have e2:a6=none:=by rcases h3 with⟨_,rfl⟩ | ⟨x,y,rfl,rfl,_⟩<;>first | rfl | cases h3'
  subst h3';subst e2;exact a7 Z cap _ _ _ (.refl Z)
 ·obtain⟨y,e2,hv⟩:∃y,a6=some y/\VR Z x y:=by
   rcases h3 with⟨rfl,_⟩ | ⟨x',y,rfl,e2,hv⟩
   ·cases h3'
   ·cases h3';exact⟨y,e2,hv⟩
  subst h3';subst e2;exact .bndE (yC hT hG hv _ _) λV a l=>a7 V a _ _ _ l
theorem q9A(hG:Gl P Z)(t:qh5){v v':qgx}(h:VR Z v v'){lo lo' hi a8 mx a7:Option qgx}(h1:Zd Z lo lo')(h2:Zd Z hi a8)(h3:Zd Z mx a7) :SR Q P VR (qp5 t v lo hi mx) Z (qp5 t v' lo' a8 a7):=by
 have a6:∀{O:Ren} {a b:Option qgx},Le Z O->Zd Z a b->Zd O a b:=λl h=>h.imp id λ⟨x,y,e1,e2,hv⟩=>⟨x,y,e1,e2,hv.mono l⟩;refine .bndE (qD hT t) λO d l=>?_;have h':=h.mono l;cases d with
 | string=>
  cases h' with
  | string s=>
   dsimp only;have e:a7.isSome=mx.isSome:=by rcases h3 with⟨rfl,rfl⟩ | ⟨x,y,rfl,rfl,_⟩<;>rfl
   rw[e];refine qE (λ_=>zv) λ_=>?_;exact .bndE (jh hT (hG.mono l) false _ _ (a6 l h1) (a6 l h2) (.inl ⟨rfl,rfl⟩)) λV r l'=>qf (.string _)
  | _=>exact qi
 | slice e=>
  cases h' with
  | sliceNil n c=>
   refine .bndE (jh hT (hG.mono l) true _ _ (a6 l h1) (a6 l h2) (a6 l h3)) λV r l'=>?_;obtain⟨a,b,c'⟩:=r;refine .bndE (qR hT e) λU z _=>?_;have e1:(if c'=a then(none:Option qi2) else Option.map (λ(x:qi2)=>x.add (a*z)) none)=none:=by split<;>rfl
   rw[e1];exact qf (.sliceNil _ _)
  | @slice i1 j1 o s n c hb=>
   refine .bndE (jh hT (hG.mono l) true _ _ (a6 l h1) (a6 l h2) (a6 l h3)) λV r l'=>?_;obtain⟨a,b,c'⟩:=r;refine .bndE (qR hT e) λU z l2=>?_;obtain⟨o1,s1,e1,e2⟩:=yg i1 j1 o (a*z) s;by_cases hc:c'=a
   ·rw[if_pos hc,if_pos hc];exact qf (.slice _ _ _ _ (hb.mono (l'.trans l2)))
   ·rw[if_neg hc,if_neg hc];simp only[qij,e1,e2];exact qf (.slice _ _ _ _ (hb.mono (l'.trans l2)))
  | _=>exact qi
 | pointer arr=>
  refine .bnd (q09 hT (hG.mono l) h') λV a b l' hab=>?_;obtain⟨i1,j1,o,s,rfl,rfl,hb⟩:=hab;refine .bndE (qD hT arr) λU d l2=>?_;cases d with
  | array n e=>
   dsimp only;have lu:=(l.trans l').trans l2;refine .bndE (jh hT (hG.mono lu) false _ _ (a6 lu h1) (a6 lu h2) (a6 lu h3)) λX r l3=>?_;obtain⟨a,b,c'⟩:=r;refine .bndE (qR hT e) λT z l4=>?_;dsimp only;obtain⟨o1,s1,e1,e2⟩:=yg i1 j1 o (a*z) s;by_cases hc:c'=a
   ·rw[if_pos hc,if_pos hc];exact qf (.slice _ _ _ _ (hb.mono ((l2.trans l3).trans l4)))
   ·rw[if_neg hc,if_neg hc,e1,e2];exact qf (.slice _ _ _ _ (hb.mono ((l2.trans l3).trans l4)))
  | _=>exact qi
 | _=>exact qi
theorem q50(hG:Gl P Z)(t:qh5){v v':qgx}(h:VR Z v v'){lo lo' hi a8 mx a7:Option qgx}(h1:Zd Z lo lo')(h2:Zd Z hi a8)(h3:Zd Z mx a7) :SR Q P VR (qqF t v lo hi mx) Z (qqF t v' lo' a8 a7):=by
 have a6:∀{O:Ren} {a b:Option qgx},Le Z O->Zd Z a b->Zd O a b:=λl h=>h.imp id λ⟨x,y,e1,e2,hv⟩=>⟨x,y,e1,e2,hv.mono l⟩;refine .bndE (qD hT t) λO d l=>?_;have h':=h.mono l;have plain:SR Q P VR (qp5 t v lo hi mx) O (qp5 t v' lo' a8 a7):=q9A hT (hG.mono l) t h' (a6 l h1) (a6 l h2) (a6 l h3);cases d with
 | array n e=>
  refine .bnd (yH h') λV a b l' hab=>?_;obtain⟨i1,j1,o,s,rfl,rfl,hb⟩:=hab;have lu:=l.trans l';refine .bndE (jh hT (hG.mono lu) false _ _ (a6 lu h1) (a6 lu h2) (a6 lu h3)) λX r l3=>?_;obtain⟨a,b,c'⟩:=r;refine .bndE (qR hT e) λT z l4=>?_;obtain⟨o1,s1,e1,e2⟩:=yg i1 j1 o (a*z) s;by_cases hc:c'=a
  ·rw[if_pos hc,if_pos hc];exact qf (.slice _ _ _ _ (hb.mono (l3.trans l4)))
  ·rw[if_neg hc,if_neg hc,e1,e2];exact qf (.slice _ _ _ _ (hb.mono (l3.trans l4)))
 | _=>exact plain
end
end
section
section
variable[JunkSet]{Q P:qgG}(hT:P.toTables=Q.toTables){Z:Ren}{Y M W:Type}{R:Rel Y M}
theorem Yj{v v':qgx}(h:VR Z v v'):SR Q P EqR (qqG v) Z (qqG v'):=by
 cases h<;>first | exact qf rfl | exact qi
theorem zG(size n:Nat){v v':qgx}(h:VR Z v v'):SR Q P AsR (qpz size n v) Z (qpz size n v'):=by
 cases h with
 | sliceNil=>exact qf .nil
 | slice o s _ _ hb=>exact Zj _ hb
 | string s=>
  refine qf ⟨rfl,λi x y hx hy=>?_⟩;rw[hx] at hy;cases hy;rw[qmE] at hx;cases hb:(s.extract 0 n).data[i]? with
  | none=>rw[hb] at hx;cases hx
  | some b=>rw[hb] at hx;cases hx;exact .int _ _
 | _=>exact qi
theorem AsR.getBang{a b:Array qgx}(h:AsR Z a b)(i:Nat):VR Z a[i]! b[i]!:=by
 rw[qow,qow];exact h.getD i (.bool _)
theorem ve{n:Nat}{f g:Nat->qgx}(h:∀i,VR Z (f i) (g i)):AsR Z ((qkA n).map f) ((qkA n).map g):=by
 refine⟨by simp,λi x y hx hy=>?_⟩;simp only[qmE] at hx hy;cases hr:(qkA n)[i]? with
 | none=>rw[hr] at hx;cases hx
 | some k=>rw[hr] at hx hy;cases hx;cases hy;exact h k
theorem AsR.zeroCells{z z':Array qgx}(h:AsR Z z z')(n:Nat):AsR Z (qjd z n) (qjd z' n):=by
 unfold qjd;rw[<- h.1];exact ve λi=>h.getBang _
theorem QY(n:Nat):SR Q P (λ_ _ _=>True) (askRoom n) Z (askRoom n):=by
 unfold askRoom;refine qE (λ_=>?_) λ_=>qf trivial;exact .inr ⟨rfl,_,rfl,(),rfl,trivial⟩
def NP(Q:qgG){Y:Type}:Sem Y->Prop
 | .pure _=>True
 | .load _ _ k=>∀v,NP Q (k v)
 | .store _ _ _ k=>NP Q k
 | .new o k=>zN o=false/\∀r,NP Q (k r)
 | .shape _ k=>∀x,NP Q (k x)
 | .freeze _ _ k=>NP Q k
 | .frozen _ k=>∀b,NP Q (k b)
 | .getObj _ k=>∀o,NP Q (k o)
 | .setObj _ o k=>zN o=false/\NP Q k
 | .choose _ k=>∀n,NP Q (k n)
 | .sys _ k=>∀r,NP Q (k r)
 | .program k=>NP Q (k Q)
 | .mark _ k=>NP Q k
 | .halt h=>odd h=false
theorem NP.bind{s:Sem Y}{f:Y->Sem W}(h:NP Q s)(hf:∀a,NP Q (f a)):NP Q (s>>=f):=by
 show NP Q (s.bind f);induction s with
 | pure a=>exact hf a
 | load m a k ih=>exact λv=>ih v (h v)
 | store m a v k ih=>exact ih h
 | new o k ih=>exact⟨h.1,λv=>ih v (h.2 v)⟩
 | shape r k ih=>exact λv=>ih v (h v)
 | freeze a n k ih=>exact ih h
 | frozen a k ih=>exact λv=>ih v (h v)
 | getObj r k ih=>exact λv=>ih v (h v)
 | setObj r o k ih=>exact⟨h.1,ih h.2⟩
 | choose q k ih=>exact λv=>ih v (h v)
 | sys c k ih=>exact λv=>ih v (h v)
 | program k ih=>exact ih Q h
 | mark m k ih=>exact ih h
 | halt x=>exact h
theorem Bad.of_np{s:Sem Y}{f:Y->Sem W}(h:NP Q s)(hf:∀a,Bad Q (f a)):Bad Q (s>>=f):=by
 show Bad Q (s.bind f);induction s with
 | pure a=>exact hf a
 | load m a k ih=>exact λv=>ih v (h v)
 | store m a v k ih=>exact ih h
 | new o k ih=>exact⟨h.1,λv=>ih v (h.2 v)⟩
 | shape r k ih=>exact λv=>ih v (h v)
 | freeze a n k ih=>exact ih h
 | frozen a k ih=>exact λv=>ih v (h v)
 | getObj r k ih=>exact λv=>ih v (h v)
 | setObj r o k ih=>exact⟨h.1,ih h.2⟩
 | choose q k ih=>exact λv=>ih v (h v)
 | sys c k ih=>exact λv=>ih v (h v)
 | program k ih=>exact ih Q h
 | mark m k ih=>exact ih h
 | halt x=>exact h
theorem np_holds(a:qi2)(c:Nat):NP Q (qpA a c):=λx=>by
 cases x with
 | none=>trivial
 | some p=>trivial
theorem Jl(size a6 n:Nat)(base:Option qi2)(x:qgx):NP Q (qqh size a6 n base x):=by
 have rest:∀b:Bool,NP Q (if(!b)=true then(pure true:Sem Bool) else match x with
   | .slice (some b) _ _=>do pure (!(<- qpA b (n*size)) || base.any (·.block == b.block))
   | _=>pure false):=λb=>by
  split
  ·trivial
  ·split
   ·exact NP.bind (np_holds _ _) λ_=>trivial
   ·trivial
 unfold qqh;cases base with
 | none=>exact rest true
 | some a=>exact NP.bind (np_holds _ _) λp=>NP.bind (s:=frozen _) (λb=>trivial) λq=>rest _
theorem q2G{v v':qgx}(h:VR Z v v'):(∃b b' n c,v=.slice b n c/\v'=.slice b' n c/\VR Z (.pointer b) (.pointer b'))\/∀b n c,v≠.slice b n c:=by
 cases h with
 | sliceNil n c=>exact .inl ⟨none,none,n,c,rfl,rfl,.ptrNil⟩
 | slice o s n c hb=>exact .inl ⟨_,_,n,c,rfl,rfl,.ptr o s hb⟩
 | _=>exact .inr λb n c=>by simp
theorem VR.slice_of{b b':Option qi2}(hb:VR Z (.pointer b) (.pointer b'))(n c:Nat):VR Z (.slice b n c) (.slice b' n c):=by
 cases hb with
 | ptrNil=>exact .sliceNil n c
 | ptr o s hb=>exact .slice o s n c hb
def qfa(Q:qgG)(ts:Array qh5):Bool :=
 (match ts[0]? with
  | some st=>match Q.underlying st with | some (.slice e)=>kM Q e | _=>true
  | none=>true) &&
 (match ts[1]? with
  | some xt=>match Q.underlying xt with | some (.int _)=>false | _=>true
  | none=>true)
include hT in
theorem q7w(hG:Gl P Z){ts:Array qh5}{t:qh5}{a a':Array qgx}(h:AsR Z a a')(hB:qfa Q ts=true) :SR Q P VR (qlf ts t a) Z (qlf ts t a'):=by
 unfold qfa at hB;simp only[qh9] at hB;obtain⟨a7,a9⟩:=hB;unfold qlf;cases ht0:ts[0]? with
 | none=>exact qi
 | some st=>
  rw[ht0] at a7;cases h0:a[0]? with
  | none=>exact qi
  | some s0=>
   obtain⟨d5,e0,hs⟩:=h.get h0;cases h1:a[1]? with
   | none=>exact qi
   | some x=>
    obtain⟨x',e1,hx⟩:=h.get h1;rw[e0,e1];dsimp only;refine .bnd (qO hT st) λO d d' l hd=>?_;obtain⟨rfl,hd⟩:=hd;dsimp only at a7;rw[hd] at a7;cases d' with
    | slice e=>
     dsimp only at a7 ⊢;rcases q2G (hs.mono l) with⟨b,b',a6,b0,rfl,rfl,hb⟩ | hns
     ·dsimp only;refine .bndE (qR hT e) λV size l1=>?_;cases ht1:ts[1]? with
      | none=>
       dsimp only;simp only[qho,if_false,qmh,if_true,false_or,pure_bind];have LL:=l.trans l1;have LB:=l1;refine .bndE (Yj (hx.mono LL)) λU n lu=>?_;have L2:=LL.trans lu;have a8:=hb.mono (LB.trans lu);refine qE (λ_=>?_) λ_=>?_
       ·refine .bnd (zG size n (hx.mono L2)) λX c c' l2 hc=>?_;have b8:=a8.mono l2;cases b8 with
        | ptrNil=>exact qf (.sliceNil _ _)
        | @ptr i j o s hbb=>
         dsimp only;obtain⟨o1,s1,e1,e2⟩:=yg i j o (a6*size) s;rw[e1,e2];exact .bnd (jB (zl.1 hc) 0 hbb) λT _ _ l3 _=>qf (.slice _ _ _ _ (hbb.mono l3))
       ·refine .bndE (zu hT e) λX ti l2=>?_;refine qE (λ_=>?_) λ_=>?_
        ·exact .bnd (R:=λ_ _ _=>False) (qz hT (hG.mono (L2.trans l2)) _) λ_ _ _ _ hf=>hf.elim
        ·refine .bndE (zu hT e) λω2 c3 l3=>?_;refine qE (λ_=>?_) λ_=>?_
         ·exact .bad (Bad.bind (Bad.of_np (Jl _ _ _ _ _) λb=>by cases b<;>trivial) _)
         ·refine .bndE vB λω3 nc l4=>?_;refine .bndE (zu hT e) λω4 b9 l5=>?_;refine .bnd (QY _) λω5 _ _ l6 _=>?_;have L6:=((((l2.trans l3).trans l4).trans l5).trans l6);refine .bnd (zG size a6 ((a8.mono L6).slice_of a6 b0)) λω6 c c' l7 hc=>?_;refine .bnd (zG size n (hx.mono ((L2.trans L6).trans l7))) λω7 d d' l8 b7=>?_;refine .bnd (zt hT a7) λω8 z z' l9 hz=>?_;refine .bnd (vz ((((hc.mono l8).append b7).mono l9).append (hz.cells.zeroCells _))) λω9 a b c8 hab=>?_;obtain⟨i,j,rfl,rfl,hij⟩:=hab;exact qf (.slice _ _ _ _ hij)
      | some xt=>
       rw[ht1] at a9;dsimp only at a9 ⊢;refine .bnd (qO hT xt) λU dx c9 l2 b6=>?_;obtain⟨rfl,b6⟩:=b6;rw[b6] at a9;cases c9 with
       | int k=>cases a9
       | _=>
        simp only[qho,if_false,qmh,if_true,false_or,pure_bind];have LL:=(l.trans l1).trans l2;have LB:=l1.trans l2;refine .bndE (Yj (hx.mono LL)) λU n lu=>?_;have L2:=LL.trans lu;have a8:=hb.mono (LB.trans lu);refine qE (λ_=>?_) λ_=>?_
        ·refine .bnd (zG size n (hx.mono L2)) λX c c' l2 hc=>?_;have b8:=a8.mono l2;cases b8 with
         | ptrNil=>exact qf (.sliceNil _ _)
         | @ptr i j o s hbb=>
          dsimp only;obtain⟨o1,s1,e1,e2⟩:=yg i j o (a6*size) s;rw[e1,e2];exact .bnd (jB (zl.1 hc) 0 hbb) λT _ _ l3 _=>qf (.slice _ _ _ _ (hbb.mono l3))
        ·refine .bndE (zu hT e) λX ti l2=>?_;refine qE (λ_=>?_) λ_=>?_
         ·exact .bnd (R:=λ_ _ _=>False) (qz hT (hG.mono (L2.trans l2)) _) λ_ _ _ _ hf=>hf.elim
         ·refine .bndE (zu hT e) λω2 c3 l3=>?_;refine qE (λ_=>?_) λ_=>?_
          ·exact .bad (Bad.bind (Bad.of_np (Jl _ _ _ _ _) λb=>by cases b<;>trivial) _)
          ·refine .bndE vB λω3 nc l4=>?_;refine .bndE (zu hT e) λω4 b9 l5=>?_;refine .bnd (QY _) λω5 _ _ l6 _=>?_;have L6:=((((l2.trans l3).trans l4).trans l5).trans l6);refine .bnd (zG size a6 ((a8.mono L6).slice_of a6 b0)) λω6 c c' l7 hc=>?_;refine .bnd (zG size n (hx.mono ((L2.trans L6).trans l7))) λω7 d d' l8 b7=>?_;refine .bnd (zt hT a7) λω8 z z' l9 hz=>?_;refine .bnd (vz ((((hc.mono l8).append b7).mono l9).append (hz.cells.zeroCells _))) λω9 a b c8 hab=>?_;obtain⟨i,j,rfl,rfl,hij⟩:=hab;exact qf (.slice _ _ _ _ hij)
     ·split
      ·exact absurd rfl (hns _ _ _)
      ·exact qi
    | _=>exact qi
end
end
section
def qaG(Q:qgG)(ts:Array qh5):Bool:=match ts[0]? with | some t=>(match Q.underlying t with | some (.chan _ _)=>false | _=>true) | none=>true
section
variable[JunkSet]{Q P:qgG}(hT:P.toTables=Q.toTables){Z:Ren}{Y M W:Type}{R:Rel Y M}
include hT
theorem qct{ts:Array qh5}{t:qh5}{a a':Array qgx}(h:AsR Z a a'):SR Q P VR (qoi ts t a) Z (qoi ts t a'):=by
 unfold qoi;cases ht0:ts[0]? with
 | none=>exact qi
 | some dt=>
  cases h0:a[0]? with
  | none=>exact qi
  | some d=>
   obtain⟨d',e0,hd⟩:=h.get h0;cases h1:a[1]? with
   | none=>exact qi
   | some x=>
    obtain⟨x',e1,hx⟩:=h.get h1;rw[e0,e1];dsimp only;refine .bndE (qD hT dt) λO u l=>?_;cases u with
    | slice e=>
     dsimp only;rcases q2G (hd.mono l) with⟨b,b',a7,a8,rfl,rfl,hb⟩ | hns
     ·dsimp only;refine .bndE (Yj (hx.mono l)) λV n l1=>.bndE (qR hT e) λU size l2=>?_;refine .bnd (zG size _ (hx.mono ((l.trans l1).trans l2))) λX c c' l3 hc=>?_;have a6:=hb.mono ((l1.trans l2).trans l3);cases a6 with
      | ptrNil=>exact qf (.int _ _)
      | ptr o s hbb=>exact .bnd (jB (zl.1 hc) 0 hbb) λT _ _ l3 _=>qf (.int _ _)
     ·split
      ·exact absurd rfl (hns _ _ _)
      ·exact qi
    | _=>exact qi
theorem qen{ts:Array qh5}{t:qh5}{a a':Array qgx}(hB:qaG Q ts=true)(h:AsR Z a a'):SR Q P VR (qq1 ts t a) Z (qq1 ts t a'):=by
 unfold qq1;cases ht0:ts[0]? with
 | none=>exact qi
 | some dt=>
  cases h0:a[0]? with
  | none=>exact qi
  | some d=>
   obtain⟨d',e0,hd⟩:=h.get h0;rw[e0];dsimp only;refine .bnd (qO hT dt) λO u u' l hu=>?_;obtain⟨rfl,hu⟩:=hu;have a6:=hd.mono l;cases u' with
   | array n e=>exact qf (.int _ _)
   | pointer arr=>
    refine .bndE (qD hT arr) λV u l=>?_;cases u with
    | array n e=>exact qf (.int _ _)
    | _=>exact qi
   | string=>cases a6<;>first | exact qi | exact qf (.int _ _)
   | slice e=>cases a6<;>first | exact qi | exact qf (.int _ _)
   | map k e=>
    cases a6 with
    | mapNil=>exact qf (.int _ _)
    | map hb=>
     refine .bnd (jJ hb) λV o o' l' ho=>?_;cases ho with
     | @map es es' c he=>
      dsimp only;have:es.size=es'.size:=he.length;rw[this];exact qf (.int _ _)
     | _=>exact qi
    | _=>exact qi
   | chan a b=>
    unfold qaG at hB;rw[ht0] at hB;dsimp only at hB;rw[hu] at hB;cases hB
   | _=>exact qi
theorem qeq{ts:Array qh5}{t:qh5}{a a':Array qgx}(hB:qaG Q ts=true)(h:AsR Z a a'):SR Q P VR (qq2 ts t a) Z (qq2 ts t a'):=by
 unfold qq2;cases ht0:ts[0]? with
 | none=>exact qi
 | some dt=>
  cases h0:a[0]? with
  | none=>exact qi
  | some d=>
   obtain⟨d',e0,hd⟩:=h.get h0;rw[e0];dsimp only;refine .bnd (qO hT dt) λO u u' l hu=>?_;obtain⟨rfl,hu⟩:=hu;have a6:=hd.mono l;cases u' with
   | array n e=>exact qf (.int _ _)
   | pointer arr=>
    refine .bndE (qD hT arr) λV u l=>?_;cases u with
    | array n e=>exact qf (.int _ _)
    | _=>exact qi
   | slice e=>cases a6<;>first | exact qi | exact qf (.int _ _)
   | chan a b=>
    unfold qaG at hB;rw[ht0] at hB;dsimp only at hB;rw[hu] at hB;cases hB
   | _=>exact qi
omit hT in
theorem qcq{v v' x x':qgx}(h:VR Z v v')(hx:VR Z x x'):SR Q P VR (Builtin.min2 v x) Z (Builtin.min2 v' x'):=by
 cases h with
 | int k n=>cases hx<;>first | exact qf (.int _ _) | exact qi | exact qx
 | string s=>
  cases hx with
  | string u=>exact(qf (VR.string _):SR Q P VR (pure (Value.string _)) Z (pure (Value.string _)))
  | _=>first | exact qi | exact qx
 | ptr o s hb=>exact qx
 | _=>cases hx<;>first | exact qi | exact qx
omit hT in
theorem qcr{v v' x x':qgx}(h:VR Z v v')(hx:VR Z x x'):SR Q P VR (qr3 v x) Z (qr3 v' x'):=by
 cases h with
 | int k n=>cases hx<;>first | exact qf (.int _ _) | exact qi | exact qx
 | string s=>
  cases hx with
  | string u=>exact(qf (VR.string _):SR Q P VR (pure (Value.string _)) Z (pure (Value.string _)))
  | _=>first | exact qi | exact qx
 | ptr o s hb=>exact qx
 | _=>cases hx<;>first | exact qi | exact qx
omit hT in
theorem q2F{f f':qgx->qgx->Sem qgx}(hf:∀{O:Ren} {v v' x x':qgx},VR O v v'->VR O x x'->SR Q P VR (f v x) O (f' v' x')):∀{l l':List qgx} {Z:Ren} {v v':qgx},LsR (VR Z) l l'->VR Z v v' ->SR Q P VR (l.foldlM f v) Z (l'.foldlM f' v'):=by
 intro l;induction l with
 | nil=>intro l' Z v v' h hv;cases h;exact qf hv
 | cons a l ih=>
  intro l' Z v v' h hv;cases h with
  | cons ha hl=>
   rw[qqi,qqi];exact .bnd (hf hv ha) λO x x' lσ hx=>ih (hl.imp λ_ _ k=>k.mono lσ) hx
omit hT in
theorem qel{ts:Array qh5}{t:qh5}{a a':Array qgx}(h:AsR Z a a'):SR Q P VR (qo1 ts t a) Z (qo1 ts t a'):=by
 have hl:=zl.1 h;unfold qo1;generalize a.toList=l at hl ⊢;generalize a'.toList=l' at hl ⊢;cases hl with
 | nil=>exact qi
 | cons hx hr=>exact q2F (λh hx=>qcq h hx) hr hx
omit hT in
theorem qem{ts:Array qh5}{t:qh5}{a a':Array qgx}(h:AsR Z a a'):SR Q P VR (qq3 ts t a) Z (qq3 ts t a'):=by
 have hl:=zl.1 h;unfold qq3;generalize a.toList=l at hl ⊢;generalize a'.toList=l' at hl ⊢;cases hl with
 | nil=>exact qi
 | cons hx hr=>exact q2F (λh hx=>qcr h hx) hr hx
def Qc(Q:qgG)(t:qh5):Bool:=match Q.underlying t with | some (.slice e)=>kM Q e | _=>true
theorem q9F{ts:Array qh5}{t:qh5}{a a':Array qgx}(h:AsR Z a a')(hB:(match ts[0]? with | some st=>Qc Q st | none=>true)=true):SR Q P VR (qn6 ts t a) Z (qn6 ts t a'):=by
 unfold qn6;cases ht0:ts[0]? with
 | none=>exact qi
 | some dt=>
  rw[ht0] at hB;cases h0:a[0]? with
  | none=>exact qi
  | some d=>
   obtain⟨d',e0,hd⟩:=h.get h0;rw[e0];dsimp only at hB ⊢;refine .bnd (qO hT dt) λO u u' l hu=>?_;obtain⟨rfl,hu⟩:=hu;unfold Qc at hB;rw[hu] at hB;have a6:=hd.mono l;have fin:∀U,SR Q P VR (pure (.tuple #[]):Sem qgx) U (pure (.tuple #[])):=λU=>qf (AsR.tuple .nil);cases a6 with
   | mapNil=>cases u'<;>exact fin _
   | sliceNil n c=>cases u'<;>exact fin _
   | @map i j hb=>
    have go:SR Q P VR (do
      let .map _ clock <- getObj i | stuck "clear: map expected"
      setObj i (.map #[] clock)
      pure (.tuple #[])) O (do
      let .map _ clock <- getObj j | stuck "clear: map expected"
      setObj j (.map #[] clock)
      pure (.tuple #[])):=by
     refine .bnd (jJ hb) λV o o' l' ho=>?_;cases ho with
     | map c he=>exact .bnd (jI (hb.mono l') (.map c .nil)) λU _ _ _ _=>fin U
     | _=>exact qi
    cases u'<;>exact go
   | slice o s n c hb=>
    cases n with
    | zero=>cases u'<;>exact fin _
    | succ n=>
     cases u' with
     | slice e=>
      refine .bnd (zt hT hB) λV z z' l' hz=>?_;exact .bnd (jB (zl.1 (hz.cells.zeroCells _)) 0 (hb.mono l')) λU _ _ _ _=>fin U
     | _=>exact qi
   | _=>cases u'<;>exact qi
theorem q1i(hG:Gl P Z){t:qh5}(hB:Qc Q t=true){v v' x x':qgx}(h:VR Z v v')(hx:VR Z x x'):SR Q P VR (qnE t v x) Z (qnE t v' x'):=by
 refine .bnd (qO hT t) λO d d' l hd=>?_;obtain⟨rfl,hd⟩:=hd;unfold Qc at hB;rw[hd] at hB;cases d' with
 | slice e=>
  dsimp only at hB ⊢;refine .bndE (Zl (h.mono l)) λV len l1=>.bndE (Zl (hx.mono (l.trans l1))) λU cap l2=>?_;refine .bndE (zu hT e) λX ti l3=>?_;have L:=((l.trans l1).trans l2).trans l3;have HG:=hG.mono L;have a6:∀(O:Ren) (m:String) {f f':PUnit->Sem qgx},Le X O->SR Q P VR ((qkm (.error m):Sem PUnit)>>=f) O ((qkm (.error m):Sem PUnit)>>=f'):=λO m f f' lσ=>.bnd (R:=λ_ _ _=>False) (qz hT (HG.mono lσ) _) λ_ _ _ _ hf=>hf.elim;have a7:∀(O:Ren) (n:Nat) {z z':Array qgx} (ln cp:Nat),AsR O z z'->SR Q P VR (do
    let a <- newRow e ((qkA n).map λx=>z[x % z.size]!)
    pure (.slice (some a) ln cp)) O (do
    let a <- newRow e ((qkA n).map λx=>z'[x % z'.size]!)
    pure (.slice (some a) ln cp)):=λO n z z' ln cp hz=>by
   refine .bnd (vz (by rw[<- hz.1];exact ve λi=>hz.getBang _)) λω9 a b a8 hab=>?_;obtain⟨i,j,rfl,rfl,hij⟩:=hab;exact qf (.slice _ _ _ _ hij)
  refine qE (λ_=>?_) λ_=>?_
  ·refine qE (λ_=>a6 X _ (.refl X)) λ_=>qE (λ_=>a6 X _ (.refl X)) λ_=>?_;exact .bndE vB λω1 n l4=>a6 ω1 _ l4
  ·refine .bnd (QY _) λω1 _ _ l4 _=>.bndE (qR hT e) λω2 size l5=>?_;refine qE (λ_=>a7 ω2 _ _ _ .nil) λ_=>?_;exact .bnd (zt hT hB) λω4 z z' _ hz=>a7 ω4 _ _ _ hz.cells
 | _=>exact qi
theorem Kx{t:qh5}(hB:Qc Q t=true)(n:Nat){ps a6:Array (Nat × qgx)}(h:LsR (q15 Z) ps.toList a6.toList):SR Q P VR (qqj t n ps) Z (qqj t n a6):=by
 refine .bnd (qO hT t) λO d d' l hd=>?_;obtain⟨rfl,hd⟩:=hd;unfold Qc at hB;rw[hd] at hB;cases d' with
 | slice e=>
  dsimp only at hB ⊢;refine .bndE (qR hT e) λV size l1=>?_;refine qE (λ_=>ja) λ_=>?_;have fin:∀(U:Ren) {z z':Array qgx},Le V U->AsR U z z'->SR Q P VR (do
    let some cells:=qmg (λi=>some (i*size,size)) ((qkA (n*size)).map (λx=>z[x % z.size]!)) ps.toList | stuck "buildSlice: a part of the wrong size"
    pure (.slice (some (<- newRow e cells)) n n)) U (do
    let some cells:=qmg (λi=>some (i*size,size)) ((qkA (n*size)).map (λx=>z'[x % z'.size]!)) a6.toList | stuck "buildSlice: a part of the wrong size"
    pure (.slice (some (<- newRow e cells)) n n)):=by
   intro U z z' lu hz;have hp:LsR (q15 U) ps.toList a6.toList:=h.imp λ_ _ x=>⟨x.1,x.2.mono ((l.trans l1).trans lu)⟩;have hc:AsR U ((qkA (n*size)).map (λx=>z[x % z.size]!)) ((qkA (n*size)).map (λx=>z'[x % z'.size]!)):=by rw[<- hz.1];exact ve λi=>hz.getBang _
   rcases q42 (λi=>some (i*size,size)) _ _ _ _ hp hc with⟨e1,e2⟩ | ⟨r,r',e1,e2,hr⟩
   ·rw[e1,e2];exact qi
   ·rw[e1,e2];refine .bnd (vz hr) λX a b _ hab=>?_;obtain⟨i,j,rfl,rfl,hij⟩:=hab;exact qf (.slice _ _ _ _ hij)
  refine qE (λ_=>fin V (.refl V) .nil) λ_=>?_;exact .bnd (zt hT hB) λU z z' lu hz=>fin U lu hz.cells
 | _=>exact qi
theorem q53(t:qh5){r r':Option qgx}(h:Zd Z r r'):SR Q P VR (qoj t r) Z (qoj t r'):=by
 have fin:∀O,SR Q P VR (do pure (.map (some (<- newObj (.map #[] 0))))) O (do pure (.map (some (<- newObj (.map #[] 0))))):=λO=>.bnd (Yh (.map 0 .nil)) λV i j _ hij=>qf (.map hij);unfold qoj;rcases h with⟨rfl,rfl⟩ | ⟨x,y,rfl,rfl,hv⟩
 ·exact fin Z
 ·refine .bndE (qD hT t) λO d l=>?_;cases d with
  | map k e=>exact .bndE (Zl (hv.mono l)) λV n _=>fin V
  | _=>exact qi
theorem Jf(em:Bool):∀(n d:Nat) {Z:Ren} {t:qh5} {x x':qgx},eqB Q n t=true->VR Z x x'->SR Q P (λ_ _ _=>True) (qkB em d t x) Z (qkB em d t x'):=by
 intro n;induction n with
 | zero=>intro d Z t x x' h;cases h
 | succ n ih=>
  intro d Z t x x' h hx;cases d with
  | zero=>exact qx
  | succ d=>
   unfold qkB;refine .bnd (qO hT t) λO ty a7 l a6=>?_;obtain⟨rfl,a6⟩:=a6;replace hx:=hx.mono l;unfold eqB at h;rw[a6] at h;cases a7 with
   | interface ms=>cases h
   | struct fs=>
    cases hx with
    | agg h1 h2=>
     dsimp only;rw[<- qlb,<- qlb];dsimp only at h;rw[qiv] at h;refine .bndE (zJ (K:=λX=>Le O X) (λ_ _ l k=>k.trans l) _ (λf hf U b lu=>?_) O _ (.refl O)) λU r lu=>qf trivial;refine qE (λhne=>?_) λ_=>qf rfl;have a8:eqB Q n f.type=true:=by
      have:=h f (qjl.1 hf);simp only[qju,beq_iff_eq] at this;exact this.resolve_left hne
     exact .bnd (jC hT (AsR.mono lu ⟨h1,h2⟩) _) λω1 p p' l1 hp=>.bnd (ih d a8 hp) λω3 _ _ _ _=>qf rfl
    | _=>exact qi
   | array len e=>
    cases hx with
    | agg h1 h2=>
     dsimp only;rw[qj2,qj2];refine .bndE (zJ (K:=λX=>Le O X) (λ_ _ l k=>k.trans l) _ (λf hf U b lu=>?_) O _ (.refl O)) λU r lu=>qf trivial;exact .bndE (qR hT e) λω0 n l0=>.bnd (jC hT (AsR.mono (lu.trans l0) ⟨h1,h2⟩) _) λω1 p p' l1 hp=>.bnd (ih d h hp) λω3 _ _ _ _=>qf rfl
    | _=>exact qi
   | _=>cases hx<;>exact qf trivial
def q2b(Z:Ren)(a b:Option (Nat × qgx)):Prop:=(a=none/\b=none)\/∃i x y,a=some (i,x)/\b=some (i,y)/\VR Z x y
omit hT in
theorem q5h(d:TypeDesc){x x' y y':qgx}(hx:VR Z x x')(hy:VR Z y y'):qnq d x' y'=qnq d x y:=by
 have out:∀{u:qgx},qbg u=true->∀d v,qnq d u v=none/\qnq d v u=none:=by
  intro u hu d v;cases u<;>first | (cases hu;done) | (cases d<;>cases v<;>exact⟨rfl,rfl⟩)
 cases hx with
 | wild _ h=>rw[(out h d _).1,(out (u:=.chan none) rfl d _).1]
 | _=>first
  | (cases d<;>rfl)
  | (
    cases hy with
   | wild _ h=>rw[(out h d _).2,(out (u:=.chan none) rfl d _).2]
   | _=>cases d<;>rfl)
omit hT in
theorem q3H(d:TypeDesc){k k':qgx}(hk:VR Z k k'):∀{es es':List qki} (i:Nat),LsR (kb Z) es es' ->(qnr d k es i=none/\qnr d k' es' i=none)\/∃r r',qnr d k es i=some r/\qnr d k' es' i=some r'/\q2b Z r r':=by
 intro es;induction es with
 | nil=>intro es' i h;cases h;exact .inr ⟨none,none,rfl,rfl,.inl ⟨rfl,rfl⟩⟩
 | cons e es ih=>
  intro es' i h;cases h with
  | cons he hes=>
   simp only[qnr,q5h d hk he.key];cases qnq d k e.key with
   | none=>exact .inl ⟨rfl,rfl⟩
   | some b=>
    cases b with
    | true=>exact .inr ⟨_,_,rfl,rfl,.inr ⟨i,_,_,rfl,rfl,he.val⟩⟩
    | false=>exact ih (i+1) hes
theorem Kv{t:qh5}(ht:eqB Q 6 t=true){k k':qgx}:∀{es es':List qki} {Z:Ren} (i:Nat),VR Z k k'->Gl P Z->LsR (kb Z) es es' ->SR Q P q2b (ql5 t k es i) Z (ql5 t k' es' i):=by
 intro es;induction es with
 | nil=>intro es' Z i hk hG h;cases h;exact qf (.inl ⟨rfl,rfl⟩)
 | cons e es ih=>
  intro es' Z i hk hG h;cases h with
  | cons he hes=>
   refine .bndE (QX hT 6 _ ht hk he.key hG) λO b l=>?_;refine qE (λ_=>qf (.inr ⟨i,_,_,rfl,rfl,he.val.mono l⟩)) λ_=>?_;exact ih (i+1) (hk.mono l) (hG.mono l) (hes.imp λ_ _ x=>x.mono l)
theorem Yl{t:qh5}(ht:eqB Q 6 t=true){k k':qgx}{es es':List qki}(hk:VR Z k k')(hG:Gl P Z)(h:LsR (kb Z) es es') :SR Q P q2b (qlp t k es) Z (qlp t k' es'):=by
 refine .bndE (qD hT t) λO d l=>?_;have h':LsR (kb O) es es':=h.imp λ_ _ x=>x.mono l;rcases q3H d (hk.mono l) 0 h' with⟨e1,e2⟩ | ⟨r,r',e1,e2,hr⟩
 ·rw[e1,e2];exact Kv hT ht 0 (hk.mono l) (hG.mono l) h'
 ·rw[e1,e2];exact qf hr
end
end
section
section
variable[JunkSet]{Q P:qgG}(hT:P.toTables=Q.toTables){Z:Ren}{Y M W:Type}{R:Rel Y M}
include hT
def YH(Q:qgG)(t:qh5):Bool:=match Q.underlying t with | some (.map k e)=>eqB Q 6 k && kM Q e | _=>true
theorem q7t(hG:Gl P Z){t:qh5}(hB:YH Q t=true)(c:Bool){m m' k k':qgx}(hm:VR Z m m')(hk:VR Z k k'):SR Q P VR (qmq t m k c) Z (qmq t m' k' c):=by
 refine .bnd (qO hT t) λO d d' l hd=>?_;obtain⟨rfl,hd⟩:=hd;unfold YH at hB;rw[hd] at hB;cases d' with
 | map kt et=>
  dsimp only at hB ⊢;simp only[qh9] at hB;have fin:∀(V:Ren) {es es':Array qki},Le Z V->LsR (kb V) es.toList es'.toList->SR Q P VR (do
    qkB es.isEmpty 10000 kt k
    let (v,ok) <- match <- qlp kt k es.toList with
     | some (_,v)=>pure (v,true)
     | none=>pure (<- qlv et,false)
    pure (if c then .tuple #[v,.bool ok] else v)) V (do
    qkB es'.isEmpty 10000 kt k'
    let (v,ok) <- match <- qlp kt k' es'.toList with
     | some (_,v)=>pure (v,true)
     | none=>pure (<- qlv et,false)
    pure (if c then .tuple #[v,.bool ok] else v)):=by
   intro V es es' lτ he;have a6:es'.isEmpty=es.isEmpty:=by
    have:=he.length;simp only[qpj] at this;simp[Array.isEmpty,this]
   rw[a6];refine .bnd (Jf hT _ 6 _ hB.1 (hk.mono lτ)) λU _ _ l1 _=>?_;refine .bnd (Yl hT hB.1 (hk.mono (lτ.trans l1)) (hG.mono (lτ.trans l1)) (he.imp λ_ _ x=>x.mono l1)) λX r r' l2 hr=>?_;have last:∀(T:Ren) {v v':qgx} (ok:Bool),VR T v v'->SR Q P VR (pure (if c then .tuple #[v,.bool ok] else v):Sem qgx) T (pure (if c then .tuple #[v',.bool ok] else v')):=by
    intro T v v' ok hv;cases c with
    | true=>exact qf (AsR.tuple (zl.2 (.cons hv (.cons (.bool _) .nil))))
    | false=>exact qf hv
   rcases hr with⟨rfl,rfl⟩ | ⟨i,x,y,rfl,rfl,hv⟩
   ·exact .bnd (zt hT hB.2) λT z z' _ hz=>last T false hz
   ·exact last X true hv
  cases(hm.mono l) with
  | mapNil=>exact fin O l .nil
  | map hb=>
   refine .bnd (jJ hb) λV o o' l' ho=>?_;cases ho with
   | map c he=>exact fin V (l.trans l') he
   | _=>exact zv
  | _=>exact zv
 | _=>exact qi
omit hT in
theorem LsR.get{Y M:Type}{R:Y->M->Prop}{l:List Y}{m:List M}(h:LsR R l m)(i:Nat):(l[i]?=none/\m[i]?=none)\/∃x y,l[i]?=some x/\m[i]?=some y/\R x y:=by
 induction h generalizing i with
 | nil=>exact .inl ⟨by simp,by simp⟩
 | cons hx hl ih=>
  cases i with
  | zero=>exact .inr ⟨_,_,rfl,rfl,hx⟩
  | succ i=>simpa using ih i
omit hT in
theorem q4b{es es':Array qki}(h:LsR (kb Z) es.toList es'.toList)(i:Nat){f g:qki->qki}(hf:∀e e',kb Z e e'->kb Z (f e) (g e')):LsR (kb Z) (es.modify i f).toList (es'.modify i g).toList:=by
 rw[q6G] at h ⊢;simp only[qpj,qma] at h ⊢;refine⟨by simpa using h.1,λj x y hx hy=>?_⟩;rw[qld] at hx hy;by_cases e:i=j
 ·rw[if_pos e] at hx hy;cases hx':es[j]? with
  | none=>rw[hx'] at hx;cases hx
  | some a=>
   cases hy':es'[j]? with
   | none=>rw[hy'] at hy;cases hy
   | some b=>
    rw[hx'] at hx;rw[hy'] at hy;cases hx;cases hy;exact hf _ _ (h.2 j a b hx' hy')
 ·rw[if_neg e] at hx hy;exact h.2 j x y hx hy
def q7a(Q:qgG)(s d:qh5):Bool:=match Q.underlying s,Q.underlying d with | some (.int _),some (.int _)=>true | _,_=>false
theorem q57{s d:qh5}(hB:q7a Q s d=true){v v':qgx}(h:VR Z v v'):SR Q P VR (convert s d v) Z (convert s d v'):=by
 refine .bnd (qO hT s) λO a a' l ha=>.bnd (qO hT d) λV b b' l' hb=>?_;obtain⟨rfl,ha⟩:=ha;obtain⟨rfl,hb⟩:=hb;unfold q7a at hB;rw[ha,hb] at hB;cases a' with
 | int k1=>
  cases b' with
  | int k2=>
   cases h with
   | int k n=>exact qf (.int _ _)
   | _=>first | exact qx | exact qi
  | _=>cases hB
 | _=>cases b'<;>cases hB
end
end
section
inductive zT [JunkSet] (Z:Ren):qlj->qlj->Prop
 | value {v v':qgx}:VR Z v v'->zT Z (.value v) (.value v')
 | skip:zT Z .skip .skip
 | enter {f:qi8} {a a':Array qgx}:JunkSet.okf f->AsR Z a a'->zT Z (.enter f a) (.enter f a')
 | round {l l':Nat} (f:qi8) {t t':Array qgx} {a b:qj9}:BR Z l l'->AsR Z t t'->JunkSet.okg f->JunkSet.okc a->JunkSet.okc b->zT Z (.round l f t a b) (.round l' f t' a b)
 | defer {d d':qiE}:yO Z d d'->zT Z (.defer d) (.defer d')
 | recover:zT Z .recover .recover
def biB(Q:qgG)(b:Builtin)(ts:Array qh5):Bool :=
 match b with
 | .append=>qfa Q ts
 | .len | .cap=>qaG Q ts
 | .copy | .min | .max | .recover | .panic=>true
 | .clear=>match ts[0]? with | some st=>Qc Q st | none=>true
 | _=>false
structure Pair[JunkSet](Q P:qgG):Prop where
 bis:∀b ts,JunkSet.okb b ts->biB Q b ts=true
 tables:P.toTables=Q.toTables
 funcs:∀f,JunkSet.okf f->∃fq fp,Q.funcs[f]?=some fq/\P.funcs[f]?=some fp/\fq.body.isNone=false/\fp.body.isNone=false/\(fq.name == "runtime.NumGoroutine")=false/\(fp.name == "runtime.NumGoroutine")=false
 meths:∀n,JunkSet.okm n->∀t i m,Q.info? t=some i->i.methods.find? (·.name == n)=some m->m.path=#[]/\∃f b,m.func=some (f,b)/\JunkSet.okf f/\∀e,Q.underlying t=some (.pointer e)->b=true
 nometh:∀i,Q.info? 0=some i->(i.methods.find? (·.name == "")).isNone=true
section
variable[JunkSet]{Q P:qgG}(H:Pair Q P){Z:Ren}{Y M W:Type}{R:Rel Y M}
theorem yr{l l':Nat}(h:BR Z l l'):SR Q P QO (qpr l) Z (qpr l') :=
 .bnd (jJ h) λO o o' _ ho=>by
  cases ho with
  | loop h=>exact qf h
  | _=>exact qi
theorem KF:∀{ps:List (Tmp × qgx)} {a6:List (Tmp × qgx)} {t t':Array qgx},LsR (λa b=>b.1=a.1/\VR Z a.2 b.2) ps a6->AsR Z t t' ->AsR Z (ps.foldl (λtmps (x:Tmp × qgx)=>tmps.setIfInBounds x.1 x.2) t) (a6.foldl (λtmps (x:Tmp × qgx)=>tmps.setIfInBounds x.1 x.2) t'):=by
 intro ps;induction ps with
 | nil=>intro a6 t t' h ht;cases h;exact ht
 | cons p ps ih=>
  intro a6 t t' h ht;cases h with
  | @cons _ q _ qs hp hps=>
   obtain⟨a,x⟩:=p;obtain⟨b,y⟩:=q;obtain⟨rfl,hv⟩:=hp;simp only[qje];exact ih hps (ht.set _ hv)
theorem qca{ps:List Tmp}:∀{a a':List qgx},LsR (VR Z) a a'->LsR (λ(a b:Tmp × qgx)=>b.1=a.1/\VR Z a.2 b.2) (ps.zip a) (ps.zip a'):=by
 induction ps with
 | nil=>intro a a' h;exact .nil
 | cons p ps ih=>
  intro a a' h;cases h with
  | nil=>exact .nil
  | cons hx hl=>exact .cons ⟨rfl,hx⟩ (ih hl)
theorem q9w{l l':Nat}(h:BR Z l l'){a a':Array qgx}(ha:AsR Z a a'):SR Q P zT (Instr.yield l a) Z (Instr.yield l' a'):=by
 refine .bnd (yr h) λO r r' lσ hr=>?_;dsimp only;rw[hr.params,<- ha.1,hr.fn,hr.assign,hr.body];refine qE (λ_=>zv) λ_=>q2B ?_;refine qf (.round _ (h.mono lσ) ?_ hr.okF hr.okA hr.okB);rw[<- qmD,<- qmD,qqk,qqk];exact KF (qca (zl.1 (ha.mono lσ))) hr.tmps
include H
theorem Jg{f:qi8}(hf:JunkSet.okf f){a a':Array qgx}(ha:AsR Z a a'):SR Q P zT (callFunc f a) Z (callFunc f a'):=by
 obtain⟨fq,fp,h1,h2,h3,h4,h5,h6⟩:=H.funcs f hf;refine zH ?_;rw[h1,h2];dsimp only;rw[h5,h6,h3,h4];exact qf (.enter hf ha)
theorem q7s(n:String)(hn:JunkSet.okm n)(fuel a6:Nat)(hff:(fuel=0↔a6=0)){t:qh5}{v v':qgx}(h:VR Z v v') :SR Q P (λO a b=>b.1=a.1/\JunkSet.okf a.1/\VR O a.2 b.2) (method fuel t v n) Z (method a6 t v' n):=by
 cases fuel with
 | zero=>exact qx
 | succ k=>
  cases a6 with
  | zero=>omega
  | succ k'=>
   unfold method;refine .bnd (vU H.tables t) λO i i' l hi=>?_;obtain⟨rfl,hi⟩:=hi;cases hm:i'.methods.find? (·.name == n) with
   | none=>exact qi
   | some m=>
    obtain⟨hp,f,b,hf,hok,a7⟩:=H.meths n hn t i' m hi hm;dsimp only;rw[hp,hf];have e:(follow (#[]:Array qql).toList t (.val v))=pure (t,.val v):=rfl;have e':(follow (#[]:Array qql).toList t (.val v'))=pure (t,.val v'):=rfl;rw[e,e'];have key:SR Q P VR (receiverAt t (.val v) b (if(#[]:Array qql).isEmpty=true then some ((n.splitOn ".").getLastD n) else none)) O (receiverAt t (.val v') b (if(#[]:Array qql).isEmpty=true then some ((n.splitOn ".").getLastD n) else none)):=by
     refine .bnd (qO H.tables t) λV d d' l' hd=>?_;obtain⟨rfl,hd⟩:=hd;have hv:=h.mono (l.trans l');cases d' with
     | pointer e=>
      have:=a7 e hd;subst this;exact qf hv
     | _=>
      cases b with
      | true=>exact qi
      | false=>exact qf hv
    exact SR.bnd (S:=λO a b=>b.1=a.1/\JunkSet.okf a.1/\VR O a.2 b.2) (f:=λr=>pure (f,r)) (f':=λr=>pure (f,r)) key λV r r' _ hr=>qf ⟨rfl,hok,hr⟩
theorem Kw(hG:Gl P Z)(n:String)(hn:JunkSet.okm n){v v':qgx}(h:VR Z v v'){a a':Array qgx}(ha:AsR Z a a'):SR Q P zT (callMethod v n a) Z (callMethod v' n a'):=by
 cases h with
 | iface t hv=>
  refine zH ?_;have:P.types.size=Q.types.size:=by rw[H.tables]
  rw[this];refine .bnd (q7s H n hn _ _ Iff.rfl hv) λO a b l hab=>?_;obtain⟨f,r⟩:=a;obtain⟨f',r'⟩:=b;obtain⟨rfl,hok,hr⟩:=hab;exact Jg H hok ((AsR.one hr).append (ha.mono l))
 | nilIface=>exact(qz H.tables hG .nilDeref:SR Q P zT (qkm .nilDeref) Z (qkm .nilDeref))
 | _=>exact qi
omit [JunkSet] H in
theorem QL{Y:Type}(hn:∀i,Q.info? 0=some i->(i.methods.find? (·.name == "")).isNone=true)(f:qli->Sem Y)(hf:∀i,i.methods.find? (·.name == "")=none->Bad Q (f i)):Bad Q (ql1 0>>=f):=by
 show Bad Q ((match Q.info? 0 with | some i=>(pure i:Sem qli) | none=>stuck "no such type").bind f);cases h:Q.info? 0 with
 | none=>exact rfl
 | some i=>exact hf i (by simpa using hn i h)
theorem Kk(a:Array qgx):Bad Q (callMethod (.iface 0 .nilIface) "" a):=by
 show Bad Q ((method (Q.types.size+_) 0 .nilIface "").bind _);refine Bad.bind ?_ _;generalize Q.types.size+_=n;cases n with
 | zero=>exact rfl
 | succ n=>
  unfold method;refine QL H.nometh _ λi hi=>?_;rw[hi];exact rfl
theorem q8D:Bad Q (do
  if(<- nilAhead ((<- program).types.size+Made.depth) 0 .nilIface "") != some false then
   unsupported (.noEntry "op/nilCheck.the method's receiver behind this interface value is a nil pointer, or cannot be seen to be none, and the arguments act or may panic (ledger 612)")
  pure (Next.value (.func (.method "") #[.iface 0 .nilIface] #[]))):=by
 show Bad Q ((nilAhead (Q.types.size+Made.depth) 0 .nilIface "").bind _);cases hn:Q.types.size+Made.depth with
 | zero=>exact rfl
 | succ n=>
  refine Bad.bind ?_ _;unfold nilAhead;refine QL H.nometh _ λi hi=>?_;rw[hi];exact rfl
omit H in
theorem qep:SR Q P EqR (sys .env) Z (sys .env):=.inr ⟨rfl,_,rfl,λr=>⟨r,rfl,rfl⟩⟩
theorem q2C:SR Q P EqR qn7 Z qn7:=by
 unfold qn7;refine .bndE qep λO r l=>?_;cases r with
 | strings e=>
  dsimp only;refine zH ?_;have:P.godebug=Q.godebug:=by rw[H.tables]
  rw[this];exact qf rfl
 | _=>exact qi
theorem Yg{R:Rel qgx qgx}{v v':qgx}(hG:Gl P Z)(h:VR Z v v'):SR Q P R (Instr.panic v) Z (Instr.panic v'):=by
 cases h with
 | iface t hv=>exact(jU (.iface t hv):SR Q P R (goPanic _) Z (goPanic _))
 | nilIface=>
  show SR Q P R (qn7>>=_) Z (qn7>>=_);refine .bndE (q2C H) λO n l=>?_;exact qE (λ_=>jU .nilIface) λ_=>qz H.tables (hG.mono l) _
 | _=>exact qi
theorem jT{s s':Sem qgx}(h:SR Q P VR s Z s'):SR Q P zT (do pure (.value (<- s))) Z (do pure (.value (<- s'))):=.bnd h λO a b _ hab=>qf (.value hab)
theorem sr_u{s s':Sem Unit}(h:SR Q P (λ_ _ _=>True) s Z s'):SR Q P zT (do s;pure .skip) Z (do s';pure .skip):=.bnd h λO a b _ _=>qf .skip
theorem q59(hG:Gl P Z){b:Builtin}{ts:Array qh5}{t:qh5}{cs:Array Bool}(hB:biB Q b ts=true){a a':Array qgx}(ha:AsR Z a a') :SR Q P zT (builtin b ts t cs a) Z (builtin b ts t cs a'):=by
 cases b<;>first | (cases hB;done) | skip
 ·exact jT H (q7w H.tables hG ha hB)
 ·exact jT H (qeq H.tables hB ha)
 ·exact jT H (q9F H.tables ha hB)
 ·exact jT H (qct H.tables ha)
 ·exact jT H (qen H.tables hB ha)
 ·exact jT H (qem ha)
 ·exact jT H (qel ha)
 ·exact jT H (Yg H hG (ha.getD 0 .nilIface))
 ·exact qf .recover
theorem QW{v v':qgx}(h:VR Z v v'){a a':Array qgx}(ha:AsR Z a a'):SR Q P yO (Deferred.ofValue v a) Z (Deferred.ofValue v' a'):=by
 cases h with
 | func hf h1 h2 h3 h4=>exact qf (.mk (.fn hf ⟨h3,h4⟩) (AsR.append ⟨h1,h2⟩ ha))
 | nilFunc=>exact qf (.mk .nil ha)
 | meth n b c=>exact qf (.bound rfl (by simp[qkg]) ⟨_,_,rfl⟩)
 | _=>exact qi
theorem vA(hG:Gl P Z){d d':qiE}(h:yO Z d d'):SR Q P zT (invoke d.target d.args) Z (invoke d'.target d'.args):=by
 obtain⟨t,a⟩:=d;obtain⟨t',a'⟩:=d';rcases h with⟨ht,ha⟩ | ⟨h1,h2,_⟩
 case bound=>
  dsimp only at h1 h2 ⊢;subst h1;unfold invoke;dsimp only;rw[h2];exact .bad (Kk H _)
 dsimp only at ht ha ⊢;cases ht with
 | fn hf hc=>
  cases hf with
  | func f hok=>exact Jg H hok (ha.append hc)
  | yield hb=>exact q9w hb ha
 | meth n hn=>
  unfold invoke;dsimp only;cases h0:a[0]? with
  | none=>exact qi
  | some r=>
   obtain⟨r',e,hr⟩:=ha.get h0;rw[e,<- ha.1];exact Kw H hG n hn hr (ha.extract _ _)
 | nil=>exact(qz H.tables hG .nilDeref:SR Q P zT (qkm .nilDeref) Z (qkm .nilDeref))
 | builtin b ts t cs hB=>exact q59 H hG (H.bis _ _ hB) ha
 | collected hb=>exact qi
end
end
section
inductive qH [JunkSet] (Q:qgG):qhF->Prop
 | tmp (t:Tmp):qH Q (.tmp t)
 | const {v:qgx}:vf v->qH Q (.const v)
 | global {g:Nat}:g<Q.globals.size->qH Q (.global g)
 | func {f:qi8}:JunkSet.okf f->qH Q (.func f)
def jq[JunkSet](Q:qgG)(l:List qhF):Prop:=∀x∈l,qH Q x
inductive yT [JunkSet] (Q:qgG):Call->Prop
 | value {f:qhF} {a:Array qhF} {ts:Array qh5}:qH Q f->jq Q a.toList->yT Q ⟨.value f,a,ts⟩
 | invoke {r:qhF} {n:String} {a:Array qhF} {ts:Array qh5}:qH Q r->JunkSet.okm n->jq Q a.toList->yT Q ⟨.invoke r n,a,ts⟩
 | builtin {b:Builtin} {a:Array qhF} {ts:Array qh5}:JunkSet.okb b ts->jq Q a.toList->yT Q ⟨.builtin b,a,ts⟩
inductive qM [JunkSet] (Q:qgG):Op->Prop
 | move {x:qhF}:qH Q x->qM Q (.move x)
 | assign {x:qhF}:qH Q x->qM Q (.assign x)
 | pick {c a b:qhF}:qH Q c->qH Q a->qH Q b->qM Q (.pick c a b)
 | alloc {t:qh5}:kM Q t=true->qM Q (.alloc t)
 | box {t:qh5} {x:qhF}:qH Q x->qM Q (.box t x)
 | build {t:qh5} {ps:Array (Nat × qhF)}:kM Q t=true->jq Q (ps.toList.map (·.2))->qM Q (.build t ps)
 | buildSlice {t:qh5} {n:Nat} {ps:Array (Nat × qhF)}:Qc Q t=true->jq Q (ps.toList.map (·.2))->qM Q (.buildSlice t n ps)
 | load {t:qh5} {x:qhF}:qH Q x->qM Q (.load t x)
 | store {t:qh5} {a x:qhF}:qH Q a->qH Q x->qM Q (.store t a x)
 | nilCheck {x:qhF}:qH Q x->qM Q (.nilCheck x)
 | arith {op:BinOp} {t u:qh5} {x y:qhF}:KD op=false->q1q Q t=true->qH Q x->qH Q y->qM Q (.binOp op t x y u)
 | eql {op:BinOp} {t u:qh5} {x y:qhF}:KD op=true->q8r Q t x y=true->qH Q x->qH Q y->qM Q (.binOp op t x y u)
 | unOp {op:UnOp} {t:qh5} {x:qhF}:qH Q x->qM Q (.unOp op t x)
 | convert {s d:qh5} {x:qhF}:q7a Q s d=true->qH Q x->qM Q (.convert s d x)
 | makeInterface {t:qh5} {x:qhF}:qH Q x->qM Q (.makeInterface t x)
 | makeFunc {f:qi8} {a b:Array qhF}:JunkSet.okf f->jq Q a.toList->jq Q b.toList->qM Q (.makeFunc (.func f) a b)
 | makeMap {t:qh5} {r:Option qhF}:jq Q r.toList->qM Q (.makeMap t r)
 | makeSlice {t:qh5} {l c:qhF}:Qc Q t=true->qH Q l->qH Q c->qM Q (.makeSlice t l c)
 | slice {t:qh5} {x:qhF} {l h m:Option qhF}:qH Q x->jq Q l.toList->jq Q h.toList->jq Q m.toList->qM Q (.slice t x l h m)
 | fieldAddr {t:qh5} {x:qhF} {f:Nat}:q1B Q t f=true->qH Q x->qM Q (.fieldAddr t x f)
 | field {t:qh5} {x:qhF} {f:Nat}:qH Q x->qM Q (.field t x f)
 | indexAddr {t:qh5} {x i:qhF}:qH Q x->qH Q i->qM Q (.indexAddr t x i)
 | index {t:qh5} {x i:qhF}:qH Q x->qH Q i->qM Q (.index t x i)
 | lookup {t:qh5} {x i:qhF} {c:Bool}:YH Q t=true->qH Q x->qH Q i->qM Q (.lookup t x i c)
 | mapUpdate {t:qh5} {m k x:qhF}:YH Q t=true->qH Q m->qH Q k->qH Q x->qM Q (.mapUpdate t m k x)
 | insert {t:qh5} {m k x:qhF}:YH Q t=true->qH Q m->qH Q k->qH Q x->qM Q (.insert t m k x)
 | typeAssert {x:qhF} {t a:qh5} {c:Bool}:kM Q a=true->qH Q x->qM Q (.typeAssert x t a c)
 | extract {x:qhF} {i:Nat}:qH Q x->qM Q (.extract x i)
 | call {c:Call}:yT Q c->qM Q (.call c)
 | defer {c:Call}:yT Q c->qM Q (.defer c)
 | panic {x:qhF}:qH Q x->qM Q (.panic x)
section
variable[JunkSet]{Q P:qgG}(H:Pair Q P){Z:Ren}{e e':qhF->qgx}
theorem xf(he:∀x,qH Q x->VR Z (e x) (e' x)){a:Array qhF}(ha:jq Q a.toList):AsR Z (a.map e) (a.map e'):=by
 refine⟨by simp,λi x y hx hy=>?_⟩;rw[qmE] at hx hy;cases h:a[i]? with
 | none=>rw[h] at hx;cases hx
 | some o=>
  rw[h] at hx hy;cases hx;cases hy;exact he o (ha o (by rw[qjl];exact qiC h))
theorem q0g(he:∀x,qH Q x->VR Z (e x) (e' x)){ps:Array (Nat × qhF)}(ha:jq Q (ps.toList.map (·.2))) :LsR (q15 Z) (ps.map λ(x:Nat × qhF)=>(x.1,e x.2)).toList (ps.map λ(x:Nat × qhF)=>(x.1,e' x.2)).toList:=by
 simp only[Array.toList_map];generalize ps.toList=l at ha;induction l with
 | nil=>exact .nil
 | cons p l ih=>exact .cons ⟨rfl,he _ (ha _ (qo6 ..))⟩ (ih λx hx=>ha x (qnt _ hx))
theorem JR(he:∀x,qH Q x->VR Z (e x) (e' x)){o:Option qhF}(ho:jq Q o.toList):Zd Z (o.map e) (o.map e'):=by
 cases o with
 | none=>exact .inl ⟨rfl,rfl⟩
 | some x=>exact .inr ⟨_,_,rfl,rfl,he x (ho x (by simp))⟩
theorem J0(hc:∀v,e (.const v)=v){x:qhF}(h:kz x=true):e x=.nilIface:=by
 unfold kz at h;split at h
 ·exact hc _
 ·cases h
include H
theorem vW(he:∀x,qH Q x->VR Z (e x) (e' x)){c:Call}(hc:yT Q c)(t:qh5):SR Q P yO (resolve e c t) Z (resolve e' c t):=by
 cases hc with
 | value hf ha=>exact QW H (he _ hf) (xf he ha)
 | invoke hr hn ha=>exact qf (.mk (.meth _ hn) ((AsR.one (he _ hr)).append (xf he ha)))
 | builtin hb ha=>exact qf (.mk (.builtin _ _ _ _ hb) (xf he ha))
def qb2:Op->Bool
 | .mapUpdate .. | .insert ..=>true
 | _=>false
theorem q07(he:∀x,qH Q x->VR Z (e x) (e' x))(hG:Gl P Z)(hn:Inj Z)(hc:∀v,e (.const v)=v){o:qiu}(ho:qM Q o.op)(hmu:qb2 o.op=false):SR Q P zT (qk5 e o) Z (qk5 e' o):=by
 have T:=H.tables;obtain⟨dst,op,ty,pos,after,guard⟩:=o;dsimp only at ho hmu;cases ho with
 | move h=>exact qf (.value (he _ h))
 | assign h=>exact qf (.value (he _ h))
 | pick h1 h2 h3=>
  refine .bndE (q7v (he _ h1)) λO b l=>?_;refine qf (.value ?_);cases b with
  | true=>exact(he _ h2).mono l
  | false=>exact(he _ h3).mono l
 | alloc h=>exact jT H (qa1 T h)
 | box h=>exact jT H (qer _ (he _ h))
 | build h1 h2=>exact jT H (q9G T h1 (q0g he h2))
 | buildSlice h1 h2=>exact jT H (Kx T h1 _ (q0g he h2))
 | load h=>exact jT H (q7u T _ (he _ h))
 | store h1 h2=>exact sr_u H (q4H T _ (he _ h1) (he _ h2))
 | @nilCheck x h=>
  have hv:=he _ h;unfold qk5;dsimp only;generalize e x=v at hv ⊢;generalize e' x=v' at hv ⊢;have a6:SR Q P zT (pure (.value v)) Z (pure (.value v')):=qf (.value hv);cases hv with
  | ptrNil=>exact qz T hG .nilDeref
  | nilIface=>exact qz T hG .nilDeref
  | nilFunc=>exact qz T hG .nilDeref
  | func hf h1 h2 h3 h4=>
   cases hf with
   | func f hok=>exact a6
   | yield hb=>exact a6
  | wild _ h=>cases v'<;>first | exact a6 | (cases h;done) | (rename_i p;cases p<;>first | exact a6 | (cases h;done)) | (rename_i p _ _;cases p<;>first | exact a6 | (cases h;done))
  | meth n a c=>exact .bad (q8D H)
  | _=>exact a6
 | arith h1 h2 h3 h4=>
  refine jT H (.bnd (Ym T (λh=>by rw[h1] at h;cases h) (he _ h3) (he _ h4) ?_ ?_ ?_) λO _ _ l _=>qa0 T h1 h2 ((he _ h3).mono l) ((he _ h4).mono l) (hG.mono l))
  ·exact λhx=>J0 hc hx
  ·exact λhx=>J0 hc hx
  ·exact λh=>by rw[h1] at h;cases h
 | @eql op t u x y h1 h2 h3 h4=>
  have a8:∀a b,Q.underlying t≠some (.chan a b):=by
   unfold q8r at h2;simp only[qju,qh9] at h2;rcases h2 with h2 | ⟨_,h5⟩
   ·exact yd h2
   ·intro a b e;rw[e] at h5;cases h5
  by_cases hw:e x=.chan none\/e y=.chan none
  ·exact .bad (Bad.bind (qdu T h1 a8 hw) _)
  have a7:∀w,(w=e x\/w=e y)->w≠.chan none:=λw h e'=>hw (by rcases h with rfl | rfl;exact .inl e';exact .inr e');refine jT H (.bnd (Ym T (λ_=>h2) (he _ h3) (he _ h4) (λhx=>J0 hc hx) (λhx=>J0 hc hx) (λ_=>a7)) λO _ _ l _=>?_);unfold q8r at h2;simp only[qju,qh9] at h2;rcases h2 with h2 | ⟨h2,h5⟩
  ·exact qeo T h1 h2 ((he _ h3).mono l) ((he _ h4).mono l) (hG.mono l)
  ·refine q9E T h1 ?_ ((he _ h3).mono l) ((he _ h4).mono l) (h2.imp (J0 hc) (J0 hc));split at h5
   ·exact⟨_,‹_›⟩
   ·cases h5
 | unOp h=>exact jT H (q9x T (he _ h))
 | convert h1 h2=>exact jT H (q57 T h1 (he _ h2))
 | makeInterface h=>exact jT H (ZT T _ (he _ h))
 | makeFunc h1 h2 h3=>exact qf (.value (.func (.func _ h1) (xf he h2).1 (xf he h2).2 (xf he h3).1 (xf he h3).2))
 | makeMap h=>exact jT H (q53 T _ (JR he h))
 | makeSlice h1 h2 h3=>exact jT H (q1i T hG h1 (he _ h2) (he _ h3))
 | slice h1 h2 h3 h4=>exact jT H (q50 T hG _ (he _ h1) (JR he h2) (JR he h3) (JR he h4))
 | fieldAddr h1 h2=>exact jT H (q55 T h1 (he _ h2))
 | field h=>exact jT H (q9D T _ (he _ h) _)
 | indexAddr h1 h2=>exact jT H (q54 T hG _ (he _ h1) (he _ h2))
 | index h1 h2=>exact jT H (q9C T hG _ (he _ h1) (he _ h2))
 | lookup h1 h2 h3=>exact jT H (q7t T hG h1 _ (he _ h2) (he _ h3))
 | mapUpdate h1 h2 h3 h4=>cases hmu
 | insert h1 h2 h3 h4=>cases hmu
 | typeAssert h1 h2=>exact jT H (Ku T hG h1 _ (he _ h2))
 | extract h=>exact jT H (q56 (he _ h) _)
 | call h=>exact .bnd (vW H he h _) λO d d' l hd=>vA H (hG.mono l) hd
 | defer h=>exact .bnd (vW H he h _) λO d d' l hd=>qf (.defer hd)
 | panic h=>exact jT H (Yg H hG (he _ h))
end
end
section
inductive qB [JunkSet] (Q:qgG):qj9->Prop
 | skip:qB Q .skip
 | region {id:Nat} {ops:Array qiu} {d:Bool}:(∀o∈ops.toList,qM Q o.op)->qB Q (.region id ops d)
 | seq {a b:qj9}:qB Q a->qB Q b->qB Q (.seq a b)
 | cond {c:qhF} {a b:qj9}:qH Q c->qB Q a->qB Q b->qB Q (.cond c a b)
 | block {id:Nat} {c:qj9}:qB Q c->qB Q (.block id c)
 | loop {c:qj9}:qB Q c->qB Q (.loop c)
 | rangeFunc {f:qhF} {ps:Array Tmp} {a c:qj9}:qH Q f->qB Q a->qB Q c->qB Q (.rangeFunc f ps a c)
 | exit (id:Nat):qB Q (.exit id)
 | scope {c:qj9}:qB Q c->qB Q (.scope c)
 | label (l:Nat):qB Q (.label l)
 | goto (l:Nat):qB Q (.goto l)
 | ret:qB Q .ret
inductive zn [JunkSet] (Q:qgG) (Z:Ren):qkz->qkz->Prop
 | code {c:qj9}:qB Q c->zn Q Z (.code c) (.code c)
 | inBlock (id:Nat):zn Q Z (.inBlock id) (.inBlock id)
 | inLoop {c:qj9}:qB Q c->zn Q Z (.inLoop c) (.inLoop c)
 | inScope {c:qj9}:qB Q c->zn Q Z (.inScope c) (.inScope c)
 | inRegion {ops:Array qiu} (l:List Nat):(∀o∈ops.toList,qM Q o.op)->zn Q Z (.inRegion ops l) (.inRegion ops l)
 | inRangeFunc {l l':Nat}:BR Z l l'->zn Q Z (.inRangeFunc l) (.inRangeFunc l')
 | endRangeFunc {l l':Nat}:BR Z l l'->zn Q Z (.endRangeFunc l) (.endRangeFunc l')
 | beginRound:zn Q Z .beginRound .beginRound
structure ZK[JunkSet](Z:Ren)(a b:qlC):Prop where
 v:VR Z a.v b.v
 rcv:b.recovered=a.recovered
 goexit:b.goexit=a.goexit
inductive kI [JunkSet] (Z:Ren):FrameMode->FrameMode->Prop
 | run:kI Z .run .run
 | returning:kI Z .returning .returning
 | panicking {l l':List qlC}:LsR (ZK Z) l l'->kI Z (.panicking l) (.panicking l')
def OBR(Z:Ren)(a b:Option Nat):Prop:=(a=none/\b=none)\/∃i j,a=some i/\b=some j/\BR Z i j
structure qy[JunkSet](Q P:qgG)(Z:Ren)(f f':qgH):Prop where
 fn:f'.fn=f.fn
 same:∃g,Q.funcs[f.fn]?=some g/\P.funcs[f.fn]?=some g
 okf:Q.inits.idxOf? f.fn=none
 tmps:AsR Z f.tmps f'.tmps
 todo:LsR (zn Q Z) f.todo f'.todo
 defers:LsR (yO Z) f.defers f'.defers
 mode:kI Z f.mode f'.mode
 kind:f'.kind=f.kind
 round:OBR Z f.roundOf f'.roundOf
section
variable[JunkSet]{Q P:qgG}{Z O:Ren}
theorem zn.mono(l:Le Z O){a b:qkz}(h:zn Q Z a b):zn Q O a b:=by
 cases h with
 | code h=>exact .code h
 | inBlock id=>exact .inBlock id
 | inLoop h=>exact .inLoop h
 | inScope h=>exact .inScope h
 | inRegion l h=>exact .inRegion l h
 | inRangeFunc h=>exact .inRangeFunc (h.mono l)
 | endRangeFunc h=>exact .endRangeFunc (h.mono l)
 | beginRound=>exact .beginRound
theorem ZK.mono(l:Le Z O){a b:qlC}(h:ZK Z a b):ZK O a b:=⟨h.v.mono l,h.rcv,h.goexit⟩
theorem kI.mono(l:Le Z O){a b:FrameMode}(h:kI Z a b):kI O a b:=by
 cases h with
 | run=>exact .run
 | returning=>exact .returning
 | panicking h=>exact .panicking (h.imp λ_ _ k=>k.mono l)
theorem OBR.mono(l:Le Z O){a b:Option Nat}(h:OBR Z a b):OBR O a b:=h.imp id λ⟨i,j,e1,e2,hb⟩=>⟨i,j,e1,e2,hb.mono l⟩
theorem qy.mono(l:Le Z O){f f':qgH}(h:qy Q P Z f f'):qy Q P O f f' :=
 ⟨h.fn,h.same,h.okf,h.tmps.mono l,h.todo.imp λ_ _ k=>k.mono l,h.defers.imp λ_ _ k=>k.mono l,h.mode.mono l,h.kind,h.round.mono l⟩
structure kJ[JunkSet](Q P:qgG)(Z:Ren)(g g':qgy):Prop where
 frame:qy Q P Z g.frame g'.frame
 callers:LsR (qy Q P Z) g.callers g'.callers
 st:g.status=.running
 st':g'.status=.running
 dy:g.dying=none
 dy':g'.dying=none
theorem ko(Z:Ren):VR Z qgz undef:=AsR.tuple .nil
theorem qy.eval(hG:Gl P Z)(hg:P.globals.size=Q.globals.size){f f':qgH}(h:qy Q P Z f f'){x:qhF}(hx:qH Q x):VR Z (f.eval x) (f'.eval x):=by
 cases hx with
 | tmp t=>exact h.tmps.getD t (ko Z)
 | const hv=>exact hv.vr Z
 | @global g hl=>exact .ptr 0 none (hG g (by omega))
 | func hf=>exact .func (.func _ hf) rfl (λi x y hx=>by simp at hx) rfl (λi x y hx=>by simp at hx)
theorem qy.finish{f f':qgH}(h:qy Q P Z f f'){v v':qgx}(hv:VR Z v v'):qy Q P Z (f.finish v) (f'.finish v'):=by
 obtain⟨fn,tmps,todo,defers,mode,kind,ro⟩:=f;obtain⟨b7,a8,a7,a6,a9,b0,b6⟩:=f';have ht:=h.todo;dsimp only at ht;unfold qox;dsimp only;cases ht with
 | nil=>exact h
 | cons hx hl=>
  cases hx with
  | @inRegion ops l hops=>
   cases l with
   | nil=>exact h
   | cons i l=>
    dsimp only;refine⟨h.fn,h.same,h.okf,?_,.cons (.inRegion l hops) hl,h.defers,h.mode,h.kind,h.round⟩;dsimp only;split
    ·exact h.tmps.set _ hv
    ·exact h.tmps
  | inRangeFunc hb=>exact⟨h.fn,h.same,h.okf,h.tmps,.cons (.endRangeFunc hb) hl,h.defers,h.mode,h.kind,h.round⟩
  | beginRound=>exact⟨h.fn,h.same,h.okf,h.tmps,hl,h.defers,h.mode,h.kind,h.round⟩
  | _=>exact h
theorem qy.raise{f f':qgH}(h:qy Q P Z f f'){l l':List qlC}(hl:LsR (ZK Z) l l'):qy Q P Z (f.raise l) (f'.raise l'):=by
 obtain⟨fn,tmps,todo,defers,mode,kind,ro⟩:=f;obtain⟨b7,a8,a7,a6,a9,b0,b6⟩:=f';have hm:=h.mode;dsimp only at hm;unfold qp6;cases hm with
 | run=>exact⟨h.fn,h.same,h.okf,h.tmps,h.todo,h.defers,.panicking hl,h.kind,h.round⟩
 | returning=>exact⟨h.fn,h.same,h.okf,h.tmps,h.todo,h.defers,.panicking hl,h.kind,h.round⟩
 | panicking hc=>exact⟨h.fn,h.same,h.okf,h.tmps,h.todo,h.defers,.panicking (hl.append hc),h.kind,h.round⟩
theorem q60{id:Nat}:∀{l l':List qkz},LsR (zn Q Z) l l'->(qmi id l=none/\qmi id l'=none)\/∃k k',qmi id l=some k/\qmi id l'=some k'/\LsR (zn Q Z) k k':=by
 intro l l' h;induction h with
 | nil=>exact .inl ⟨rfl,rfl⟩
 | cons hx hl ih=>
  cases hx with
  | inBlock j=>
   simp only[qmi];split
   ·exact .inr ⟨_,_,rfl,rfl,hl⟩
   ·exact ih
  | _=>exact ih
theorem q1A{l:Nat}:∀{c r:qj9},qB Q c->findLabel c l=some r->qB Q r:=by
 intro c;induction c with
 | seq a b iha ihb=>
  intro r h hr;cases h with
  | seq ha hb=>
   simp only[findLabel] at hr;split at hr
   ·rename_i rest e
    cases hr;exact .seq (iha ha e) hb
   ·exact ihb hb hr
 | label j=>
  intro r h hr;simp only[findLabel] at hr;split at hr
  ·cases hr;exact .skip
  ·cases hr
 | _=>intro r h hr;cases hr
theorem q5B{j:Nat}:∀{l l':List qkz},LsR (zn Q Z) l l'->(qmF j l=none/\qmF j l'=none)\/∃k k',qmF j l=some k/\qmF j l'=some k'/\LsR (zn Q Z) k k':=by
 intro l l' h;induction h with
 | nil=>exact .inl ⟨rfl,rfl⟩
 | cons hx hl ih=>
  cases hx with
  | @inScope c hc=>
   simp only[qmF];cases hf:findLabel c j with
   | none=>exact ih
   | some r=>exact .inr ⟨_,_,rfl,rfl,.cons (.code (q1A hc hf)) (.cons (.inScope hc) hl)⟩
  | _=>exact ih
theorem q4u(ops:Array qiu){t t':Array qgx}(h:AsR Z t t')(j:Nat):qjn ops t' j=qjn ops t j:=by
 unfold qjn;cases((ops[j]?).bind (·.dst)) with
 | none=>rfl
 | some d=>
  simp only[qmp];cases ht:t[d]? with
  | none=>rw[h.get_none ht]
  | some v=>
   obtain⟨v',a6,hr⟩:=h.get ht;rw[a6];cases hr<;>first | rfl | (rename_i h;cases v'<;>first | rfl | cases h)
theorem ku(P:qgG)(fn:qi8)(es:Array qim):∀e∈seen P fn es,e∈es:=by
 have key:∀(l:List qim) (x:Bool × Array qim) (all:List qim),(∀e∈x.2,e∈all)->(∀e∈l,e∈all) ->
   ∀e∈(l.foldl (λ(y:Bool × Array qim) (e:qim)=>match e.loc with
    | .mark (.extern f)=>((P.funcs[f]?).any (·.norace),y.2)
    | _=>(y.1,if y.1 && !e.sync then y.2 else y.2.push e)) x).2,e∈all:=by
  intro l;induction l with
  | nil=>intro x all hx _;exact hx
  | cons a l ih=>
   intro x all hx hl;rw[qje];refine ih _ all ?_ λe he=>hl e (qnt _ he);intro e he;split at he
   ·exact hx e he
   ·dsimp only at he;split at he
    ·exact hx e he
    ·rcases Array.mem_push.1 he with he | rfl
     ·exact hx e he
     ·exact hl _ (qo6 ..)
 intro e he;have:=key es.toList ((P.funcs[fn]?).any (·.norace),#[]) es.toList (by simp) (λe he=>he) e;rw[qjl] at this;apply this;unfold seen at he;dsimp only at he;rw[<- qmD] at he;exact he
end
end
section
section
variable[JunkSet]{Q P:qgG}{Z:Ren}{Y M:Type}{R:Rel Y M}
def SM(Q P:qgG)[JunkSet]{Y M:Type}(R:Rel Y M)(s:Sem Y)(Z:Ren)(s':Sem M):Prop :=
 ∀{base D:Nat} {wq w:qgt},base<=Z.length->WR Q base Z wq w->zB D wq w->(rwR (s.run Q wq)).drawn<=D->vR (s.run Q wq) ->
  ∃O wq' w' es',q6f R O (s.run Q wq) wq' (s'.run P w) w'/\s'.events P w #[]=es'/\(∀e∈es',kL base O e)/\WR Q base O wq' w'/\Eff base Z O w w'
theorem SR.sm{s:Sem Y}{s':Sem M}(h:SR Q P R s Z s'):SM Q P R s Z s':=λhb hw ht hd hf=>by
 obtain⟨O,wq',w',es',h1,h2,h3,h4,_,h5,_⟩:=SR.runs (es:=#[]) h hb hw ht hd hf;exact⟨O,wq',w',es',h1,by show(s'.runT P _ #[]).2=es';rw[h2];simp,h3,h4,h5⟩
def wk:qj1:=.extern "map.whichKeyStays" 2
def qgv(kt:qh5)(k v:qgx)(r:Nat)(es:Array qki)(clock:Nat)(a6:Nat->Sem qgx):Sem Unit:=do
 qkB false 10000 kt k
 match <- qlp kt k es.toList with
 | some (i,_)=>do
  let key <- a6 i
  setObj r (.map (es.modify i λe=>{ e with key,val:=v }) clock)
 | none=>setObj r (.map (es.push { key:=k,val:=v,born:=clock }) (clock+1))
def ze(es:Array qki)(i:Nat)(k:qgx):qgx:=((es[i]?).map (·.key)).getD k
def kB(kt:qh5)(k:qgx)(es:Array qki):Sem (Option (Nat × qgx)):=do
 qkB false 10000 kt k
 qlp kt k es.toList
def jD(k v:qgx)(r:Nat)(es:Array qki)(clock:Nat)(a6:Nat->Sem qgx):Option (Nat × qgx)->Sem Unit
 | some (i,_)=>do
  let key <- a6 i
  setObj r (.map (es.modify i λe=>{ e with key,val:=v }) clock)
 | none=>setObj r (.map (es.push { key:=k,val:=v,born:=clock }) (clock+1))
theorem yD{t:qh5}{k v:qgx}{w:qgt}{kt et:qh5}(ht:P.underlying t=some (.map kt et)){r:Nat}{es:Array qki}{clock:Nat}(hr:w.heap[r]?=some (.map es clock)) :(qiz t (.map (some r)) k v).run P w=(kB kt k es>>=jD k v r es clock (λi=>qig (ze es i k) k)).run P w /\(qiz t (.map (some r)) k v).events P w #[]=(kB kt k es>>=jD k v r es clock (λi=>qig (ze es i k) k)).events P w #[⟨.obj r,false,false⟩]:=by
 have e:qiz t (.map (some r)) k v=(qkc t).bind λd=>(match d with
   | .map kt _=>(getObj r).bind λo=>(match o with
    | .map es clock=>(kB kt k es>>=jD k v r es clock (λi=>qig (ze es i k) k))
    | _=>stuck "MapUpdate: map expected")
   | _=>stuck "MapUpdate: map type expected"):=by
  unfold qiz;show(qkc t).bind _=_
  congr 1
  funext d
  cases d<;>try rfl
  show(getObj r).bind _=(getObj r).bind _
  congr 1
  funext o
  cases o<;>try rfl
  exact(Sem.bind_assoc' _ _ _).symm
 have hu:∀es,(qkc t).runT P w es=(.ok (.map kt et) w,es):=λes=>by
  show(match P.underlying t with | some i=>(pure i:Sem TypeDesc) | none=>stuck "no such type").runT P w es=_;rw[ht];rfl
 have ho:∀es',(getObj r).runT P w es'=(.ok (.map es clock) w,es'.push ⟨.obj r,false,false⟩):=λes'=>by
  simp only[getObj,qlu,hr];rfl
 have key:∀es',(qiz t (.map (some r)) k v).runT P w es'=(kB kt k es>>=jD k v r es clock (λi=>qig (ze es i k) k)).runT P w (es'.push ⟨.obj r,false,false⟩):=λes'=>by
  rw[e,Sem.runT_bind',hu];dsimp only;rw[Sem.runT_bind',ho]
 refine⟨?_,?_⟩
 ·rw[<- Sem.runT_fst P _ w #[],key,Sem.runT_fst]
 ·show((qiz t (.map (some r)) k v).runT P w #[]).2=_;rw[key];rfl
omit [JunkSet] in
theorem qe3(a b:ByteArray)(h:(a == b)=true):a=b:=by
 obtain⟨a⟩:=a;obtain⟨b⟩:=b;have h2:(a == b)=true:=h;rw[eq_of_beq h2]
omit [JunkSet] in
theorem q7d:∀(n:Nat) {x y:qgx},qjv n x y=true->x=y:=by
 intro n;induction n with
 | zero=>
  intro x y h;cases x<;>cases y<;>first | (cases h;done) | rfl | (rw[qe3 _ _ h];done) | (simp only[qjv,qh9,beq_iff_eq] at h;simp[h];done) | (simp only[qjv,qh9,beq_iff_eq] at h;obtain⟨h1,h2⟩:=h;subst h1 h2;rfl)
 | succ n ih=>
  intro x y h;cases x<;>cases y<;>first | (cases h;done) | rfl | (rw[qe3 _ _ h];done) | skip
  all_goals simp only[qjv,qh9,beq_iff_eq] at h
  case agg.agg a b=>
   obtain⟨h1,h2⟩:=h
   congr 1
   refine Array.ext h1 λi a7 a6=>?_;rw[qhE] at h2;have:(a[i],b[i])∈a.toList.zip b.toList:=by
    rw[List.mem_iff_getElem];refine⟨i,by simp;omega,by simp⟩
   exact ih (h2 _ this)
  case iface.iface t v u w=>
   rw[h.1,ih h.2]
  all_goals first | (simp[h];done) | (obtain⟨h1,h2⟩:=h;subst h1 h2;rfl) | (obtain⟨⟨h1,h2⟩,h3⟩:=h;subst h1 h2 h3;rfl)
def kw(s:Bool)(n0:Nat)(old new:qgx):Sem qgx :=
 if s then pure (if qjv 10000 old new then new else if n0=0 then new else old)
 else choose wk>>=λn=>pure (if qjv 10000 old new then new else if n=0 then new else old)
theorem qcp{x x' y y':qgx}(hx:VR Z x x')(hy:VR Z y y')(n0:Nat):SR Q P VR (qig x y) Z (kw (qjv 10000 x y) n0 x' y'):=by
 unfold qig kw;by_cases hs:qjv 10000 x y=true
 ·rw[if_pos hs,if_pos hs];refine qf ?_;split
  ·exact hy
  ·split
   ·exact hy
   ·rw[<- q7d _ hs];exact hx
 ·rw[if_neg hs,if_neg hs];refine .bndE vB λO n l=>?_;refine qf ?_;by_cases a6:qjv 10000 x' y'=true
  ·rw[if_pos a6];split
   ·exact hy.mono l
   ·rw[<- q7d _ a6];exact hx.mono l
  ·rw[if_neg a6];split
   ·exact hy.mono l
   ·exact hx.mono l
def But(d:Nat):qla Y->qla Y
 | .ok a u=>.ok a { u with drawn:=d }
 | .halt h u=>.halt h { u with drawn:=d }
omit [JunkSet] in
theorem Kf(r:qla Y):But (rwR r).drawn r=r:=by cases r<;>rfl
omit [JunkSet] in
theorem Yr(r:Nat)(o:Obj)(u:qgt)(d:Nat):(setObj r o).run P { u with drawn:=d }=But d ((setObj r o).run P u)/\∀es,(setObj r o).events P { u with drawn:=d } es=(setObj r o).events P u es:=by
 have e:setObj r o=qqz r o (.pure ()):=rfl;rw[e];refine⟨?_,λes=>?_⟩
 ·simp only[qie];show(match u.heap[r]? with | some (.cells ..)=>_ | some _=>_ | none=>_)=But d (match u.heap[r]? with | some (.cells ..)=>_ | some _=>_ | none=>_);cases u.heap[r]? with
  | none=>rfl
  | some x=>cases x<;>rfl
 ·unfold Sem.events;simp only[qlu];cases hh:u.heap[r]? with
  | none=>rfl
  | some x=>cases x<;>rfl
omit [JunkSet] in
theorem qag{k v:qgx}{r:Nat}{es:Array qki}{clock:Nat}{s:Nat->Bool}{u:qgt}(x:Option (Nat × qgx)) :∃d,(jD k v r es clock (λi=>qig (ze es i k) k) x).run P u=But d ((jD k v r es clock (λi=>kw (s i) (wk.cut (u.tape u.drawn wk)) (ze es i k) k) x).run P u) /\∀es',(jD k v r es clock (λi=>qig (ze es i k) k) x).events P u es'=(jD k v r es clock (λi=>kw (s i) (wk.cut (u.tape u.drawn wk)) (ze es i k) k) x).events P u es':=by
 cases x with
 | none=>exact⟨_,(Kf _).symm,λ_=>rfl⟩
 | some x=>
  obtain⟨i,y⟩:=x;simp only[jD,qiw,qm1];have a6:(choose wk).run P u=.ok (wk.cut (u.tape u.drawn wk)) { u with drawn:=u.drawn+1 }:=rfl;have a7:∀es',(choose wk).events P u es'=es':=λes'=>rfl;by_cases hb:qjv 10000 (ze es i k) k=true
  ·have h1:(qig (ze es i k) k).run P u=.ok k u:=by unfold qig;rw[if_pos hb];rfl
   have h2:∀es',(qig (ze es i k) k).events P u es'=es':=λes'=>by unfold qig;rw[if_pos hb];rfl
   rw[h1];simp only[h2];cases hs:s i with
   | true=>
    have h3:(kw true (wk.cut (u.tape u.drawn wk)) (ze es i k) k).run P u=.ok k u:=by unfold kw;rw[if_pos rfl,if_pos hb];rfl
    have h4:∀es',(kw true (wk.cut (u.tape u.drawn wk)) (ze es i k) k).events P u es'=es':=λes'=>by unfold kw;rw[if_pos rfl];rfl
    rw[h3];refine⟨_,(Kf _).symm,λes'=>?_⟩;rw[h4]
   | false=>
    have h3:(kw false (wk.cut (u.tape u.drawn wk)) (ze es i k) k).run P u=.ok k { u with drawn:=u.drawn+1 }:=by
     unfold kw;rw[if_neg (by simp),qiw,a6];simp only[qix,if_pos hb];rfl
    have h4:∀es',(kw false (wk.cut (u.tape u.drawn wk)) (ze es i k) k).events P u es'=es':=λes'=>by
     unfold kw;rw[if_neg (by simp),qm1,a6,a7];rfl
    rw[h3];simp only[h4,qix,qop];have:=Yr (P:=P) r (.map (es.modify i λe=>{ e with key:=k,val:=v }) clock) { u with drawn:=u.drawn+1 } u.drawn;exact⟨u.drawn,this.1,λes'=>this.2 es'⟩
  ·have h1:(qig (ze es i k) k).run P u=.ok (if wk.cut (u.tape u.drawn wk)=0 then k else ze es i k) { u with drawn:=u.drawn+1 }:=by
    unfold qig;rw[if_neg hb,qiw];show((choose wk).run P u).andThen _=_;rw[a6];rfl
   have h2:∀es',(qig (ze es i k) k).events P u es'=es':=λes'=>by
    unfold qig;rw[if_neg hb,qm1];show((choose wk).run P u).evThen _ _=_;rw[a6,show(choose (.extern "map.whichKeyStays" 2)).events P u es'=es' from rfl];rfl
   rw[h1];simp only[h2];cases hs:s i with
   | true=>
    have h3:(kw true (wk.cut (u.tape u.drawn wk)) (ze es i k) k).run P u=.ok (if wk.cut (u.tape u.drawn wk)=0 then k else ze es i k) u:=by unfold kw;rw[if_pos rfl,if_neg hb];rfl
    have h4:∀es',(kw true (wk.cut (u.tape u.drawn wk)) (ze es i k) k).events P u es'=es':=λes'=>by unfold kw;rw[if_pos rfl];rfl
    rw[h3];simp only[h4,qix,qop];have:=Yr (P:=P) r (.map (es.modify i λe=>{ e with key:=if wk.cut (u.tape u.drawn wk)=0 then k else ze es i k,val:=v }) clock) u (u.drawn+1);exact⟨u.drawn+1,this.1,λes'=>this.2 es'⟩
   | false=>
    have h3:(kw false (wk.cut (u.tape u.drawn wk)) (ze es i k) k).run P u=.ok (if wk.cut (u.tape u.drawn wk)=0 then k else ze es i k) { u with drawn:=u.drawn+1 }:=by
     unfold kw;rw[if_neg (by simp),qiw,a6];simp only[qix,if_neg hb];rfl
    have h4:∀es',(kw false (wk.cut (u.tape u.drawn wk)) (ze es i k) k).events P u es'=es':=λes'=>by
     unfold kw;rw[if_neg (by simp),qm1,a6,a7];rfl
    rw[h3];refine⟨_,(Kf _).symm,λes'=>?_⟩;rw[h4]
theorem q06(hT:P.toTables=Q.toTables)(hG:Gl P Z){kt:qh5}(hB:eqB Q 6 kt=true){k k' v v':qgx}(hk:VR Z k k')(hv:VR Z v v'){r j:Nat}(hb:BR Z r j){es es':Array qki}(he:LsR (kb Z) es.toList es'.toList)(clock n0:Nat) :SR Q P (λ_ _ _=>True) (kB kt k es>>=jD k v r es clock (λi=>qig (ze es i k) k)) Z (kB kt k' es'>>=jD k' v' j es' clock (λi=>kw (qjv 10000 (ze es i k) k) n0 (ze es' i k') k')):=by
 have a7:SR Q P q2b (kB kt k es) Z (kB kt k' es') :=
  .bnd (Jf hT _ 6 _ hB hk) λU _ _ l1 _=>Yl hT hB (hk.mono l1) (hG.mono l1) (he.imp λ_ _ x=>x.mono l1)
 refine .bnd a7 λX x x' l2 hr=>?_;have a6:=he.imp λ_ _ x=>kb.mono l2 x;rcases hr with⟨rfl,rfl⟩ | ⟨i,y,y',rfl,rfl,hv2⟩
 ·refine jI (hb.mono l2) (.map _ ?_);simp only[Array.toList_push];exact a6.append (.cons ⟨hk.mono l2,hv.mono l2,rfl⟩ .nil)
 ·have a8:VR X (ze es i k) (ze es' i k'):=by
   have:=a6.get i;simp only[qma] at this;unfold ze;rcases this with⟨e1,e2⟩ | ⟨a,b,e1,e2,hab⟩
   ·rw[e1,e2];exact hk.mono l2
   ·rw[e1,e2];exact hab.key
  refine .bnd (qcp a8 (hk.mono l2) n0) λT key b6 l3 a9=>?_;exact jI (hb.mono (l2.trans l3)) (.map _ (q4b (a6.imp λ_ _ x=>x.mono l3) i λe e' b0=>⟨a9,hv.mono (l2.trans l3),b0.born⟩))
theorem q3m(hT:P.toTables=Q.toTables)(hG:Gl P Z){t:qh5}{base:Nat}{wq w:qgt}(hw:WR Q base Z wq w){m m' k k' v v':qgx}(hm:VR Z m m')(hf:vR ((qiz t m k v).run Q wq)) :SR Q P (λ_ _ _=>True) (qiz t m k v) Z (qiz t m' k' v') \/∃r j kt et es es' clock,m=.map (some r)/\m'=.map (some j)/\BR Z r j/\Q.underlying t=some (.map kt et)/\wq.heap[r]?=some (.map es clock)/\w.heap[j]?=some (.map es' clock)/\LsR (kb Z) es.toList es'.toList:=by
 by_cases a6:∃r j,m=.map (some r)/\m'=.map (some j)/\BR Z r j
 ·obtain⟨r,j,rfl,rfl,hb⟩:=a6;by_cases hu:∃kt et,Q.underlying t=some (.map kt et)
  ·obtain⟨kt,et,hu⟩:=hu;right;have hlt:r<wq.heap.size:=by rw[<- hw.len];exact(qh0.1 hb).1
   have hbad:∀o,wq.heap[r]?=some o->(∀es c,o≠.map es c)->False:=λo ho hn=>by
    have h1:(qkc t).run Q wq=.ok (.map kt et) wq:=by
     show(match Q.underlying t with | some i=>(pure i:Sem TypeDesc) | none=>stuck "no such type").run Q wq=_;rw[hu];rfl
    unfold qiz at hf;rw[qiw,h1] at hf;simp only[qix,qiw] at hf;have h2:(getObj r).run Q wq=.ok o wq\/∃s,(getObj r).run Q wq=.halt (.stuck s) wq:=by
     simp only[getObj,qie,ho];cases o<;>first | exact .inl rfl | exact .inr ⟨_,rfl⟩
    rcases h2 with h2 | ⟨s,h2⟩
    ·rw[h2] at hf;simp only[qix] at hf;cases o<;>first | exact hn _ _ rfl | exact absurd hf (by intro h;cases h)
    ·rw[h2] at hf;exact absurd hf (by intro h;cases h)
   cases ho:wq.heap[r]? with
   | none=>rw[qo4] at ho;omega
   | some o=>
    by_cases hn:∃es c,o=.map es c
    ·obtain⟨es,c,rfl⟩:=hn;rcases hw.obj r j _ hb ho with⟨_,h2,_⟩ | ⟨_,o',h2,h3⟩
     ·cases h2
     ·cases h3 with
      | @map _ es' _ he=>exact⟨r,j,kt,et,es,es',c,rfl,rfl,hb,hu,ho,h2,he⟩
    ·exact(hbad o ho λes c e=>hn ⟨es,c,e⟩).elim
  ·left;refine .bnd (qO hT t) λO d d' l hd=>?_;obtain⟨rfl,hd⟩:=hd;cases d' with
   | map kt et=>exact absurd ⟨kt,et,hd⟩ hu
   | _=>exact qi
 ·left;refine .bnd (qO hT t) λO d d' l hd=>?_;obtain⟨rfl,hd⟩:=hd;cases d' with
  | map kt et=>
   cases hm with
   | mapNil=>exact qz hT (hG.mono l) _
   | map hb=>exact absurd ⟨_,_,rfl,rfl,hb⟩ a6
   | _=>exact qi
  | _=>exact qi
theorem q3o{t kt et:qh5}(hB:YH Q t=true)(hu:Q.underlying t=some (.map kt et)):eqB Q 6 kt=true:=by
 unfold YH at hB;rw[hu] at hB;simp only[qh9] at hB;exact hB.1
theorem Zm(hT:P.toTables=Q.toTables)(hG:Gl P Z){t:qh5}(hB:YH Q t=true){m m' k k' v v':qgx}(hm:VR Z m m')(hk:VR Z k k')(hv:VR Z v v') :SM Q P (λ_ _ _=>True) (qiz t m k v) Z (qiz t m' k' v'):=by
 intro base D wq w hb hw ht hd hf;rcases q3m hT hG hw hm hf with h | ⟨r,j,kt,et,es,es',clock,rfl,rfl,hbr,hu,hq,hp,he⟩
 ·exact h.sm hb hw ht hd hf
 ·have a9:P.underlying t=some (.map kt et):=by rw[km hT];exact hu
  obtain⟨r1,_⟩:=yD (P:=Q) (t:=t) (k:=k) (v:=v) hu hq;obtain⟨r2,e2⟩:=yD (P:=P) (t:=t) (k:=k') (v:=v') a9 hp;rw[r1] at hd hf ⊢;rw[r2,e2]
  let n0:Nat:=match (kB kt k' es').run P w with | .ok _ u=>wk.cut (u.tape u.drawn wk) | .halt _ _=>0
  obtain⟨O,wq1,w1,ev,h1,h2,h3,h4,_,h5,_⟩:=SR.runs (es:=#[⟨.obj j,false,false⟩]) (q06 hT hG (q3o hB hu) hk hv hbr he clock n0) hb hw ht hd hf;have a6:∃d,(kB kt k' es'>>=jD k' v' j es' clock (λi=>qig (ze es' i k') k')).run P w=But d ((kB kt k' es'>>=jD k' v' j es' clock (λi=>kw (qjv 10000 (ze es i k) k) n0 (ze es' i k') k')).run P w) /\
    ∀a7,(kB kt k' es'>>=jD k' v' j es' clock (λi=>qig (ze es' i k') k')).events P w a7=(kB kt k' es'>>=jD k' v' j es' clock (λi=>kw (qjv 10000 (ze es i k) k) n0 (ze es' i k') k')).events P w a7:=by
   simp only[qiw,qm1];have a8:n0=match (kB kt k' es').run P w with | .ok _ u=>wk.cut (u.tape u.drawn wk) | .halt _ _=>0:=rfl
   generalize (kB kt k' es').run P w=res at a8;cases res with
   | ok x u=>
    simp only[qix,qop];rw[a8];obtain⟨d,g1,g2⟩:=qag (P:=P) (k:=k') (v:=v') (r:=j) (es:=es') (clock:=clock) (s:=λi=>qjv 10000 (ze es i k) k) (u:=u) x;exact⟨d,g1,λa7=>g2 _⟩
   | halt x u=>exact⟨u.drawn,rfl,λ_=>rfl⟩
  obtain⟨d,b6,b0⟩:=a6;rw[b6,b0];refine⟨O,wq1,{ w1 with drawn:=d },#[⟨.obj j,false,false⟩]++ev,?_,by unfold Sem.events;exact h2,?_,?_,?_⟩
  ·generalize qie Q _ wq=x at h1;generalize qie P _ w=y at h1;cases h1 with
   | ok _ _ h=>exact .ok _ _ h
   | panic _ _ h=>exact .panic _ _ h
  ·intro e he;rcases qk8.1 he with he | he
   ·simp only[qka,qib] at he;subst he;refine .obj false (hbr.mono h5.le) (Nat.le_of_not_lt λhlt=>?_);obtain⟨c,e,f,h6,_⟩:=hw.low r hlt;rw[hq] at h6;cases h6
   ·exact h3 e he
  ·exact⟨h4.len,h4.nodup,h4.lt,h4.obj,h4.low,h4.env,h4.below,h4.gar⟩
  ·exact⟨h5.le,h5.tape,h5.os,h5.output,h5.size,h5.keep,h5.fresh,h5.mine⟩
theorem SM.u{s s':Sem Unit}(h:SM Q P (λ_ _ _=>True) s Z s'):SM Q P zT (do s;pure .skip) Z (do s';pure .skip):=by
 intro base D wq w hb hw ht hd hf;have e1:∀(p:qgG) (x:Sem Unit) (u:qgt),((do x;pure Next.skip:Sem qlj)).run p u=match x.run p u with | .ok _ u'=>.ok .skip u' | .halt h u'=>.halt h u':=λp x u=>by
  rw[qiw];cases x.run p u<;>rfl
 have e2:∀(p:qgG) (x:Sem Unit) (u:qgt),((do x;pure Next.skip:Sem qlj)).events p u #[]=x.events p u #[]:=λp x u=>by
  rw[qm1];cases x.run p u<;>rfl
 rw[e1] at hd hf ⊢;have a7:(rwR (s.run Q wq)).drawn<=D:=by cases hx:s.run Q wq<;>(rw[hx] at hd;exact hd)
 have a6:vR (s.run Q wq):=by cases hx:s.run Q wq<;>(rw[hx] at hf;exact hf)
 obtain⟨O,wq1,w1,ev,h1,h2,h3,h4,h5⟩:=h hb hw ht a7 a6;refine⟨O,wq1,w1,ev,?_,by rw[e2];exact h2,h3,h4,h5⟩;rw[e1];generalize qie Q _ wq=x at h1;generalize qie P _ w=y at h1;cases h1 with
 | ok _ _ h=>exact .ok _ _ .skip
 | panic _ _ h=>exact .panic _ _ h
theorem q0c(H:Pair Q P){e e':qhF->qgx}(he:∀x,qH Q x->VR Z (e x) (e' x))(hG:Gl P Z)(hn:Inj Z)(hc:∀v,e (.const v)=v){o:qiu}(ho:qM Q o.op):SM Q P zT (qk5 e o) Z (qk5 e' o):=by
 cases hmu:qb2 o.op with
 | false=>exact(q07 H he hG hn hc ho hmu).sm
 | true=>
  obtain⟨dst,op,ty,pos,after,guard⟩:=o;dsimp only at ho hmu;cases ho with
  | mapUpdate h1 h2 h3 h4=>exact SM.u (Zm H.tables hG h1 (he _ h2) (he _ h3) (he _ h4))
  | insert h1 h2 h3 h4=>exact SM.u (Zm H.tables hG h1 (he _ h2) (he _ h3) (he _ h4))
  | _=>cases hmu
end
end
section
structure Duo[JunkSet](Q P:qgG):Prop extends Pair Q P where
 codes:∀c,JunkSet.okc c↔qB Q c
 rfr:Q.follows .rangeFuncRecover=true
 bodies:∀f g,JunkSet.okf f->Q.funcs[f]?=some g->P.funcs[f]?=some g->∀c,g.body=some c->qB Q c
 inits:∀f,JunkSet.okf f->Q.inits.idxOf? f=none
 same:∀f,JunkSet.okg f↔(∃g,Q.funcs[f]?=some g/\P.funcs[f]?=some g)/\Q.inits.idxOf? f=none
def Ko[JunkSet](Q P:qgG)(Z:Ren)(g g':qgy):Prop :=
 (Q.funcs[g.frame.fn]?=P.funcs[g.frame.fn]?/\kJ Q P Z g g') \/
 ∃f k a a' c c' cs cs',Q.funcs[f]?≠P.funcs[f]?/\JunkSet.okf f/\g={ frame:=qhy Q f a k,callers:=c::cs,status:=.running,dying:=none }/\g'={ frame:=qhy P f a' k,callers:=c'::cs',status:=.running,dying:=none } /\
  AsR Z a a'/\qy Q P Z c c'/\LsR (qy Q P Z) cs cs'/\(c.mode≠.run\/∀x l,c.todo≠.code x::l)
theorem Ko.k[JunkSet]{Q P:qgG}{Z:Ren}{g g':qgy}(h:kJ Q P Z g g'):Ko Q P Z g g' :=
 .inl ⟨by obtain⟨x,h1,h2⟩:=h.frame.same;rw[h1,h2],h⟩
def kT[JunkSet](Q P:qgG)(base D:Nat)(Z:Ren)(wq w:qgt)(r r':qjo):Prop :=
 ∀gq' wq' esq,r=.go gq' wq' esq->wq'.drawn<=D->gq'.status=.running->gq'.dying=none ->
  ∃O g' w' es,r'=.go g' w' es/\Ko Q P O gq' g'/\WR Q base O wq' w'/\True/\Eff base Z O w w'/\(∀e∈es,kL base O e)/\True/\wq.drawn<=wq'.drawn
section
variable[JunkSet]{Q P:qgG}(H:Duo Q P){Z:Ren}{base D:Nat}{wq w:qgt}
theorem Duo.gsize(H:Duo Q P):P.globals.size=Q.globals.size:=by rw[H.tables]
theorem qbm(H:Duo Q P){f:qi8}(hf:JunkSet.okf f)(hs:Q.funcs[f]?=P.funcs[f]?){a a':Array qgx}(ha:AsR Z a a')(k:CallKind):qy Q P Z (qhy Q f a k) (qhy P f a' k):=by
 obtain⟨fq,fp,h1,h2,h3,_⟩:=H.funcs f hf;have e:fp=fq:=by rw[h1,h2] at hs;exact(qkk hs).symm
 subst e;refine⟨rfl,⟨fp,h1,h2⟩,H.inits f hf,?_,?_,.nil,.run,rfl,.inl ⟨rfl,rfl⟩⟩
 ·unfold qhy;dsimp only;rw[h1,h2,<- ha.1];refine ha.append ⟨rfl,λi x y hx hy=>?_⟩;rw[Array.getElem?_replicate] at hx hy;split at hx
  ·rename_i hlt
   rw[if_pos hlt] at hy;cases hx;cases hy;exact ko Z
  ·cases hx
 ·unfold qhy;dsimp only;rw[h1,h2];cases hb:fp.body with
  | none=>rw[hb] at h3;cases h3
  | some c=>simp only[qmp,hb,qgD];exact .cons (.code (H.bodies f fp hf h1 h2 c hb)) .nil
theorem enterK(H:Duo Q P){f:qi8}(hf:JunkSet.okf f){a a':Array qgx}(ha:AsR Z a a'){c c':qgH}(hc:qy Q P Z c c'){cs cs':List qgH}(hcs:LsR (qy Q P Z) cs cs')(hm:c.mode≠.run\/∀x l,c.todo≠.code x::l)(k:CallKind):Ko Q P Z { frame:=qhy Q f a k,callers:=c::cs,status:=.running,dying:=none } { frame:=qhy P f a' k,callers:=c'::cs',status:=.running,dying:=none }:=by
 by_cases hs:Q.funcs[f]?=P.funcs[f]?
 ·exact .k ⟨qbm H hf hs ha k,.cons hc hcs,rfl,rfl,rfl,rfl⟩
 ·exact .inr ⟨f,k,a,a',c,c',cs,cs',hs,hf,rfl,rfl,ha,hc,hcs,hm⟩
theorem qad(H:Duo Q P){l l':Nat}{f:qi8}(hs:∃g,Q.funcs[f]?=some g/\P.funcs[f]?=some g)(hi:Q.inits.idxOf? f=none){t t':Array qgx}{a b:qj9}(hb:BR Z l l')(ht:AsR Z t t')(ha:qB Q a)(hc:qB Q b)(k:CallKind) :qy Q P Z (Frame.round l f t a b k) (Frame.round l' f t' a b k) :=
 ⟨rfl,hs,hi,ht,.cons (.code ha) (.cons .beginRound (.cons (.code hc) .nil)),.nil,.run,rfl,.inr ⟨l,l',rfl,rfl,hb⟩⟩
theorem q6f.world{Y M:Type}{R:Rel Y M}{r:qla Y}{a6:qgt}{r':qla M}{w2:qgt}(h:q6f R Z r a6 r' w2):rwR r=a6:=by
 cases h<;>rfl
theorem zj(hw:WR Q base Z wq w)(ht:zB D wq w){g g':qgy}(h:g.status=.running->g.dying=none->kJ Q P Z g g'):kT Q P base D Z wq w (.go g wq) (.go g' w):=by
 intro gq' wq' esq e hD hs hd;cases e;exact⟨Z,g',w,#[],rfl,.k (h hs hd),hw,trivial,.refl base w,by simp,trivial,qgw _⟩
theorem zD{o:Outcome}{u:qgt}{es:Array qim}{r':qjo}:kT Q P base D Z wq w (.ended o u es) r':=by
 intro _ _ _ e;cases e
theorem xM{f f':qgH}(hf:qy Q P Z f f'):∀{cs cs':List qgH},LsR (qy Q P Z) cs cs' ->(qhi f cs=none/\qhi f' cs'=none)\/∃v v' k k',qhi f cs=some (v,k)/\qhi f' cs'=some (v',k')/\VR Z v v'/\LsR (qy Q P Z) k k':=by
 intro cs cs' h;induction h generalizing f f' with
 | nil=>exact .inl ⟨by unfold qhi;split<;>simp_all,by unfold qhi;split<;>simp_all⟩
 | @cons c c' cs cs' hc hcs ih=>
  unfold qhi;rw[hf.kind];cases hk:f.kind with
  | deferred=>
   dsimp only;have hm:=hc.mode;cases hmc:c.mode with
   | run=>rw[hmc] at hm;cases hm':c'.mode<;>rw[hm'] at hm<;>cases hm;exact .inl ⟨rfl,rfl⟩
   | returning=>rw[hmc] at hm;cases hm':c'.mode<;>rw[hm'] at hm<;>cases hm;exact .inl ⟨rfl,rfl⟩
   | panicking l=>
    rw[hmc] at hm;cases hm':c'.mode with
    | run=>rw[hm'] at hm;cases hm
    | returning=>rw[hm'] at hm;cases hm
    | panicking l'=>
     rw[hm'] at hm;cases hm with
     | panicking hl=>
      cases hl with
      | nil=>exact .inl ⟨rfl,rfl⟩
      | @cons p p' l l' hp hl=>
       obtain⟨v,r,g⟩:=p;obtain⟨v',r',g'⟩:=p';obtain⟨h1,h2,h3⟩:=hp;dsimp only at h1 h2 h3;subst h2;subst h3;cases r'<;>cases g'<;>first
        | exact .inl ⟨rfl,rfl⟩
        | exact .inr ⟨v,v',_,_,rfl,rfl,h1,.cons ⟨hc.fn,hc.same,hc.okf,hc.tmps,hc.todo,hc.defers,.panicking (.cons ⟨h1,rfl,rfl⟩ hl),hc.kind,hc.round⟩ hcs⟩
  | wrapped=>
   dsimp only;rcases ih hc with⟨e1,e2⟩ | ⟨v,v',k,k',e1,e2,hv,hks⟩
   ·rw[e1,e2];exact .inl ⟨rfl,rfl⟩
   ·rw[e1,e2];exact .inr ⟨v,v',_,_,rfl,rfl,hv,.cons hc hks⟩
  | _=>exact .inl ⟨rfl,rfl⟩
theorem zd{p:qgG}{fr:qgH}{cs:List qgH}{m:String}{u u':qgt}{g:qgy}{es:Array qim}(h:qnu p fr cs none m u=.go g u' es):g.dying≠none:=by
 unfold qnu at h;dsimp only at h;generalize (qie p _ u:qla (List (ByteArray × String) × List ByteArray))=r at h;cases r with
 | ok a w1=>
  obtain⟨t,a6⟩:=a;simp only[dieOf,qkC] at h;rw[<- h.1];simp
 | halt x w1=>cases x<;>simp at h
theorem j8{es:Array qim}{s:qjo}{g:qgy}{u:qgt}{e:Array qim}(h:qi9 es s=.go g u e):∃e0,s=.go g u e0/\e=es++e0:=by
 cases s<;>simp only[qi9,qkC] at h<;>first | (obtain⟨rfl,rfl,rfl⟩:=h;exact⟨_,rfl,rfl⟩) | cases h
theorem SR.ends{Y M:Type}{R:Rel Y M}{s:Sem Y}{s':Sem M}(hs:SR Q P R s Z s')(hb:base<=Z.length)(hw:WR Q base Z wq w)(hf:vR (s.run Q wq)) :(∃a u,s.run Q wq=.ok a u)\/∃v u,s.run Q wq=.halt (.panic v) u:=by
 have a7:WR Q base Z wq { w with tape:=λn q=>wq.tape (n - w.drawn+wq.drawn) q }:=⟨hw.len,hw.nodup,hw.lt,hw.obj,hw.low,hw.env,hw.below,hw.gar⟩;obtain⟨O,a8,w2,a9,a6,_⟩:=SR.runs (es:=#[]) (D:=(rwR (s.run Q wq)).drawn) hs hb a7 (λn q _=>by
  show wq.tape (wq.drawn+n) q=wq.tape (w.drawn+n - w.drawn+wq.drawn) q;rw[show w.drawn+n - w.drawn+wq.drawn=wq.drawn+n by omega]) (qgw _) hf
 generalize s.run Q wq=r at a6;generalize (qie P s' _)=r' at a6;cases a6 with
 | ok _ _ _=>exact .inl ⟨_,_,rfl⟩
 | panic _ _ _=>exact .inr ⟨_,_,rfl⟩
theorem SM.ends{Y M:Type}{R:Rel Y M}{s:Sem Y}{s':Sem M}(hs:SM Q P R s Z s')(hb:base<=Z.length)(hw:WR Q base Z wq w)(hf:vR (s.run Q wq)) :(∃a u,s.run Q wq=.ok a u)\/∃v u,s.run Q wq=.halt (.panic v) u:=by
 have a7:WR Q base Z wq { w with tape:=λn q=>wq.tape (n - w.drawn+wq.drawn) q }:=⟨hw.len,hw.nodup,hw.lt,hw.obj,hw.low,hw.env,hw.below,hw.gar⟩;obtain⟨O,a8,w2,a9,a6,_⟩:=hs (D:=(rwR (s.run Q wq)).drawn) hb a7 (λn q _=>by
  show wq.tape (wq.drawn+n) q=wq.tape (w.drawn+n - w.drawn+wq.drawn) q;rw[show w.drawn+n - w.drawn+wq.drawn=wq.drawn+n by omega]) (qgw _) hf
 generalize s.run Q wq=r at a6;generalize (qie P s' _)=r' at a6;cases a6 with
 | ok _ _ _=>exact .inl ⟨_,_,rfl⟩
 | panic _ _ _=>exact .inr ⟨_,_,rfl⟩
theorem Qn(H:Duo Q P)(hb:base<=Z.length)(hw:WR Q base Z wq w)(ht:zB D wq w){f f':qgH}(hf:qy Q P Z f f'){cs cs':List qgH}(hcs:LsR (qy Q P Z) cs cs')(c3:∀x l,f.todo≠.code x::l){s s':Sem qlj}(hs:SM Q P zT s Z s'):kT Q P base D Z wq w (qik Q true f cs none s wq) (qik P true f' cs' none s' w):=by
 intro gq' wq' esq a7 hD hst b9;have d9:(∀d r s k,f.todo≠.call d true r s::k)/\∀d r s k,f'.todo≠.call d true r s::k:=by
  have:=hf.todo;generalize f.todo=l at this;generalize f'.todo=l' at this;cases this with
  | nil=>exact⟨by simp,by simp⟩
  | cons hx _=>cases hx<;>exact⟨by simp,by simp⟩
 obtain⟨e8,e7⟩:=d9;unfold qik at a7;simp only[if_true,qhq] at a7;have b8:vR (s.run Q wq):=by
  cases hr:s.run Q wq with
  | ok a w1=>trivial
  | halt h w1=>
   rw[hr] at a7;cases h with
   | panic v=>rfl
   | goexit=>rfl
   | unsupported u=>cases u<;>first | rfl | (simp[qi9] at a7;done)
   | blocked=>simp only[qi9,qkC] at a7;rw[<- a7.1] at hst;cases hst
   | waiting=>simp only[qi9,qkC] at a7;rw[<- a7.1] at hst;cases hst
   | throw m=>simp only[qi9,qn8,dieOf,qkC] at a7;rw[<- a7.1] at b9;cases b9
   | fatal m=>
    obtain⟨e0,h0,_⟩:=j8 a7;exact absurd b9 (zd h0)
   | _=>(simp[qi9] at a7;done)
 obtain⟨e0,h0,_⟩:=j8 a7;have e9:∀{fr:qgH} {u:qgt},(qp7 { frame:=fr,callers:=cs,status:=.running,dying:=none } u:qjo)=.go gq' wq' e0->u=wq':=λh=>by cases h;rfl
 have e6:(rwR (s.run Q wq)).drawn<=D:=by
  cases hr:s.run Q wq with
  | ok a w1=>
   rw[hr] at h0;have:w1=wq':=by
    cases a with
    | recover=>
     dsimp only at h0
     repeat' split at h0
     all_goals(cases h0;rfl)
    | callThen d r v b=>
     dsimp only at h0
     repeat' split at h0
     all_goals(cases h0;rfl)
    | row r a=>
     dsimp only at h0
     repeat' split at h0
     all_goals(cases h0;rfl)
    | stack r a=>
     dsimp only at h0
     repeat' split at h0
     all_goals(cases h0;rfl)
    | spawn d=>
     exfalso;dsimp only at h0
     repeat' split at h0
     all_goals first
      | (simp only[qn8,dieOf,qkC] at h0;rw[<- h0.1] at b9;cases b9;done)
      | (cases h0;done)
    | _=>first | (cases h0;rfl) | cases h0
   subst this;exact hD
  | halt h w1=>
   rcases hs.ends hb hw b8 with⟨a,u,e⟩ | ⟨v,u,e⟩
   ·rw[hr] at e;cases e
   ·rw[hr] at e;cases e;rw[hr] at h0;cases h0;exact hD
 obtain⟨O,b7,w2,a8,b6,hes,e5,d8,d5⟩:=hs hb hw ht e6 b8;have hL:=d5.le;have e4:wq.drawn<=b7.drawn:=b6.world ▸ vE Q s wq;have b0:LsR (qy Q P O) cs cs':=hcs.imp λ_ _ k=>k.mono hL;have a6:=hf.mono hL;have c8:s'.events P w #[]=a8:=hes;have d7:(f'.kind == CallKind.early)=(f.kind == CallKind.early):=by rw[hf.kind]
 have a9:∀(es:Array qim),(es=#[]\/es=a8)->∀e∈seen P f'.fn (if(f'.kind == CallKind.early)=true then #[] else es),e∈a8:=by
  intro es he e hx;have:=ku _ _ _ e hx;split at this
  ·simp at this
  ·rcases he with rfl | rfl
   ·simp at this
   ·exact this
 have fin:∀{g g':qgy} {es:Array qim} {r':qjo},r'=.go g' w2 es->(∀e∈es,e∈a8)->g=gq'->b7=wq'->(gq'.status=.running->Ko Q P O g g') ->
   ∃O g'' w' es',r'=.go g'' w' es'/\Ko Q P O gq' g''/\WR Q base O wq' w'/\True/\Eff base Z O w w'/\(∀e∈es',kL base O e)/\True/\wq.drawn<=wq'.drawn:=by
  intro g g' es r' e0 c9 e1 e2 hg;subst e1;subst e2;exact⟨O,g',w2,es,e0,hg hst,d8,trivial,d5,λe he=>e5 e (c9 e he),trivial,e4⟩
 unfold qik;simp only[if_true,qhq];rw[c8];generalize hr:s.run Q wq=r at h0 b6;generalize hr':s'.run P w=r' at b6;cases b6 with
 | ok b7 w2 hN=>
  cases hN with
  | value hv=>
   cases h0;exact fin rfl (by simpa using a9 a8 (.inr rfl)) rfl rfl λ_=>.k ⟨a6.finish hv,b0,rfl,rfl,rfl,rfl⟩
  | skip=>
   cases h0;exact fin rfl (by simpa using a9 a8 (.inr rfl)) rfl rfl λ_=>.k ⟨a6.finish (ko O),b0,rfl,rfl,rfl,rfl⟩
  | @enter fn a a' hok ha=>
   cases h0;refine fin rfl (by simpa using a9 a8 (.inr rfl)) rfl rfl λ_=>enterK H hok ha a6 b0 (.inr c3) _
  | round fn hb1 ht1 hsm ha hc=>
   cases h0;refine fin rfl (by simpa using a9 a8 (.inr rfl)) rfl rfl λ_=>.k ⟨?_,.cons a6 b0,rfl,rfl,rfl,rfl⟩;exact qad H ((H.same _).1 hsm).1 ((H.same _).1 hsm).2 hb1 ht1 ((H.codes _).1 ha) ((H.codes _).1 hc) _
  | defer hd=>
   cases h0;exact fin rfl (by simpa using a9 a8 (.inr rfl)) rfl rfl λ_=>.k ⟨qy.finish (f:={ f with defers:=_::f.defers }) (f':={ f' with defers:=_::f'.defers }) ⟨a6.fn,a6.same,a6.okf,a6.tmps,a6.todo,.cons hd a6.defers,a6.mode,a6.kind,a6.round⟩ (ko O),b0,rfl,rfl,rfl,rfl⟩
  | recover=>
   have hrf:P.follows .rangeFuncRecover=true:=by
    have:P.toTables.follows .rangeFuncRecover=Q.toTables.follows .rangeFuncRecover:=by rw[H.tables]
    exact this.trans H.rfr
   have key:∀{X X':Option (qgx × List qgH)},X=qhi f cs->X'=qhi f' cs' ->
     (match X with
      | some (v,callers)=>qp7 { frame:=f.finish v,callers,status:=.running,dying:=none } b7
      | none=>.go { frame:=f.finish .nilIface,callers:=cs,status:=.running,dying:=none } b7)=.go gq' wq' e0 ->
     ∃O g'' w' es',qi9 (seen P f'.fn (if(f'.kind == CallKind.early)=true then #[] else a8)) (match X' with
      | some (v,callers)=>qp7 { frame:=f'.finish v,callers,status:=.running,dying:=none } w2
      | none=>.go { frame:=f'.finish .nilIface,callers:=cs',status:=.running,dying:=none } w2)=.go g'' w' es'/\Ko Q P O gq' g''/\WR Q base O wq' w'/\True/\Eff base Z O w w'/\(∀e∈es',kL base O e)/\True/\wq.drawn<=wq'.drawn:=by
    intro X X' hX d6 h0;rcases xM a6 b0 with⟨t1,t2⟩ | ⟨v,v',k,k',t1,t2,hv,hks⟩
    ·rw[hX,t1] at h0;rw[d6,t2];cases h0;exact fin rfl (by simpa using a9 a8 (.inr rfl)) rfl rfl λ_=>.k ⟨a6.finish .nilIface,b0,rfl,rfl,rfl,rfl⟩
    ·rw[hX,t1] at h0;rw[d6,t2];cases h0;exact fin rfl (by simpa using a9 a8 (.inr rfl)) rfl rfl λ_=>.k ⟨a6.finish hv,hks,rfl,rfl,rfl,rfl⟩
   dsimp only at h0 ⊢;rcases a6.round with⟨r1,r2⟩ | ⟨i,j,r1,r2,_⟩
   ·rw[r1] at h0;rw[r2];exact key rfl rfl h0
   ·rw[r1] at h0;rw[r2];exact key (by simp[H.rfr]) (by simp[hrf]) h0
 | panic b7 w2 hv=>
  cases h0;exact fin rfl (by simpa using a9 a8 (.inr rfl)) rfl rfl λ_=>.k ⟨a6.raise (.cons ⟨hv,rfl,rfl⟩ .nil),b0,rfl,rfl,rfl,rfl⟩
end
end
section
section
variable[JunkSet]{Q P:qgG}{Z:Ren}{base D:Nat}{wq w:qgt}
def ky:Target->Bool
 | .nil=>true
 | _=>false
def kx:FrameMode->Bool
 | .panicking _=>true
 | _=>false
theorem q1l(H:Duo Q P)(hb:base<=Z.length)(hw:WR Q base Z wq w)(hG:Gl P Z)(ht:zB D wq w){f f':qgH}(hf:qy Q P Z f f'){cs cs':List qgH}(hcs:LsR (qy Q P Z) cs cs')(d5:f.mode≠.run){d d':qiE}(hd:yO Z d d'):kT Q P base D Z wq w (qj0 Q f cs none d wq) (qj0 P f' cs' none d' w):=by
 intro gq' wq' esq a9 hD hst c8;have hs:SR Q P zT (invoke d.target d.args) Z (invoke d'.target d'.args):=vA H.toPair hG hd;unfold qj0 at a9 ⊢;have c9:(ky d'.target && kx f'.mode)=(ky d.target && kx f.mode):=by
  have h2:=hf.mode;rcases hd with⟨h1,_⟩ | ⟨h1,_,n,c,h3⟩
  case bound=>rw[h1,h3];rfl
  generalize d.target=t at h1;generalize d'.target=t' at h1;generalize f.mode=m at h2;generalize f'.mode=m' at h2;cases h1<;>cases h2<;>rfl
 generalize invoke d.target d.args=s at hs a9;generalize invoke d'.target d'.args=s' at hs ⊢;change (if(ky d.target && kx f.mode)=true then _ else _)=_ at a9;show ∃O g' w' es,(if(ky d'.target && kx f'.mode)=true then _ else _)=qp7 g' w' es/\_;by_cases hc:(ky d.target && kx f.mode)=true
 ·rw[if_pos hc] at a9;cases a9
 ·rw[if_neg hc] at a9;rw[if_neg (by rw[c9];exact hc)];simp only[qhq] at a9 ⊢;obtain⟨e0,h0,_⟩:=j8 a9;have b9:vR (s.run Q wq):=by
   cases hr:s.run Q wq with
   | ok a w1=>trivial
   | halt h w1=>
    rw[hr] at h0;cases h with
    | panic v=>rfl
    | goexit=>rfl
    | unsupported u=>cases u<;>first | rfl | (cases h0;done)
    | blocked=>cases h0;cases hst
    | waiting=>cases h0;cases hst
    | throw m=>simp only[qn8,dieOf,qkC] at h0;rw[<- h0.1] at c8;cases c8
    | fatal m=>exact absurd c8 (zd h0)
    | _=>(cases h0;done)
  have e6:(rwR (s.run Q wq)).drawn<=D:=by
   cases hr:s.run Q wq with
   | ok a w1=>
    rw[hr] at h0;have:w1=wq':=by
     cases a with
     | recover=>
      dsimp only at h0
      repeat' split at h0
      all_goals(cases h0;rfl)
     | coroswitch c e=>cases e<;>cases h0
     | alone on v=>cases on<;>cases h0
     | _=>first | (cases h0;rfl) | cases h0
    subst this;exact hD
   | halt h w1=>
    rcases hs.ends hb hw b9 with⟨a,u,e⟩ | ⟨v,u,e⟩
    ·rw[hr] at e;cases e
    ·rw[hr] at e;cases e;rw[hr] at h0;cases h0;exact hD
  obtain⟨O,b8,w2,b7,b6,hes,e5,d9,ht2,d8,e8⟩:=SR.runs (es:=#[]) hs hb hw ht e6 b9;have hL:=d8.le;have e4:wq.drawn<=b8.drawn:=b6.world ▸ vE Q s wq;have a7:LsR (qy Q P O) cs cs':=hcs.imp λ_ _ k=>k.mono hL;have a8:=hf.mono hL;have d6:s'.events P w #[]=b7:=by
   show(s'.runT P w #[]).2=b7;rw[hes];simp
  have a6:∀e∈seen P f'.fn b7,e∈b7:=λe he=>ku _ _ _ e he;have fin:∀{g g':qgy} {es:Array qim} {r':qjo},r'=.go g' w2 es->(∀e∈es,e∈b7)->g=gq'->b8=wq'->(gq'.status=.running->Ko Q P O g g') ->
    ∃O g'' w' es',r'=.go g'' w' es'/\Ko Q P O gq' g''/\WR Q base O wq' w'/\True/\Eff base Z O w w'/\(∀e∈es',kL base O e)/\True/\wq.drawn<=wq'.drawn:=by
   intro g g' es r' e0 d7 e1 e2 hg;subst e1;subst e2;exact⟨O,g',w2,es,e0,hg hst,d9,trivial,d8,λe he=>e5 e (d7 e he),trivial,e4⟩
  rw[d6];generalize hr:s.run Q wq=r at h0 b6;generalize hr':s'.run P w=r' at b6;cases b6 with
  | ok b8 w2 hN=>
   cases hN with
   | value hv=>
    cases h0;exact fin rfl (by simpa using a6) rfl rfl λ_=>.k ⟨a8,a7,rfl,rfl,rfl,rfl⟩
   | skip=>
    cases h0;exact fin rfl (by simpa using a6) rfl rfl λ_=>.k ⟨a8,a7,rfl,rfl,rfl,rfl⟩
   | @enter fn a a' hok ha=>
    cases h0;exact fin rfl (by simpa using a6) rfl rfl λ_=>enterK H hok ha a8 a7 (.inl d5) _
   | round fn hb1 ht1 hsm ha hc=>
    cases h0;exact fin rfl (by simpa using a6) rfl rfl λ_=>.k ⟨qad H ((H.same _).1 hsm).1 ((H.same _).1 hsm).2 hb1 ht1 ((H.codes _).1 ha) ((H.codes _).1 hc) _,.cons a8 a7,rfl,rfl,rfl,rfl⟩
   | defer hd=>
    cases h0;exact fin rfl (by simpa using a6) rfl rfl λ_=>.k ⟨a8,a7,rfl,rfl,rfl,rfl⟩
   | recover=>
    have hm:=a8.mode;have c3:=xM a8 a7;dsimp only at h0 ⊢;generalize qhi f cs=X at h0 c3;generalize qhi f' cs'=X' at c3 ⊢;generalize hmm:f.mode=m at h0 hm;generalize e7:f'.mode=m' at hm ⊢;have b0:qp7 { frame:=f,callers:=cs,status:=.running,dying:=none } b8=.go gq' wq' e0->∀{r':qjo},r'=qi9 (seen P f'.fn b7) (.go { frame:=f',callers:=cs',status:=.running,dying:=none } w2) ->
      ∃O g'' w' es',r'=.go g'' w' es'/\Ko Q P O gq' g''/\WR Q base O wq' w'/\True/\Eff base Z O w w'/\(∀e∈es',kL base O e)/\True/\wq.drawn<=wq'.drawn:=by
     intro h r' hr';cases h;exact fin hr' (by simpa using a6) rfl rfl λ_=>.k ⟨a8,a7,rfl,rfl,rfl,rfl⟩
    cases hm with
    | returning=>
     rcases c3 with⟨rfl,rfl⟩ | ⟨v,v',k,k',rfl,rfl,hv,hks⟩
     ·exact b0 h0 rfl
     ·cases h0;exact fin rfl (by simpa using a6) rfl rfl λ_=>.k ⟨a8,hks,rfl,rfl,rfl,rfl⟩
    | run=>exact b0 h0 rfl
    | panicking hl=>exact b0 h0 rfl
  | panic b8 w2 hv=>
   cases h0;exact fin rfl (by simpa using a6) rfl rfl λ_=>.k ⟨a8.raise (.cons ⟨hv,rfl,rfl⟩ .nil),a7,rfl,rfl,rfl,rfl⟩
theorem Zn{Y M:Type}{R:Rel Y M}(hb:base<=Z.length)(hw:WR Q base Z wq w)(ht:zB D wq w)(d8:wq.drawn<=D){s:Sem Y}{s':Sem M}(hs:SR Q P R s Z s')(b6:(rwR (s.run Q wq)).drawn=wq.drawn){K:qla Y->qjo}{K':qla M->qjo}{fn c8:qi8}(hbad:∀h u g u' e,odd h=false->K (.halt h u)=.go g u' e->g.status=.running->g.dying=none->False)(hK:∀O r wq1 r' w1,q6f R O r wq1 r' w1->Le Z O->base<=O.length->WR Q base O wq1 w1->zB D wq1 w1->wq1.drawn<=D->kT Q P base D O wq1 w1 (K r) (K' r')) :kT Q P base D Z wq w (qi9 (seen Q fn (s.events Q wq #[])) (K (s.run Q wq))) (qi9 (seen P c8 (s'.events P w #[])) (K' (s'.run P w))):=by
 intro gq' wq' esq d6 hD hst c3;obtain⟨e0,h0,_⟩:=j8 d6;have a8:vR (s.run Q wq):=by
  cases hr:s.run Q wq with
  | ok a w1=>trivial
  | halt h w1=>
   rw[hr] at h0;cases ho:odd h with
   | true=>exact ho
   | false=>exact(hbad h w1 _ _ _ ho h0 hst c3).elim
 obtain⟨O,b0,w2,a9,a6,hes,d7,d5,ht2,b9,e7⟩:=SR.runs (es:=#[]) hs hb hw ht (by rw[b6];exact d8) a8;have hL:=b9.le;have e5:b0.drawn=wq.drawn:=by rw[<- a6.world];exact b6
 have b8:s'.events P w #[]=a9:=by
  show(s'.runT P w #[]).2=a9;rw[hes];simp
 obtain⟨V,g',w',es',e1,hg,c9,e6,a7,b7,e4,d9⟩:=hK O _ b0 _ w2 a6 hL (qgE hb hL.len) d5 ht2 (by omega) gq' wq' e0 h0 hD hst c3;refine⟨V,g',w',seen P c8 a9++es',?_,hg,c9,trivial,b9.trans hb a7,?_,trivial,by omega⟩
 ·rw[b8,e1];rfl
 ·intro e he;rcases qk8.1 he with he | he
  ·exact(d7 e (ku _ _ _ e he)).mono a7.le
  ·exact b7 e he
theorem Zo(hw:WR Q base Z wq w)(ht:zB D wq w){f f':qgH}(hf:qy Q P Z f f'){cs cs':List qgH}(hcs:LsR (qy Q P Z) cs cs'){v v':qgx}(hv:VR Z v v')(b:Bool) :kT Q P base D Z wq w (qj4 Q true f cs none v wq) (qj4 P b f' cs' none v' w):=by
 cases hcs with
 | nil=>
  intro gq' wq' esq a7 hD hst a8;unfold qj4 at a7;simp only[hf.okf] at a7;cases hk:f.kind<;>rw[hk] at a7<;>cases a7
 | @cons c c' cs cs' hc hcs=>
  unfold qj4;dsimp only;rw[hf.kind];have plain:kT Q P base D Z wq w (.go { frame:=c.finish v,callers:=cs,status:=.running,dying:=none } wq) (.go { frame:=c'.finish v',callers:=cs',status:=.running,dying:=none } w) :=
   zj hw ht λ_ _=>⟨hc.finish hv,hcs,rfl,rfl,rfl,rfl⟩
  cases f.kind with
  | normal=>exact plain
  | wrapped=>exact plain
  | early=>exact zj hw ht λ_ _=>⟨hc,hcs,rfl,rfl,rfl,rfl⟩
  | deferred=>
   refine zj hw ht λ_ _=>⟨?_,hcs,rfl,rfl,rfl,rfl⟩;dsimp only;have hm:=hc.mode;have a6:∀{l l':List qlC},LsR (ZK Z) l l'->LsR (ZK Z) (l.dropWhile (!·.goexit)) (l'.dropWhile (!·.goexit)):=by
    intro l l' h;induction h with
    | nil=>exact .nil
    | @cons p p' l l' hp hl ih=>
     simp only[qpk];rw[hp.goexit];split
     ·exact ih
     ·exact .cons hp hl
   cases hmc:c.mode with
   | run=>rw[hmc] at hm;cases hm':c'.mode<;>rw[hm'] at hm<;>cases hm;exact hc
   | returning=>rw[hmc] at hm;cases hm':c'.mode<;>rw[hm'] at hm<;>cases hm;exact hc
   | panicking l=>
    rw[hmc] at hm;cases hm':c'.mode with
    | run=>rw[hm'] at hm;cases hm
    | returning=>rw[hm'] at hm;cases hm
    | panicking l'=>
     rw[hm'] at hm;cases hm with
     | panicking hl=>
      cases hl with
      | nil=>exact hc
      | @cons p p' l l' hp hl=>
       obtain⟨v,r,g⟩:=p;obtain⟨v',r',g'⟩:=p';obtain⟨h1,h2,h3⟩:=hp;dsimp only at h1 h2 h3;subst h2;cases r' with
       | false=>exact hc
       | true=>
        dsimp only;have:=a6 hl;generalize l.dropWhile (!·.goexit)=k at this;generalize l'.dropWhile (!·.goexit)=k' at this;cases this with
        | nil=>exact⟨hc.fn,hc.same,hc.okf,hc.tmps,hc.todo,hc.defers,.returning,hc.kind,hc.round⟩
        | cons hp hl=>exact⟨hc.fn,hc.same,hc.okf,hc.tmps,hc.todo,hc.defers,.panicking (.cons hp hl),hc.kind,hc.round⟩
  | report=>
   refine zj hw ht λ_ _=>⟨?_,hcs,rfl,rfl,rfl,rfl⟩;dsimp only;have hm:=hc.mode;have a6:∀{l l':List qlC},LsR (ZK Z) l l'->LsR (ZK Z) (l.dropWhile (!·.goexit)) (l'.dropWhile (!·.goexit)):=by
    intro l l' h;induction h with
    | nil=>exact .nil
    | @cons p p' l l' hp hl ih=>
     simp only[qpk];rw[hp.goexit];split
     ·exact ih
     ·exact .cons hp hl
   cases hmc:c.mode with
   | run=>rw[hmc] at hm;cases hm':c'.mode<;>rw[hm'] at hm<;>cases hm;exact hc
   | returning=>rw[hmc] at hm;cases hm':c'.mode<;>rw[hm'] at hm<;>cases hm;exact hc
   | panicking l=>
    rw[hmc] at hm;cases hm':c'.mode with
    | run=>rw[hm'] at hm;cases hm
    | returning=>rw[hm'] at hm;cases hm
    | panicking l'=>
     rw[hm'] at hm;cases hm with
     | panicking hl=>
      cases hl with
      | nil=>exact hc
      | @cons p p' l l' hp hl=>
       obtain⟨v,r,g⟩:=p;obtain⟨v',r',g'⟩:=p';obtain⟨h1,h2,h3⟩:=hp;dsimp only at h1 h2 h3;subst h2;cases r' with
       | false=>exact hc
       | true=>
        dsimp only;have:=a6 hl;generalize l.dropWhile (!·.goexit)=k at this;generalize l'.dropWhile (!·.goexit)=k' at this;cases this with
        | nil=>exact⟨hc.fn,hc.same,hc.okf,hc.tmps,hc.todo,hc.defers,.returning,hc.kind,hc.round⟩
        | cons hp hl=>exact⟨hc.fn,hc.same,hc.okf,hc.tmps,hc.todo,hc.defers,.panicking (.cons hp hl),hc.kind,hc.round⟩
theorem QV(H:Duo Q P)(hG:Gl P Z)(fn:Func){t t':Array qgx}(h:AsR Z t t'):SR Q P VR (qk1 fn t) Z (qk1 fn t'):=by
 unfold qk1;refine .bnd (R:=AsR) ?_ λO a b l hab=>?_
 ·rw[qkv,qkv];have a6:∀(rs:List ResultVar) (O:Ren),Le Z O->SR Q P (λV=>LsR (VR V)) (rs.mapM fun
    | .tmp x=>pure (t.getD x qgz)
    | .cell a ty=>do qq0 ty (<- qqg (t.getD a qgz))) O (rs.mapM fun
    | .tmp x=>pure (t'.getD x qgz)
    | .cell a ty=>do qq0 ty (<- qqg (t'.getD a qgz))):=by
   intro rs;induction rs with
   | nil=>intro O l;exact qf .nil
   | cons r rs ih=>
    intro O l;rw[qn5,qn5];refine .bnd (R:=VR) ?_ λV x y l' hxy=>.bnd (ih V (l.trans l')) λU a b l2 hab=>qf (.cons (hxy.mono l2) hab);cases r with
    | tmp x=>exact qf ((h.mono l).getD x (ko O))
    | cell a ty=>exact .bnd (q09 H.tables (hG.mono l) ((h.mono l).getD a (ko O))) λU x y _ hxy=>by obtain⟨i,j,o,s,rfl,rfl,hb⟩:=hxy;exact Yi H.tables hb
  exact SR.bnd (S:=AsR) (f:=λl=>pure l.toArray) (f':=λl=>pure l.toArray) (a6 fn.results.toList Z (.refl Z)) λO a b l hab=>qf (zl.2 (by simpa using hab))
 ·refine qf ?_;have hs:=hab.1;split
  ·rename_i h1
   rw[dif_pos (by omega)];exact hab.2 0 _ _ (qhg _) (qhg _)
  ·rename_i h1
   rw[dif_neg (by omega)];exact hab.tuple
def Dry{Y:Type}:Sem Y->Prop
 | .pure _=>True
 | .load _ _ k=>∀v,Dry (k v)
 | .store _ _ _ k=>Dry k
 | .new _ k=>∀r,Dry (k r)
 | .shape _ k=>∀x,Dry (k x)
 | .freeze _ _ k=>Dry k
 | .frozen _ k=>∀b,Dry (k b)
 | .getObj _ k=>∀o,Dry (k o)
 | .setObj _ _ k=>Dry k
 | .choose _ _=>False
 | .sys _ _=>False
 | .program k=>∀p,Dry (k p)
 | .mark _ k=>Dry k
 | .halt _=>True
theorem Dry.bind{Y W:Type}{s:Sem Y}{f:Y->Sem W}(h:Dry s)(hf:∀a,Dry (f a)):Dry (s>>=f):=by
 show Dry (s.bind f);induction s with
 | pure a=>exact hf a
 | load m a k ih=>exact λv=>ih v (h v)
 | store m a v k ih=>exact ih h
 | new o k ih=>exact λv=>ih v (h v)
 | shape r k ih=>exact λv=>ih v (h v)
 | freeze a n k ih=>exact ih h
 | frozen a k ih=>exact λv=>ih v (h v)
 | getObj r k ih=>exact λv=>ih v (h v)
 | setObj r o k ih=>exact ih h
 | choose q k ih=>exact h.elim
 | sys c k ih=>exact h.elim
 | program k ih=>exact λp=>ih p (h p)
 | mark m k ih=>exact ih h
 | halt x=>trivial
theorem Dry.run{Y:Type}(p:qgG){s:Sem Y}:∀{w:qgt},Dry s->(rwR (s.run p w)).drawn=w.drawn:=by
 induction s with
 | pure a=>intro w h;rfl
 | load m a k ih=>
  intro w h;simp only[qie];split
  ·exact ih _ (h _)
  ·split
   ·exact ih _ (h _)
   ·rfl
 | store m a v k ih=>
  intro w h;have key:(rwR (match w.cell? a with
     | some _=>if w.frozen? a then(.halt (.unsupported (.unsafePointer "a write to bytes that a string shares")) w:qla Y) else k.run p (w.setCell a v)
     | none=>match w.farStore p a v (m == .atomic) with
      | .ok (w,_)=>k.run p w
      | .error h=>.halt h w)).drawn=w.drawn:=by
   split
   ·split
    ·rfl
    ·exact ih (w:=w.setCell a v) h
   ·split
    ·rename_i w' t e
     rw[ih h];unfold qmf at e;split at e
     ·split at e
      ·rename_i r hr
       cases e;exact xA _ _ _ _ _ _ _ hr
      ·cases e
     ·cases e
    ·rfl
  cases v<;>first | exact key | rfl
 | new o k ih=>intro w h;exact ih _ (w:={ w with heap:=w.heap.push o }) (h _)
 | shape r k ih=>intro w h;exact ih _ (h _)
 | freeze a n k ih=>
  intro w h;refine(ih (w:=w.freeze a n) h).trans ?_;unfold qpH;split<;>rfl
 | frozen a k ih=>intro w h;exact ih _ (h _)
 | getObj r k ih=>
  intro w h;simp only[qie];cases ho:w.heap[r]? with
  | none=>rfl
  | some o=>cases o<;>first | exact ih _ (h _) | rfl
 | setObj r o k ih=>
  intro w h;simp only[qie];cases ho:w.heap[r]? with
  | none=>rfl
  | some ob=>cases ob<;>first | exact ih (w:={ w with heap:=w.heap.setIfInBounds r o }) h | rfl
 | choose q k ih=>intro w h;exact h.elim
 | sys c k ih=>intro w h;exact h.elim
 | program k ih=>intro w h;exact ih _ (h _)
 | mark m k ih=>intro w h;exact ih h
 | halt x=>intro w h;rfl
end
end
section
section
variable[JunkSet]{Q P:qgG}{Z:Ren}{base D:Nat}{wq w:qgt}
theorem K6(t:qh5):Dry (qkc t):=λp=>by
 show Dry (match p.underlying t with | some d=>pure d | none=>stuck "no such type");split<;>trivial
theorem q1F(t:qh5):Dry (ql1 t):=λp=>by
 show Dry (match p.info? t with | some d=>pure d | none=>stuck "no such type");split<;>trivial
theorem ZG(a:qi2):∀(n i:Nat) (a6:Array qgx),Dry (qnp a i n a6):=by
 intro n;induction n with
 | zero=>intro i a6;trivial
 | succ n ih=>intro i a6;exact λv=>ih _ _
theorem q4c(t:qh5)(a:qi2):Dry (qq0 t a):=by
 refine Dry.bind (Dry.bind (K6 t) λd=>?_) λb=>?_
 ·split<;>trivial
 ·split
  ·exact Dry.bind (Dry.bind (q1F t) λi=>trivial) λn=>Dry.bind (ZG _ _ _ _) λ_=>trivial
  ·exact λv=>trivial
theorem q63(v:qgx):Dry (qqg v):=by
 unfold qqg;split
 ·trivial
 ·exact λp=>trivial
 ·trivial
theorem Jw(fn:Func)(t:Array qgx):Dry (qk1 fn t):=by
 unfold qk1;refine Dry.bind ?_ λvs=>trivial;rw[qkv];have a6:∀rs:List ResultVar,Dry (rs.mapM fun
    | .tmp x=>pure (t.getD x qgz)
    | .cell a ty=>do qq0 ty (<- qqg (t.getD a qgz))):=by
  intro rs;induction rs with
  | nil=>trivial
  | cons r rs ih=>
   rw[qn5];refine Dry.bind ?_ λv=>Dry.bind ih λvs=>trivial;cases r with
   | tmp x=>trivial
   | cell a ty=>exact Dry.bind (q63 _) λa=>q4c _ _
 exact Dry.bind (f:=λl=>pure l.toArray) (a6 _) λl=>trivial
theorem Qd(l:Nat):Dry (qpr l):=λo=>by cases o<;>trivial
theorem qbp(b:Nat):Dry (qo7 b):=λo=>by
 cases o with
 | deferred c=>cases c<;>trivial
 | _=>trivial
theorem q1G(l:Nat)(j:Option qj9):Dry (qjE l j):=Dry.bind (Qd l) λr=>trivial
theorem q4d(l:Nat):Dry (qps l):=Dry.bind (Qd l) λr=>by
 dsimp only;split
 ·exact Dry.bind (s:=qkm _) (λp=>trivial) λ_=>trivial
 ·trivial
theorem KH(f:qi8)(t:Array qgx)(ps:Array Tmp)(a b:qj9)(r:Option Nat):Dry (qmA f t ps a b r):=by
 unfold qmA;cases r with
 | none=>exact λ_ _=>trivial
 | some l=>exact Dry.bind (Qd l) λr _=>trivial
theorem q6o{i j:Nat}(h:BR Z i j):SR Q P (λO=>LsR (yO O)) (qo7 i) Z (qo7 j):=by
 refine .bnd (jJ h) λO o o' l ho=>?_;cases ho with
 | deferred hl=>exact .bnd (jI (h.mono l) .deferredNone) λV _ _ l' _=>qf (hl.imp λ_ _ k=>k.mono l')
 | _=>exact qi
theorem Je{i j:Nat}(h:BR Z i j){c:Option qj9}(hc:∀x,c=some x->JunkSet.okc x):SR Q P VR (qjE i c) Z (qjE j c):=by
 refine .bnd (yr h) λO r r' l hr=>.bnd (jI (h.mono l) (.loop ?_)) λV _ _ _ _=>qf (.bool _);exact⟨rfl,rfl,hr.fn,hr.tmps,hr.params,hr.assign,hr.body,hr.defers,hr.okF,hr.okA,hr.okB,hc⟩
theorem QF(H:Duo Q P)(hG:Gl P Z){i j:Nat}(h:BR Z i j):SR Q P (λ_ _ _=>True) (qoq i) Z (qoq j):=by
 refine .bnd (yr h) λO r r' l hr=>.bnd (jI (h.mono l) (.loop ⟨rfl,hr.pending,hr.fn,hr.tmps,hr.params,hr.assign,hr.body,hr.defers,hr.okF,hr.okA,hr.okB,hr.okP⟩)) λV _ _ l' _=>?_;rw[hr.state];cases r.state with
 | ready=>exact qf trivial
 | _=>exact qz H.tables (hG.mono (l.trans l')) _
theorem Yn(H:Duo Q P)(hG:Gl P Z){i j:Nat}(h:BR Z i j):SR Q P (λ_ a b=>b=a/\∀x,a=some x->JunkSet.okc x) (qps i) Z (qps j):=by
 refine .bnd (yr h) λO r r' l hr=>?_;dsimp only;rw[hr.state];refine qE (λ_=>.bnd (R:=λ_ _ _=>False) (qz H.tables (hG.mono l) _) λ_ _ _ _ hf=>hf.elim) λ_=>?_;refine .bnd (jI (h.mono l) (.loop ⟨rfl,hr.pending,hr.fn,hr.tmps,hr.params,hr.assign,hr.body,hr.defers,hr.okF,hr.okA,hr.okB,hr.okP⟩)) λV _ _ l' _=>?_;exact qf ⟨hr.pending,hr.okP⟩
theorem Zk(f:qi8)(hf:JunkSet.okg f){t t':Array qgx}(ht:AsR Z t t')(ps:Array Tmp){a b:qj9}(ha:JunkSet.okc a)(hb:JunkSet.okc b){r r':Option Nat}(hr:OBR Z r r') :SR Q P (λO x y=>BR O x.1 y.1/\LsR (yO O) x.2 y.2) (qmA f t ps a b r) Z (qmA f t' ps a b r'):=by
 unfold qmA;have fin:∀(O:Ren) {d d':Nat} {m m':List qiE},Le Z O->BR O d d'->LsR (yO O) m m'->SR Q P (λO (x y:Nat × List qiE)=>BR O x.1 y.1/\LsR (yO O) x.2 y.2)
   (do pure (<- newObj (.loop { state:=.ready,pending:=none,fn:=f,tmps:=t,params:=ps,assign:=a,body:=b,defers:=d }),m)) O
   (do pure (<- newObj (.loop { state:=.ready,pending:=none,fn:=f,tmps:=t',params:=ps,assign:=a,body:=b,defers:=d' }),m')):=λO d d' m m' l hd hm=>
  .bnd (Yh (.loop ⟨rfl,rfl,rfl,ht.mono l,rfl,rfl,rfl,hd,hf,ha,hb,λx h=>by cases h⟩)) λV i j l' hij=>qf ⟨hij,hm.imp λ_ _ k=>k.mono l'⟩
 rcases hr with⟨rfl,rfl⟩ | ⟨i,j,rfl,rfl,hb⟩
 ·exact .bnd (Yh (.deferred .nil)) λO i j l hij=>fin O l hij (.cons (.mk (.collected hij) .nil) .nil)
 ·exact .bnd (yr hb) λO x y l hxy=>fin O l hxy.defers .nil
end
end
section
section
variable[JunkSet]{Q P:qgG}{Z:Ren}{base D:Nat}{wq w:qgt}
theorem Yp(H:Duo Q P)(hb:base<=Z.length)(hw:WR Q base Z wq w)(hG:Gl P Z)(ht:zB D wq w)(c3:wq.drawn<=D){f f':qgH}(hf:qy Q P Z f f'){cs cs':List qgH}(hcs:LsR (qy Q P Z) cs cs')(b6:f.mode≠.run)(b:Bool) :kT Q P base D Z wq w (qle Q true f cs none wq) (qle P b f' cs' none w):=by
 have hfd:=hf.defers;unfold qle;generalize d7:f.defers=ds at hfd;generalize d6:f'.defers=ds' at hfd;cases hfd with
 | @cons d d' ds ds' hd hds=>
  obtain⟨t,a⟩:=d;obtain⟨t',a'⟩:=d';have c8:qy Q P Z { f with defers:=ds } { f' with defers:=ds' }:=⟨hf.fn,hf.same,hf.okf,hf.tmps,hf.todo,hds,hf.mode,hf.kind,hf.round⟩;have plain:kT Q P base D Z wq w (qj0 Q { f with defers:=ds } cs none ⟨t,a⟩ wq) (qj0 P { f' with defers:=ds' } cs' none ⟨t',a'⟩ w) :=
   q1l H hb hw hG ht c8 hcs b6 hd
  rcases id hd with⟨b0,_⟩ | ⟨h1,_,n,c,h3⟩
  case bound=>
   dsimp only at h1 h3;subst h1;subst h3;exact plain
  dsimp only at b0;cases b0 with
  | @collected i j hij=>
   dsimp only;simp only[qhq];refine Zn hb hw ht c3 (q6o hij) (Dry.run Q (qbp i)) (K:=λr=>match r with
    | .ok calls w=>.go { frame:={ f with defers:=calls++ds },callers:=cs,status:=.running,dying:=none } w
    | .halt _ w=>.ended (.stuck "the deferred calls of a range-over-func loop have been taken" (f.pos Q)) w) (K':=λr=>match r with
    | .ok calls w=>.go { frame:={ f' with defers:=calls++ds' },callers:=cs',status:=.running,dying:=none } w
    | .halt _ w=>.ended (.stuck "the deferred calls of a range-over-func loop have been taken" (f'.pos P)) w) (λh u g u' e _ hk _ _=>by cases hk) ?_
   intro O r wq1 r' w1 hr l hb1 a8 ht1 _;cases hr with
   | ok wq1 w1 hcl=>
    have a6:=hf.mono l;exact zj a8 ht1 λ_ _=>⟨⟨a6.fn,a6.same,a6.okf,a6.tmps,a6.todo,hcl.append (hds.imp λ_ _ k=>k.mono l),a6.mode,a6.kind,a6.round⟩,hcs.imp λ_ _ k=>k.mono l,rfl,rfl,rfl,rfl⟩
   | panic wq1 w1 hv=>exact zD
  | fn h1 h2=>exact plain
  | meth n h=>exact plain
  | nil=>exact plain
  | builtin x y z c h=>exact plain
 | nil=>
  dsimp only;have hm:=hf.mode;obtain⟨gf,b7,b8⟩:=hf.same;generalize hmm:f.mode=m at hm;generalize d5:f'.mode=m' at hm;cases hm with
  | run=>exact zD
  | panicking hl=>
   dsimp only;have b9:f.catches Q=false:=by unfold qok;rw[b7]
   have a9:f'.catches P=false:=by unfold qok;rw[hf.fn,b8]
   rw[b9,a9];simp only[qho,if_false];cases hcs with
   | cons hc hcs=>exact zj hw ht λ_ _=>⟨hc.raise hl,hcs,rfl,rfl,rfl,rfl⟩
   | nil=>
    intro gq' wq' esq a7 hD hst c9;exfalso;dsimp only at a7
    repeat' split at a7
    all_goals first
     | (cases a7;done)
     | (cases a7;cases hst;done)
     | (cases a7;cases c9;done)
  | returning=>
   dsimp only;rw[hf.fn,b7,b8];dsimp only;simp only[qhq];refine Zn hb hw ht c3 (QV H hG gf hf.tmps) (Dry.run Q (Jw gf _)) (K:=λr=>match r with
    | .ok v w=>qj4 Q true f cs none v w
    | .halt (.stuck s) w=>.ended (.stuck s (f.pos Q)) w
    | .halt _ w=>.ended (.stuck "return: the result variables cannot be read" (f.pos Q)) w) (K':=λr=>match r with
    | .ok v w=>qj4 P b f' cs' none v w
    | .halt (.stuck s) w=>.ended (.stuck s (f'.pos P)) w
    | .halt _ w=>.ended (.stuck "return: the result variables cannot be read" (f'.pos P)) w) (λh u g u' e _ hk _ _=>by cases h<;>cases hk) ?_
   intro O r wq1 r' w1 hr l hb1 a8 ht1 _;cases hr with
   | ok wq1 w1 hv=>exact Zo a8 ht1 (hf.mono l) (hcs.imp λ_ _ k=>k.mono l) hv b
   | panic wq1 w1 hv=>exact zD
def YL:Option qj9->Bool
 | none | some .ret=>true
 | _=>false
theorem Qm(H:Duo Q P)(hb:base<=Z.length)(hw:WR Q base Z wq w)(ht:zB D wq w)(a7:wq.drawn<=D){f f':qgH}(hf:qy Q P Z f f'){cs cs':List qgH}(hcs:LsR (qy Q P Z) cs cs')(b:Bool){j:Option qj9}(hj:∀x,j=some x->qB Q x){s s':String} :
  kT Q P base D Z wq w (match f.roundOf with
   | none=>if YL j=true then .go { frame:={ f with mode:=.returning },callers:=cs,status:=.running,dying:=none } wq else .ended (.stuck s (f.pos Q)) wq
   | some l=>
    let (r,es):=(qjE l j).runT Q wq #[]
    qi9 (seen Q f.fn es) <| match r with
    | .ok v w=>qj4 Q true f cs none v w
    | .halt _ w=>.ended (.stuck s' (f.pos Q)) w) (match f'.roundOf with
   | none=>if YL j=true then .go { frame:={ f' with mode:=.returning },callers:=cs',status:=.running,dying:=none } w else .ended (.stuck s (f'.pos P)) w
   | some l=>
    let (r,es):=(qjE l j).runT P w #[]
    qi9 (seen P f'.fn es) <| match r with
    | .ok v w=>qj4 P b f' cs' none v w
    | .halt _ w=>.ended (.stuck s' (f'.pos P)) w):=by
 rcases hf.round with⟨r1,r2⟩ | ⟨i,k,r1,r2,hik⟩
 ·rw[r1,r2];dsimp only;by_cases hc:YL j=true
  ·rw[if_pos hc,if_pos hc];exact zj hw ht λ_ _=>⟨⟨hf.fn,hf.same,hf.okf,hf.tmps,hf.todo,hf.defers,.returning,hf.kind,.inl ⟨rfl,rfl⟩⟩,hcs,rfl,rfl,rfl,rfl⟩
  ·rw[if_neg hc,if_neg hc];exact zD
 ·rw[r1,r2];dsimp only;simp only[qhq];refine Zn hb hw ht a7 (Je hik λx hx=>(H.codes x).2 (hj x hx)) (Dry.run Q (q1G i j)) (K:=λr=>match r with
    | .ok v w=>qj4 Q true f cs none v w
    | .halt _ w=>.ended (.stuck s' (f.pos Q)) w) (K':=λr=>match r with
    | .ok v w=>qj4 P b f' cs' none v w
    | .halt _ w=>.ended (.stuck s' (f'.pos P)) w) (λh u g u' e _ hk _ _=>by cases hk) ?_
  intro O r wq1 r' w1 hr l hb1 a6 ht1 _;cases hr with
  | ok wq1 w1 hv=>exact Zo a6 ht1 (hf.mono l) (hcs.imp λ_ _ k=>k.mono l) hv b
  | panic wq1 w1 hv=>exact zD
theorem qy.withTodo{f f':qgH}(hf:qy Q P Z f f'){k k':List qkz}(hk:LsR (zn Q Z) k k'):qy Q P Z { f with todo:=k } { f' with todo:=k' } :=
 ⟨hf.fn,hf.same,hf.okf,hf.tmps,hk,hf.defers,hf.mode,hf.kind,hf.round⟩
theorem xB{i j:Nat}(h:BR Z i j){d d':qiE}(hd:yO Z d d'):SR Q P (λ_ _ _=>True) (qpB i d) Z (qpB j d'):=by
 refine .bnd (yr h) λO r r' l hr=>?_;refine .bnd (jJ hr.defers) λV o o' l' ho=>?_;cases ho with
 | deferred hl=>exact(jI (hr.defers.mono l') (.deferred (.cons (hd.mono (l.trans l')) hl))).imp λ_ _ _ _ _=>trivial
 | deferredNone=>exact q9y
 | _=>exact qi
theorem ZY(p:qgG)(u:qgt)(f i:Nat):(choose (.order f i)).run p u=.ok (u.tape u.drawn (.order f i)) { u with drawn:=u.drawn+1 }:=rfl
theorem qa5(H:Duo Q P)(hb:base<=Z.length)(hw:WR Q base Z wq w)(hG:Gl P Z)(ht:zB D wq w)(b9:wq.drawn<=D){f f':qgH}(hf:qy Q P Z f f'){cs cs':List qgH}(hcs:LsR (qy Q P Z) cs cs')(b:Bool) :kT Q P base D Z wq w (qk6 Q true true f cs none wq) (qk6 P b true f' cs' none w):=by
 obtain⟨fn,tmps,todo,defers,mode,kind,ro⟩:=f;obtain⟨b0,a7,d6,a6,a8,a9,b8⟩:=f';have e5:=hf.todo;have c9:∀x,qH Q x->VR Z (qlq ⟨fn,tmps,todo,defers,mode,kind,ro⟩ x) (qlq ⟨b0,a7,d6,a6,a8,a9,b8⟩ x):=λx hx=>hf.eval hG H.gsize hx;have b6:∀{k k':List qkz},LsR (zn Q Z) k k'->kT Q P base D Z wq w (.go { frame:=⟨fn,tmps,k,defers,mode,kind,ro⟩,callers:=cs,status:=.running,dying:=none } wq) (.go { frame:=⟨b0,a7,k',a6,a8,a9,b8⟩,callers:=cs',status:=.running,dying:=none } w) :=
  λhk=>zj hw ht λ_ _=>⟨hf.withTodo hk,hcs,rfl,rfl,rfl,rfl⟩
 unfold qk6;dsimp only;dsimp only at e5;cases e5 with
 | nil=>exact Qm H hb hw ht b9 hf hcs b (j:=none) (λx h=>by cases h)
 | @cons x x' k k' hx hk=>
  cases hx with
  | @code c hc=>
   cases hc with
   | skip=>exact b6 hk
   | label n=>exact b6 hk
   | ret=>exact Qm H hb hw ht b9 hf hcs b (j:=some .ret) (λx h=>by cases h;exact .ret)
   | seq h1 h2=>exact b6 (.cons (.code h1) (.cons (.code h2) hk))
   | @cond c x y h0 h1 h2=>
    dsimp only;have:=c9 _ h0;revert this;generalize qlq _ c=v;generalize qlq _ c=v';intro this;cases this with
    | bool t=>cases t<;>exact b6 (.cons (.code (by assumption)) hk)
    | _=>exact zD
   | block h=>exact b6 (.cons (.code h) (.cons (.inBlock _) hk))
   | loop h=>exact b6 (.cons (.code h) (.cons (.inLoop h) hk))
   | scope h=>exact b6 (.cons (.code h) (.cons (.inScope h) hk))
   | exit id=>
    dsimp only;rcases q60 (id:=id) hk with⟨e1,e2⟩ | ⟨m,m',e1,e2,hm⟩
    ·rw[e1,e2];exact Qm H hb hw ht b9 hf hcs b (j:=some (.exit id)) (λx h=>by cases h;exact .exit id)
    ·rw[e1,e2];exact b6 hm
   | goto n=>
    dsimp only;rcases q5B (j:=n) hk with⟨e1,e2⟩ | ⟨m,m',e1,e2,hm⟩
    ·rw[e1,e2];exact Qm H hb hw ht b9 hf hcs b (j:=some (.goto n)) (λx h=>by cases h;exact .goto n)
    ·rw[e1,e2];exact b6 hm
   | @region id ops d hops=>
    dsimp only;cases d with
    | false=>exact b6 (.cons (.inRegion _ hops) hk)
    | true=>
     simp only[qmw,qho,if_false];rw[ZY,ZY];dsimp only;intro gq' wq' esq e hD hst g6;cases e;have hfn:=hf.fn;dsimp only at hfn hD;subst hfn;have d8:=ht 0 (.order b0 id) (by omega);simp only[Nat.add_zero] at d8;have e8:P.follows .mixedOrders=Q.follows .mixedOrders:=by
      show P.toTables.follows .mixedOrders=Q.toTables.follows .mixedOrders;rw[H.tables]
     obtain⟨e7,g5⟩:=hw.draw;refine⟨Z,_,_,#[],rfl,.k ⟨?_,hcs,rfl,rfl,rfl,rfl⟩,e7,trivial,g5,by simp,trivial,by simp only;omega⟩;rw[e8,d8];exact hf.withTodo (.cons (.inRegion _ hops) hk)
   | @rangeFunc c ps a bd h0 h1 h2=>
    have hfn:=hf.fn;dsimp only at hfn ⊢;subst hfn;simp only[qhq];refine Zn hb hw ht b9 (Zk (Q:=Q) (P:=P) b0 ((H.same b0).2 ⟨hf.same,hf.okf⟩) hf.tmps ps ((H.codes a).2 h1) ((H.codes bd).2 h2) hf.round) (Dry.run Q (KH b0 tmps ps a bd ro)) (K:=λr=>match r with
     | .ok (l,mark) w=>qik Q true ⟨b0,tmps,.inRangeFunc l::k,mark++defers,mode,kind,ro⟩ cs none (do let d <- resolve (qlq ⟨b0,tmps,.inRangeFunc l::k,mark++defers,mode,kind,ro⟩) { callee:=.value c,args:=#[.const (.func (.yield l) #[] #[])],argTypes:=#[] } 0;invoke d.target d.args) w
     | .halt _ w=>.ended (.stuck "range over a function: no such loop" (qqm Q ⟨b0,tmps,.code (.rangeFunc c ps a bd)::k,defers,mode,kind,ro⟩)) w) (K':=λr=>match r with
     | .ok (l,mark) w=>qik P true ⟨b0,a7,.inRangeFunc l::k',mark++a6,a8,a9,b8⟩ cs' none (do let d <- resolve (qlq ⟨b0,a7,.inRangeFunc l::k',mark++a6,a8,a9,b8⟩) { callee:=.value c,args:=#[.const (.func (.yield l) #[] #[])],argTypes:=#[] } 0;invoke d.target d.args) w
     | .halt _ w=>.ended (.stuck "range over a function: no such loop" (qqm P ⟨b0,a7,.code (.rangeFunc c ps a bd)::k',a6,a8,a9,b8⟩)) w) (λh u g u' e ho hk _ _=>by cases hk) ?_
    intro O r wq1 r' w1 hr l hb1 c8 ht1 _;cases hr with
    | panic wq1 w1 hv=>exact zD
    | @ok x y wq1 w1 hv=>
     obtain⟨i,m⟩:=x;obtain⟨i',m'⟩:=y;obtain⟨hbr,hm⟩:=hv;dsimp only at hbr hm ⊢;have b7:=hf.mono l;have e9:qy Q P O ⟨b0,tmps,.inRangeFunc i::k,m++defers,mode,kind,ro⟩ ⟨b0,a7,.inRangeFunc i'::k',m'++a6,a8,a9,b8⟩ :=
      ⟨b7.fn,b7.same,b7.okf,b7.tmps,.cons (.inRangeFunc hbr) (hk.imp λ_ _ k=>k.mono l),hm.append b7.defers,b7.mode,b7.kind,b7.round⟩
     refine Qn H hb1 c8 ht1 e9 (hcs.imp λ_ _ k=>k.mono l) (by intro x l h;cases h) (SR.sm ?_);have hy:AsR O #[Value.func (Fn.yield i) #[] #[]] #[Value.func (Fn.yield i') #[] #[]] :=
      AsR.one (.func (a:=#[]) (a':=#[]) (c:=#[]) (c':=#[]) (.yield hbr) rfl (λi x y hx=>by simp at hx) rfl (λi x y hx=>by simp at hx))
     have d9:∀(e:qhF->qgx) (v:qgx),#[Operand.const v].map e=#[e (.const v)]:=λe v=>by simp
     refine .bnd (R:=yO) (QW H.toPair ((c9 _ h0).mono l) (by rw[d9,d9];exact hy)) λV d d' l' hd=>vA H.toPair (hG.mono (l.trans l')) hd
  | inBlock id=>exact b6 hk
  | inScope h=>exact b6 hk
  | inLoop h=>exact b6 (.cons (.code h) (.cons (.inLoop h) hk))
  | @inRegion ops l hops=>
   cases l with
   | nil=>exact b6 hk
   | cons i l=>
    dsimp only;have e6:qjn ops a7=qjn ops tmps:=funext λj=>q4u ops hf.tmps j;rw[e6];by_cases hc:((ops[i]?).map (qhD · (qjn ops tmps))).getD false=true
    ·rw[if_pos hc,if_pos hc];unfold qnh Frame.oper?;dsimp only;cases ho:ops[i]? with
     | none=>exact zD
     | some o=>
      dsimp only;have hok:=hops o (by rw[qjl];exact qiC ho);have plain:=Qn H hb hw ht hf hcs (by intro x l h;cases h) (q0c H.toPair c9 hG hw.nodup (λv=>rfl) hok);rcases hf.round with⟨r1,r2⟩ | ⟨a,b',r1,r2,hij⟩
      ·dsimp only at r1 r2;subst r1;subst r2;exact plain
      ·dsimp only at r1 r2;subst r1;subst r2;by_cases c3:∃c,o.op=.defer c
       ·obtain⟨c,c3⟩:=c3;rw[c3] at hok ⊢;dsimp only;refine Qn H hb hw ht hf hcs (by intro x l h;cases h) (SR.sm ?_);cases hok with
        | defer hcall=>
         exact .bnd (vW H.toPair c9 hcall _) λO d d' l hd=>.bnd (xB (hij.mono l) hd) λV _ _ _ _=>qf .skip
       ·split
        ·rename_i e1 e2
         exact absurd ⟨_,e2⟩ c3
        ·split
         ·rename_i e1 e2
          exact absurd ⟨_,e2⟩ c3
         ·exact plain
    ·rw[if_neg hc,if_neg hc];exact zj hw ht λ_ _=>⟨hf.finish (ko Z),hcs,rfl,rfl,rfl,rfl⟩
  | inRangeFunc h=>exact zD
  | @endRangeFunc i j h=>
   dsimp only;simp only[qhq];refine Zn hb hw ht b9 (Yn H hG h) (Dry.run Q (q4d i)) (K:=λr=>match r with
    | .ok jump w=>.go { frame:=⟨fn,tmps,(jump.map Item.code).toList++k,defers,mode,kind,ro⟩,callers:=cs,status:=.running,dying:=none } w
    | .halt (.panic v) w=>.go { frame:=qp6 ⟨fn,tmps,.endRangeFunc i::k,defers,mode,kind,ro⟩ [{ v,recovered:=false }],callers:=cs,status:=.running,dying:=none } w
    | .halt _ w=>.ended (.stuck "range over a function: no such loop" (qqm Q ⟨fn,tmps,.endRangeFunc i::k,defers,mode,kind,ro⟩)) w) (K':=λr=>match r with
    | .ok jump w=>.go { frame:=⟨b0,a7,(jump.map Item.code).toList++k',a6,a8,a9,b8⟩,callers:=cs',status:=.running,dying:=none } w
    | .halt (.panic v) w=>.go { frame:=qp6 ⟨b0,a7,.endRangeFunc j::k',a6,a8,a9,b8⟩ [{ v,recovered:=false }],callers:=cs',status:=.running,dying:=none } w
    | .halt _ w=>.ended (.stuck "range over a function: no such loop" (qqm P ⟨b0,a7,.endRangeFunc j::k',a6,a8,a9,b8⟩)) w) (λh u g u' e ho hk _ _=>by cases h<;>first | (cases ho;done) | cases hk) ?_
   intro O r wq1 r' w1 hr l hb1 c8 ht1 _;have b7:=hf.mono l;have d5:=hcs.imp λ_ _ k=>qy.mono l k;have e4:=hk.imp λ_ _ k=>zn.mono l k;cases hr with
   | @ok jump jump' wq1 w1 hv=>
    obtain⟨hj,d7⟩:=hv;subst hj;refine zj c8 ht1 λ_ _=>⟨b7.withTodo ?_,d5,rfl,rfl,rfl,rfl⟩;cases jump' with
    | none=>exact e4
    | some c=>exact .cons (.code ((H.codes c).1 (d7 c rfl))) e4
   | panic wq1 w1 hv=>exact zj c8 ht1 λ_ _=>⟨b7.raise (.cons ⟨hv,rfl,rfl⟩ .nil),d5,rfl,rfl,rfl,rfl⟩
  | beginRound=>
   dsimp only;refine Qn H hb hw ht hf hcs (by intro x l h;cases h) (SR.sm ?_);refine .bnd (R:=λ_ _ _=>True) ?_ λO _ _ _ _=>qf .skip;rcases hf.round with⟨r1,r2⟩ | ⟨i,j,r1,r2,hij⟩
   ·dsimp only at r1 r2;rw[r1,r2];exact qi
   ·dsimp only at r1 r2;rw[r1,r2];exact QF H hG hij
theorem q0d(H:Duo Q P)(hb:base<=Z.length)(hw:WR Q base Z wq w)(hG:Gl P Z)(ht:zB D wq w)(a6:wq.drawn<=D){g g':qgy}(hg:kJ Q P Z g g')(b:Bool) :kT Q P base D Z wq w (qi4 Q true g wq true) (qi4 P b g' w true):=by
 obtain⟨fr,cs,st,dy,off⟩:=g;obtain⟨a7,cs',st',dy',a8⟩:=g';obtain⟨h1,h2,h3,h4,h5,h6⟩:=hg;dsimp only at h1 h2 h3 h4 h5 h6;subst h5;subst h6;have hm:=h1.mode;unfold qi4;dsimp only;generalize hmm:fr.mode=m at hm;generalize a9:a7.mode=m' at hm;cases hm with
 | run=>exact qa5 H hb hw hG ht a6 h1 h2 b
 | returning=>exact Yp H hb hw hG ht a6 h1 h2 (by rw[hmm];simp) b
 | panicking hl=>exact Yp H hb hw hG ht a6 h1 h2 (by rw[hmm];simp) b
theorem qa4(H:Duo Q P)(hb:base<=Z.length)(hw:WR Q base Z wq w)(hG:Gl P Z)(ht:zB D wq w)(a7:wq.drawn<=D){g g':qgy}(hg:kJ Q P Z g g')(b:Bool) :∀gq' wq' esq,qi4 Q true g wq true=.go gq' wq' esq->wq'.drawn<=D->gq'.status=.running->gq'.dying=none->Q.funcs[gq'.frame.fn]?=P.funcs[gq'.frame.fn]? ->∃O g'' w' es,qi4 P b g' w true=.go g'' w' es/\kJ Q P O gq' g''/\WR Q base O wq' w'/\True/\Eff base Z O w w'/\(∀e∈es,kL base O e)/\True/\wq.drawn<=wq'.drawn:=by
 intro gq' wq' esq e hD hs hd a6;obtain⟨O,g'',w',es,h1,h2,h3⟩:=q0d H hb hw hG ht a7 hg b gq' wq' esq e hD hs hd;refine⟨O,g'',w',es,h1,?_,h3⟩;rcases h2 with⟨_,h⟩ | ⟨f,k,a,a',c,c',cs,cs',hne,_,rfl,_⟩
 ·exact h
 ·exact absurd a6 hne
end
end
end Go.Sim
section
namespace Go
def World.tp(w:qgt)(T:Nat->qj1->Nat):qgt:={ w with tape:=T }
end Go
namespace Go.Sim
def tpR{Y:Type}(T:Nat->qj1->Nat):qla Y->qla Y
 | .ok a w=>.ok a (w.tp T)
 | .halt h w=>.halt h (w.tp T)
def q7i(T:Nat->qj1->Nat)(w:qgt)(n:Nat):Prop:=∀k q,w.drawn<=k->k<n->T k q=w.tape k q
def Knows{Y:Type}(Q:qgG)(s:Sem Y)(w:qgt):Prop :=
 (rwR (s.run Q w)).tape=w.tape/\∀T,q7i T w (rwR (s.run Q w)).drawn->s.run Q (w.tp T)=tpR T (s.run Q w)
section
variable[JunkSet]{Q P:qgG}{base:Nat}
theorem SR.knows{Y M:Type}{R:Rel Y M}{s:Sem Y}:∀{Z:Ren} {s':Sem M} {wq w:qgt},SR Q P R s Z s'->base<=Z.length->WR Q base Z wq w->vR (s.run Q wq)->Knows Q s wq:=by
 induction s with
 | pure a=>intro Z s' wq w h hb hw hf;exact⟨rfl,λT _=>rfl⟩
 | load m a k ih=>
  intro Z s' wq w h hb hw hf;rcases h with hbad | ⟨rfl,j,k',rfl,hbr,hk⟩
  ·exact absurd hf (Bad.not_fine hw.nopend hbad)
  have e0:∀T,(wq.tp T).cell? a=wq.cell? a:=λT=>rfl;unfold Knows;simp only[qie,e0] at hf ⊢;cases hc:wq.cell? a with
  | none=>
   rw[hc] at hf;simp only[qpo] at hf;split at hf
   ·rename_i hv
    split at hv
    ·rename_i a7
     exact absurd a7 (hw.noview hbr _ _)
    ·cases hv
   ·rename_i hv
    split at hv
    ·rename_i a7
     exact absurd a7 (hw.noview hbr _ _)
    ·cases hv;exact absurd hf (jM hw.nopend _ _ _)
  | some v=>
   obtain⟨v',a7,hr⟩:=hw.cell hbr hc;rw[hc] at hf;exact ih v (hk v v' hr) hb hw hf
 | store m a v k ih=>
  intro Z s' wq w h hb hw hf;rcases h with hbad | ⟨rfl,j,v',k',rfl,hbr,hv,hk⟩
  ·exact absurd hf (Bad.not_fine hw.nopend (s:=.store m a v k) hbad)
  have b6:(∃x,v=.agg x)\/(∃x,v=.tuple x)\/((∀x,v≠.agg x)/\∀x,v≠.tuple x):=by
   cases v<;>simp
  rcases b6 with⟨x,rfl⟩ | ⟨x,rfl⟩ | ⟨hna,hnt⟩
  ·simp only[qie] at hf;exact absurd hf (λh=>by cases h)
  ·simp only[qie] at hf;exact absurd hf (λh=>by cases h)
  ·have e1:∀u:qgt,(qqf .plain a v k).run Q u=match u.cell? a with
     | some _=>if u.frozen? a then .halt (.unsupported (.unsafePointer "a write to bytes that a string shares")) u else k.run Q (u.setCell a v)
     | none=>match u.farStore Q a v false with
      | .ok (w,_)=>k.run Q w
      | .error h=>.halt h u:=λu=>by
    cases v<;>first | rfl | exact absurd rfl (hna _) | exact absurd rfl (hnt _)
   have e0:∀T,(wq.tp T).cell? a=wq.cell? a:=λT=>rfl;have e2:∀T,(wq.tp T).frozen? a=wq.frozen? a:=λT=>rfl;unfold Knows;simp only[e1,e0,e2] at hf ⊢;cases hc:wq.cell? a with
   | none=>
    rw[hc] at hf;simp only[qmf] at hf;split at hf
    ·rename_i hv
     split at hv
     ·rename_i a7
      exact absurd a7 (hw.noview hbr _ _)
     ·cases hv
    ·rename_i hv
     split at hv
     ·rename_i a7
      exact absurd a7 (hw.noview hbr _ _)
     ·cases hv;exact absurd hf (jM hw.nopend _ _ _)
   | some u=>
    rw[hc] at hf;cases hfz:wq.frozen? a with
    | true=>
     simp only[hfz,if_true] at hf;exact absurd hf (λh=>by cases h)
    | false=>
     obtain⟨hbase,b8,a8,b0⟩:=hw.set hbr hc hfz hv;simp only[hfz,qho,if_false] at hf ⊢;exact ih hk hb a8 hf
 | new o k ih=>
  intro Z s' wq w h hb hw hf;rcases h with hbad | ⟨o',k',rfl,ho,hk⟩
  ·exact absurd hf (Bad.not_fine hw.nopend (s:=.new o k) hbad)
  obtain⟨a8,b0⟩:=hw.newO hb ho;have hk':=hk w.heap.size (λi hi=>qm4 _ (hw.lt i _ hi));rw[hw.len] at hk';exact ih _ hk' (by simp;omega) a8 hf
 | shape r k ih=>
  intro Z s' wq w h hb hw hf;rcases h with hbad | ⟨j,k',rfl,hbr,hk⟩
  ·exact absurd hf (Bad.not_fine hw.nopend (s:=.shape r k) hbad)
  exact ih _ (hk _ _ (hw.shape hbr)) hb hw hf
 | freeze a n k _=>intro Z s' wq w h hb hw hf;exact absurd hf (Bad.not_fine hw.nopend (s:=.freeze a n k) h)
 | frozen a k _=>intro Z s' wq w h hb hw hf;exact absurd hf (Bad.not_fine hw.nopend (s:=.frozen a k) h)
 | getObj r k ih=>
  intro Z s' wq w h hb hw hf;rcases h with hbad | ⟨j,k',rfl,hbr,hk⟩
  ·exact absurd hf (Bad.not_fine hw.nopend (s:=.getObj r k) hbad)
  cases ho:wq.heap[r]? with
  | none=>simp only[qie,ho] at hf;exact absurd hf (λh=>by cases h)
  | some o=>
   by_cases a6:∃c e f,o=.cells c e f
   ·obtain⟨c,e,f,rfl⟩:=a6;simp only[qie,ho] at hf;exact absurd hf (λh=>by cases h)
   ·have hnc:∀c e f,o≠.cells c e f:=λc e f x=>a6 ⟨c,e,f,x⟩;rcases hw.obj _ _ _ hbr ho with⟨_,hj,_⟩ | ⟨_,o',ho',hr⟩
    ·exact absurd hj (hnc _ _ _)
    ·rw[yu ho hnc] at hf;have a9:∀T,(wq.tp T).heap[r]?=some o:=λT=>ho;unfold Knows;simp only[yu ho hnc,yu (a9 _) hnc];exact ih o (hk _ _ hr) hb hw hf
 | setObj r o k ih=>
  intro Z s' wq w h hb hw hf;rcases h with hbad | ⟨j,o',k',rfl,hbr,hor,hk⟩
  ·exact absurd hf (Bad.not_fine hw.nopend (s:=.setObj r o k) hbad)
  cases ho:wq.heap[r]? with
  | none=>simp only[qie,ho] at hf;exact absurd hf (λh=>by cases h)
  | some ob=>
   by_cases a6:∃c e f,ob=.cells c e f
   ·obtain⟨c,e,f,rfl⟩:=a6;simp only[qie,ho] at hf;exact absurd hf (λh=>by cases h)
   ·have hnc:∀c e f,ob≠.cells c e f:=λc e f x=>a6 ⟨c,e,f,x⟩;obtain⟨hbase,⟨b9,b7,hr⟩,a8,b0⟩:=hw.setO hbr ho hnc hor;rw[yt ho hnc] at hf;have a9:∀T,(wq.tp T).heap[r]?=some ob:=λT=>ho;unfold Knows;simp only[yt ho hnc,yt (a9 _) hnc];exact ih hk hb a8 hf
 | choose q k ih=>
  intro Z s' wq w h hb hw hf;rcases h with hbad | ⟨k',rfl,hk⟩
  ·exact absurd hf (Bad.not_fine hw.nopend (s:=.choose q k) hbad)
  unfold Knows;simp only[qie] at hf ⊢;cases hq:q.forced with
  | true=>
   rw[hq] at hf;simp only[if_true] at hf ⊢;exact ih _ (hk _) hb hw hf
  | false=>
   rw[hq] at hf;simp only[qho,if_false] at hf ⊢;obtain⟨a8,b0⟩:=hw.draw;obtain⟨h1,h2⟩:=ih _ (hk _) hb a8 hf;refine⟨h1,λT hT=>?_⟩;have:=vE Q (k (q.cut (wq.tape wq.drawn q))) { wq with drawn:=wq.drawn+1 };have e:(wq.tp T).tape (wq.tp T).drawn q=wq.tape wq.drawn q:=hT _ q (qgw _) (by simp only at this;exact qh2 (qmr _) this);rw[e];exact h2 T λn q hn=>hT n q (by simp only at hn;omega)
 | sys c k ih=>
  intro Z s' wq w h hb hw hf;rcases h with hbad | ⟨rfl,k',rfl,hk⟩
  ·exact absurd hf (Bad.not_fine hw.nopend (s:=.sys c k) hbad)
  have e1:∀u:qgt,u.sys .env=(.strings u.os.env,u):=λu=>rfl;unfold Knows;simp only[qie,e1] at hf ⊢;exact ih _ (hk _) hb hw hf
 | program k ih=>
  intro Z s' wq w h hb hw hf;rcases h with hbad | ⟨k',rfl,hk⟩
  ·exact absurd hf (Bad.not_fine hw.nopend (s:=.program k) hbad)
  exact ih _ hk hb hw hf
 | mark m k ih=>
  intro Z s' wq w h hb hw hf;rcases h with hbad | ⟨rfl,k',rfl,hk⟩
  ·exact absurd hf (Bad.not_fine hw.nopend (s:=.mark m k) hbad)
  exact ih hk hb hw hf
 | halt x=>intro Z s' wq w h hb hw hf;exact⟨rfl,λT _=>rfl⟩
end
end Go.Sim
end
namespace Go.Sim
section
section
variable[JunkSet]{Q P:qgG}{Z:Ren}{base:Nat}{wq w:qgt}
theorem ZB(hT:P.toTables=Q.toTables)(hG:Gl P Z)(hb:base<=Z.length)(hw:WR Q base Z wq w){t:qh5}(hB:YH Q t=true){m m' k k' v v':qgx}(hm:VR Z m m')(hk:VR Z k k')(hv:VR Z v v')(hf:vR ((qiz t m k v).run Q wq)):Knows Q (qiz t m k v) wq:=by
 rcases q3m (k':=k') (v':=v') hT hG hw hm hf with h | ⟨r,j,kt,et,es,es',clock,rfl,rfl,hbr,hu,hq,hp,he⟩
 ·exact h.knows hb hw hf
 ·have r1:=λT=>(yD (P:=Q) (t:=t) (k:=k) (v:=v) (w:=wq.tp T) hu hq).1;have r0:=(yD (P:=Q) (t:=t) (k:=k) (v:=v) hu hq).1;have:=(q06 hT hG (q3o hB hu) hk hv hbr he clock 0).knows hb hw (by rw[<- r0];exact hf);unfold Knows at this ⊢;rw[r0];exact⟨this.1,λT hT=>by rw[r1 T];exact this.2 T hT⟩
theorem qg1{s:Sem Unit}(h:Knows Q s wq):Knows Q (do s;pure Next.skip:Sem qlj) wq:=by
 have e1:∀(u:qgt),((do s;pure Next.skip:Sem qlj)).run Q u=match s.run Q u with | .ok _ u'=>.ok .skip u' | .halt h u'=>.halt h u':=λu=>by
  rw[qiw];cases s.run Q u<;>rfl
 unfold Knows at h ⊢;rw[e1];refine⟨?_,λT hT=>?_⟩
 ·have:=h.1;cases hx:s.run Q wq<;>(rw[hx] at this;exact this)
 ·rw[e1,h.2 T]
  ·cases hx:s.run Q wq<;>rfl
  ·cases hx:s.run Q wq<;>(rw[hx] at hT;exact hT)
end
end
section
def Live(g:qgy):Prop:=g.status=.running/\g.dying=none
def q4t(g:qgy):Prop:=g.status=.blocked\/g.status=.waiting\/g.status=.finished\/(g.status=.running/\∃d,g.dying=some d/\d.calling=false/\d.fatal.isSome=true)
def Flat(cs:List qgH):qjo->Prop
 | .go g _ _=>Live g\/q4t g\/cs=[]
 | .ended ..=>True
 | _=>False
theorem flx{p:Prop}(h:p:=by first | exact trivial | exact .inl ⟨rfl,rfl⟩ | exact .inr (.inl (.inl rfl)) | exact .inr (.inl (.inr (.inl rfl))) | exact .inr (.inl (.inr (.inr (.inl rfl)))) | exact .inr (.inl (.inr (.inr (.inr ⟨rfl,_,rfl,rfl,rfl⟩)))) | exact .inr (.inr rfl)):p:=h
structure One(cs:List qgH)(wq:qgt)(r:qgt->qjo):Prop where
 flat:Flat cs (r wq)
 go:∀g' w' es,r wq=.go g' w' es->g'.status=.running->g'.dying=none->w'.tape=wq.tape/\wq.drawn<=w'.drawn/\∀T,q7i T wq w'.drawn->∃es',r (wq.tp T)=.go g' (w'.tp T) es'
theorem Zb{cs:List qgH}{es:Array qim}{s:qjo}(h:Flat cs s):Flat cs (qi9 es s):=by
 cases s<;>first | exact h | exact h.elim
theorem YU{p:qgG}{fr:qgH}{cs:List qgH}{dy:Option qm2}{m:String}{u:qgt}:Flat cs (qnu p fr cs dy m u):=by
 unfold qnu;dsimp only;generalize (qie p _ u:qla (List (ByteArray × String) × List ByteArray))=r;cases r with
 | ok a w1=>obtain⟨t,a6⟩:=a;exact flx
 | halt x w1=>cases x<;>exact flx
section
variable[JunkSet]{Q P:qgG}{Z:Ren}{base:Nat}{wq w:qgt}
theorem yy{cs:List qgH}{r:qgt->qjo}(h:∃o u es,r wq=.ended o u es):One cs wq r:=by
 obtain⟨o,u,es,e⟩:=h;exact⟨by rw[e];trivial,λg' w' es' h _ _=>by rw[e] at h;cases h⟩
theorem SR.tri{Y M:Type}{R:Rel Y M}{s:Sem Y}{s':Sem M}(hs:SR Q P R s Z s')(hb:base<=Z.length)(hw:WR Q base Z wq w) :(Knows Q s wq/\((∃a u,s.run Q wq=.ok a u/\∃O b w1,R O a b/\Le Z O/\WR Q base O u w1)\/∃v u,s.run Q wq=.halt (.panic v) u))\/∃h u,s.run Q wq=.halt h u/\odd h=false:=by
 by_cases hf:vR (s.run Q wq)
 ·refine .inl ⟨hs.knows hb hw hf,?_⟩;have a8:WR Q base Z wq { w with tape:=λn q=>wq.tape (n - w.drawn+wq.drawn) q }:=⟨hw.len,hw.nodup,hw.lt,hw.obj,hw.low,hw.env,hw.below,hw.gar⟩;obtain⟨O,b0,w2,b6,a6,_,_,a7,_,a9,_⟩:=SR.runs (es:=#[]) (D:=(rwR (s.run Q wq)).drawn) hs hb a8 (λn q _=>by
   show wq.tape (wq.drawn+n) q=wq.tape (w.drawn+n - w.drawn+wq.drawn) q;rw[show w.drawn+n - w.drawn+wq.drawn=wq.drawn+n by omega]) (qgw _) hf
  generalize s.run Q wq=r at a6;generalize (qie P s' _)=r' at a6;cases a6 with
  | ok _ _ h=>exact .inl ⟨_,_,rfl,O,_,_,h,a9.le,a7⟩
  | panic _ _ _=>exact .inr ⟨_,_,rfl⟩
 ·refine .inr ?_;cases hr:s.run Q wq with
  | ok a u=>rw[hr] at hf;exact absurd trivial hf
  | halt h u=>
   rw[hr] at hf;exact⟨h,u,rfl,by cases ho:odd h with | false=>rfl | true=>exact absurd ho hf⟩
def Tri[JunkSet](Q:qgG){Y M:Type}(R:Rel Y M)(s:Sem Y)(Z:Ren)(base:Nat)(wq:qgt):Prop :=
 (Knows Q s wq/\((∃a u,s.run Q wq=.ok a u/\∃O b w1,R O a b/\Le Z O/\WR Q base O u w1)\/∃v u,s.run Q wq=.halt (.panic v) u))\/∃h u,s.run Q wq=.halt h u/\odd h=false
theorem q3i{Y M:Type}{R:Rel Y M}{s:Sem Y}(hs:Tri Q R s Z base wq){cs:List qgH}{K:qgt->qla Y->qjo}{r:qgt->qjo}(hr:∀u x,s.run Q u=x->∃es,r u=qi9 es (K u x))(hok:∀a u O b w1,R O a b->Le Z O/\WR Q base O u w1->Flat cs (K wq (.ok a u))/\∀g' w' es,K wq (.ok a u)=.go g' w' es->g'.status=.running->g'.dying=none->w'.tape=u.tape/\u.drawn<=w'.drawn/\∀T,q7i T u w'.drawn->∃es',K (wq.tp T) (.ok a (u.tp T))=.go g' (w'.tp T) es')(a8:∀v u,Flat cs (K wq (.halt (.panic v) u))/\∀g' w' es,K wq (.halt (.panic v) u)=.go g' w' es->g'.status=.running->g'.dying=none->w'=u/\∀T,∃es',K (wq.tp T) (.halt (.panic v) (u.tp T))=.go g' (u.tp T) es')(hbad:∀h u,odd h=false->Flat cs (K wq (.halt h u))/\∀g' w' es,K wq (.halt h u)=.go g' w' es->g'.status=.running->g'.dying=none->False) :One cs wq r:=by
 have a6:=vE Q s wq;obtain⟨b7,h0⟩:=hr wq _ rfl;rcases hs with⟨⟨ht,hk⟩,⟨a,u,e,O,b,w1,hR,hl,a9⟩ | ⟨v,u,e⟩⟩ | ⟨h,u,e,ho⟩
 ·rw[e] at h0 hk ht a6;obtain⟨h1,h2⟩:=hok a u O b w1 hR ⟨hl,a9⟩;refine⟨by rw[h0];exact Zb h1,λg' w' es h hst a7=>?_⟩;rw[h0] at h;obtain⟨e0,h3,_⟩:=j8 h;obtain⟨h4,h5,h6⟩:=h2 _ _ _ h3 hst a7;have a6:wq.drawn<=u.drawn:=a6;refine⟨h4.trans ht,qgE a6 h5,λT hT=>?_⟩;obtain⟨b6,h7⟩:=hr (wq.tp T) _ rfl;have hk':s.run Q (wq.tp T)=.ok a (u.tp T):=hk T λk q hk hn=>hT k q hk (qh2 hn h5);obtain⟨b0,h8⟩:=h6 T λk q hk hn=>by rw[show u.tape=wq.tape from ht];exact hT k q (qgE a6 hk) hn
  exact⟨_,by rw[h7,hk',h8];rfl⟩
 ·rw[e] at h0 hk ht a6;obtain⟨h1,h2⟩:=a8 v u;refine⟨by rw[h0];exact Zb h1,λg' w' es h hst a7=>?_⟩;rw[h0] at h;obtain⟨e0,h3,_⟩:=j8 h;obtain⟨rfl,h6⟩:=h2 _ _ _ h3 hst a7;refine⟨ht,a6,λT hT=>?_⟩;obtain⟨b6,h7⟩:=hr (wq.tp T) _ rfl;have hk':s.run Q (wq.tp T)=.halt (.panic v) (w'.tp T):=hk T hT;obtain⟨b0,h8⟩:=h6 T;exact⟨_,by rw[h7,hk',h8];rfl⟩
 ·rw[e] at h0;obtain⟨h1,h2⟩:=hbad h u ho;refine⟨by rw[h0];exact Zb h1,λg' w' es h hst a7=>?_⟩;rw[h0] at h;obtain⟨e0,h3,_⟩:=j8 h;exact(h2 _ _ _ h3 hst a7).elim
theorem Qp{Y M:Type}{R:Rel Y M}{s:Sem Y}{s':Sem M}(hs:SR Q P R s Z s')(hb:base<=Z.length)(hw:WR Q base Z wq w){cs:List qgH}{K:qgt->qla Y->qjo}{r:qgt->qjo}(hr:∀u x,s.run Q u=x->∃es,r u=qi9 es (K u x))(hok:∀a u O b w1,R O a b->Le Z O/\WR Q base O u w1->Flat cs (K wq (.ok a u))/\∀g' w' es,K wq (.ok a u)=.go g' w' es->g'.status=.running->g'.dying=none->w'.tape=u.tape/\u.drawn<=w'.drawn/\∀T,q7i T u w'.drawn->∃es',K (wq.tp T) (.ok a (u.tp T))=.go g' (w'.tp T) es')(a6:∀v u,Flat cs (K wq (.halt (.panic v) u))/\∀g' w' es,K wq (.halt (.panic v) u)=.go g' w' es->g'.status=.running->g'.dying=none->w'=u/\∀T,∃es',K (wq.tp T) (.halt (.panic v) (u.tp T))=.go g' (u.tp T) es')(hbad:∀h u,odd h=false->Flat cs (K wq (.halt h u))/\∀g' w' es,K wq (.halt h u)=.go g' w' es->g'.status=.running->g'.dying=none->False) :One cs wq r:=q3i (hs.tri hb hw) hr hok a6 hbad
theorem YA(H:Duo Q P)(hb:base<=Z.length)(hw:WR Q base Z wq w){f:qgH}{cs:List qgH}(a7:∀d r s k,f.todo≠.call d true r s::k){s:Sem qlj}(hs:Tri Q (zT) s Z base wq):One cs wq (λu=>qik Q true f cs none s u):=by
 apply q3i hs
 ·intro u x hx;apply Exists.intro;unfold qik;simp only[if_true,qhq,hx];exact rfl
 ·intro a u O b w1 hR _;cases hR with
  | recover=>
   rcases hX:qhi f cs with _ | ⟨v,k⟩<;>cases hro:f.roundOf<;>simp only[hX,hro,H.rfr,if_true] <;>
    exact⟨flx,λg' w' es h _ _=>by cases h;exact⟨rfl,qgw _,λT _=>⟨_,rfl⟩⟩⟩
  | _=>exact⟨flx,λg' w' es h _ _=>by cases h;exact⟨rfl,qgw _,λT _=>⟨_,rfl⟩⟩⟩
 ·intro v u;exact⟨flx,λg' w' es h _ _=>by cases h;exact⟨rfl,λT=>⟨_,rfl⟩⟩⟩
 ·intro h u ho;cases h with
  | panic v=>cases ho
  | goexit=>cases ho
  | unsupported x=>
   cases x with
   | initOrder g=>cases ho
   | _=>exact⟨flx,λg' w' es h _ _=>by cases h⟩
  | blocked=>exact⟨flx,λg' w' es h hst _=>by cases h;cases hst⟩
  | waiting=>exact⟨flx,λg' w' es h hst _=>by cases h;cases hst⟩
  | throw m=>exact⟨flx,λg' w' es h _ a6=>by simp only[qn8,dieOf,qkC] at h;rw[<- h.1] at a6;cases a6⟩
  | fatal m=>exact⟨YU,λg' w' es h _ a6=>absurd a6 (zd h)⟩
  | _=>exact⟨flx,λg' w' es h _ _=>by cases h⟩
theorem SM.tri{Y M:Type}{R:Rel Y M}{s:Sem Y}{s':Sem M}(hs:SM Q P R s Z s')(hk:vR (s.run Q wq)->Knows Q s wq)(hb:base<=Z.length)(hw:WR Q base Z wq w):Tri Q R s Z base wq:=by
 by_cases hf:vR (s.run Q wq)
 ·refine .inl ⟨hk hf,?_⟩;have a8:WR Q base Z wq { w with tape:=λn q=>wq.tape (n - w.drawn+wq.drawn) q }:=⟨hw.len,hw.nodup,hw.lt,hw.obj,hw.low,hw.env,hw.below,hw.gar⟩;obtain⟨O,b0,w2,b6,a6,_,_,a7,a9⟩:=hs (D:=(rwR (s.run Q wq)).drawn) hb a8 (λn q _=>by
   show wq.tape (wq.drawn+n) q=wq.tape (w.drawn+n - w.drawn+wq.drawn) q;rw[show w.drawn+n - w.drawn+wq.drawn=wq.drawn+n by omega]) (qgw _) hf
  generalize s.run Q wq=r at a6;generalize (qie P s' _)=r' at a6;cases a6 with
  | ok _ _ h=>exact .inl ⟨_,_,rfl,O,_,_,h,a9.le,a7⟩
  | panic _ _ _=>exact .inr ⟨_,_,rfl⟩
 ·refine .inr ?_;cases hr:s.run Q wq with
  | ok a u=>rw[hr] at hf;exact absurd trivial hf
  | halt h u=>
   rw[hr] at hf;exact⟨h,u,rfl,by cases ho:odd h with | false=>rfl | true=>exact absurd ho hf⟩
theorem q4B(H:Pair Q P)(hb:base<=Z.length)(hw:WR Q base Z wq w){e e':qhF->qgx}(he:∀x,qH Q x->VR Z (e x) (e' x))(hG:Gl P Z)(hn:Inj Z)(hc:∀v,e (.const v)=v){o:qiu}(ho:qM Q o.op) :Tri Q (@zT _) (qk5 e o) Z base wq:=by
 cases hmu:qb2 o.op with
 | false=>exact(q07 H he hG hn hc ho hmu).tri hb hw
 | true=>
  refine SM.tri (q0c H he hG hn hc ho) (λhf=>?_) hb hw;obtain⟨dst,op,ty,pos,after,guard⟩:=o;dsimp only at ho hmu;have fin:∀{s:Sem Unit},vR ((do s;pure Next.skip:Sem qlj).run Q wq)->vR (s.run Q wq):=λ{s} hf=>by
   rw[qiw] at hf;cases hx:s.run Q wq with
   | ok a u=>trivial
   | halt h u=>rw[hx] at hf;exact hf
  cases ho with
  | mapUpdate h1 h2 h3 h4=>exact qg1 (ZB H.tables hG hb hw h1 (he _ h2) (he _ h3) (he _ h4) (fin hf))
  | insert h1 h2 h3 h4=>exact qg1 (ZB H.tables hG hb hw h1 (he _ h2) (he _ h3) (he _ h4) (fin hf))
  | _=>cases hmu
theorem ZZ(H:Duo Q P)(hb:base<=Z.length)(hw:WR Q base Z wq w){f:qgH}{cs:List qgH}(a6:∀d r s k,f.todo≠.call d true r s::k){s s':Sem qlj}(hs:SR Q P zT s Z s'):One cs wq (λu=>qik Q true f cs none s u):=YA H hb hw a6 (hs.tri hb hw)
theorem QK(f:qgH)(cs:List qgH)(v:qgx):(∃g,(Live g\/q4t g\/cs=[])/\∀u,qj4 Q true f cs none v u=.go g u #[])\/∃o,∀u,qj4 Q true f cs none v u=.ended o u #[]:=by
 unfold qj4;cases cs with
 | cons c cs=>
  dsimp only;split;all_goals exact .inl ⟨_,flx,λu=>rfl⟩
 | nil=>
  dsimp only;split
  ·rename_i h;cases h
  ·exact .inr ⟨_,λu=>rfl⟩
  ·simp only[qmw,qho,if_false];split
   ·exact .inl ⟨_,flx,λu=>rfl⟩
   ·exact .inr ⟨_,λu=>rfl⟩
theorem jn{cs:List qgH}{r:qgt->qjo}{g:qgy}(h:∀u,r u=.go g u #[])(hl:Live g\/q4t g\/cs=[]:=by exact flx):One cs wq r :=
 ⟨by rw[h];exact hl,λg' w' es e _ _=>by rw[h] at e;cases e;exact⟨rfl,qgw _,λT _=>⟨_,h _⟩⟩⟩
theorem jX(hb:base<=Z.length)(hw:WR Q base Z wq w){f:qgH}{cs:List qgH}{d:qiE}{s':Sem qlj}(hs:SR Q P zT (invoke d.target d.args) Z s'):One cs wq (λu=>qj0 Q f cs none d u):=by
 by_cases hc:(ky d.target && kx f.mode)=true
 ·refine yy ⟨.unsupported (.noEntry "machine/Return: a deferred call of a nil function value, made while the frame is unwinding") (f.pos Q),wq,#[],?_⟩;show qj0 Q f cs none d wq=_;unfold qj0;exact if_pos hc
 apply Qp hs hb hw
 ·intro u x hx;apply Exists.intro;show qj0 Q f cs none d u=_;unfold qj0;refine(if_neg hc).trans ?_;simp only[qhq,hx];exact rfl
 ·intro a u O b w1 hR _;cases hR with
  | recover=>
   rcases hX:qhi f cs with _ | ⟨v,k⟩<;>cases hm:f.mode<;>simp only[hX,hm] <;>
    exact⟨flx,λg' w' es h _ _=>by cases h;exact⟨rfl,qgw _,λT _=>⟨_,rfl⟩⟩⟩
  | _=>exact⟨flx,λg' w' es h _ _=>by cases h;exact⟨rfl,qgw _,λT _=>⟨_,rfl⟩⟩⟩
 ·intro v u;exact⟨flx,λg' w' es h _ _=>by cases h;exact⟨rfl,λT=>⟨_,rfl⟩⟩⟩
 ·intro h u ho;cases h with
  | panic v=>cases ho
  | goexit=>cases ho
  | unsupported x=>
   cases x with
   | initOrder g=>cases ho
   | _=>exact⟨flx,λg' w' es h _ _=>by cases h⟩
  | blocked=>exact⟨flx,λg' w' es h hst _=>by cases h;cases hst⟩
  | waiting=>exact⟨flx,λg' w' es h hst _=>by cases h;cases hst⟩
  | throw m=>exact⟨flx,λg' w' es h _ a6=>by simp only[qn8,dieOf,qkC] at h;rw[<- h.1] at a6;cases a6⟩
  | fatal m=>exact⟨YU,λg' w' es h _ a6=>absurd a6 (zd h)⟩
  | _=>exact⟨flx,λg' w' es h _ _=>by cases h⟩
theorem Yz(H:Duo Q P)(hb:base<=Z.length)(hw:WR Q base Z wq w)(hG:Gl P Z){f f':qgH}(hf:qy Q P Z f f')(cs:List qgH) :One cs wq (λu=>qle Q true f cs none u):=by
 have hfd:=hf.defers;unfold qle;generalize b7:f.defers=ds at hfd;generalize b0:f'.defers=ds' at hfd;cases hfd with
 | @cons d d' ds ds' hd hds=>
  obtain⟨t,a⟩:=d;obtain⟨t',a'⟩:=d';have hs:SR Q P zT (invoke t a) Z (invoke t' a'):=vA H.toPair hG hd;rcases id hd with⟨a7,_⟩ | ⟨h1,_,n,c,h3⟩
  case bound=>
   dsimp only at h1 h3;subst h1;subst h3;exact jX hb hw hs
  dsimp only at a7;cases a7 with
  | @collected i j hij=>
   apply Qp (q6o (Q:=Q) (P:=P) hij) hb hw
   ·intro u x hx;apply Exists.intro;simp only[qhq,hx];exact rfl
   ·intro l u O b w1 hR _;exact⟨flx,λg' w' es h _ _=>by cases h;exact⟨rfl,qgw _,λT _=>⟨_,rfl⟩⟩⟩
   ·intro v u;exact⟨flx,λg' w' es h _ _=>by cases h⟩
   ·intro h u ho;exact⟨flx,λg' w' es h _ _=>by cases h⟩
  | fn h1 h2=>exact jX hb hw hs
  | meth n h=>exact jX hb hw hs
  | nil=>exact jX hb hw hs
  | builtin x y z c h=>exact jX hb hw hs
 | nil=>
  dsimp only;obtain⟨gf,a8,b6⟩:=hf.same;cases hm:f.mode with
  | run=>exact yy ⟨_,_,_,rfl⟩
  | panicking l=>
   dsimp only;have a9:f.catches Q=false:=by unfold qok;rw[a8]
   rw[a9];simp only[qho,if_false]
   repeat' split
   all_goals first
    | exact jn λu=>rfl
    | exact yy ⟨_,_,_,rfl⟩
    | exact⟨flx,λg' w' es h hst a6=>by cases h;cases hst⟩
    | exact⟨flx,λg' w' es h hst a6=>by cases h;cases a6⟩
    | skip
   constructor
   ·show Flat _ (match (qqr l false).run Q wq with | .ok todo w=>_ | .halt (.unsupported u) w=>_ | .halt h w=>_);cases(qqr l false).run Q wq with
    | ok a w1=>exact flx
    | halt x w1=>cases x<;>exact flx
   ·intro g' w' es h hst a6;exfalso;revert h;cases(qqr l false).run Q wq with
    | ok a w1=>intro h;cases h;cases a6
    | halt x w1=>cases x<;>(intro h;cases h)
  | returning=>
   dsimp only;rw[a8];dsimp only;apply Qp (QV H hG gf hf.tmps) hb hw
   ·intro u x hx;apply Exists.intro;simp only[qhq,hx];exact rfl
   ·intro v u O b w1 hR _;rcases QK (Q:=Q) f cs v with⟨g,hl,h⟩ | ⟨o,h⟩
    ·refine⟨?_,λg' w' es e _ _=>?_⟩
     ·dsimp only;rw[h];exact hl
     ·dsimp only at e ⊢;rw[h] at e;cases e;exact⟨rfl,qgw _,λT _=>⟨_,h _⟩⟩
    ·refine⟨?_,λg' w' es e _ _=>?_⟩
     ·dsimp only;rw[h];trivial
     ·dsimp only at e ⊢;rw[h] at e;cases e
   ·intro v u;exact⟨flx,λg' w' es h _ _=>by cases h⟩
   ·intro h u ho;cases h<;>exact⟨flx,λg' w' es h _ _=>by cases h⟩
theorem Qq(hb:base<=Z.length)(hw:WR Q base Z wq w){f f':qgH}(hf:qy Q P Z f f')(cs:List qgH)(H:Duo Q P){j:Option qj9}(hj:∀x,j=some x->qB Q x){s s':String} :
  One cs wq (λu=>match f.roundOf with
   | none=>if YL j=true then .go { frame:={ f with mode:=.returning },callers:=cs,status:=.running,dying:=none } u else .ended (.stuck s (f.pos Q)) u
   | some l=>
    let (r,es):=(qjE l j).runT Q u #[]
    qi9 (seen Q f.fn es) <| match r with
    | .ok v w=>qj4 Q true f cs none v w
    | .halt _ w=>.ended (.stuck s' (f.pos Q)) w):=by
 rcases hf.round with⟨r1,r2⟩ | ⟨i,k,r1,r2,hik⟩
 ·rw[r1];dsimp only;by_cases hc:YL j=true
  ·simp only[if_pos hc];exact jn λu=>rfl
  ·simp only[if_neg hc];exact yy ⟨_,_,_,rfl⟩
 ·rw[r1];apply Qp (Je (Q:=Q) (P:=P) hik λx hx=>(H.codes x).2 (hj x hx)) hb hw
  ·intro u x hx;apply Exists.intro;simp only[qhq,hx];exact rfl
  ·intro v u O b w1 hR _;rcases QK (Q:=Q) f cs v with⟨g,hl,h⟩ | ⟨o,h⟩
   ·refine⟨?_,λg' w' es e _ _=>?_⟩
    ·dsimp only;rw[h];exact hl
    ·dsimp only at e ⊢;rw[h] at e;cases e;exact⟨rfl,qgw _,λT _=>⟨_,h _⟩⟩
   ·refine⟨?_,λg' w' es e _ _=>?_⟩
    ·dsimp only;rw[h];trivial
    ·dsimp only at e ⊢;rw[h] at e;cases e
  ·intro v u;exact⟨flx,λg' w' es h _ _=>by cases h⟩
  ·intro h u ho;exact⟨flx,λg' w' es h _ _=>by cases h⟩
theorem qak(H:Duo Q P)(hb:base<=Z.length)(hw:WR Q base Z wq w)(hG:Gl P Z){f f':qgH}(hf:qy Q P Z f f')(cs:List qgH) :One cs wq (λu=>qk6 Q true true f cs none u):=by
 obtain⟨fn,tmps,todo,defers,mode,kind,ro⟩:=f;obtain⟨c8,a7,b6,a6,a8,a9,b7⟩:=f';have c3:=hf.todo;have b8:∀x,qH Q x->VR Z (qlq ⟨fn,tmps,todo,defers,mode,kind,ro⟩ x) (qlq ⟨c8,a7,b6,a6,a8,a9,b7⟩ x):=λx hx=>hf.eval hG H.gsize hx;unfold qk6;dsimp only at c3 ⊢;cases c3 with
 | nil=>exact Qq hb hw hf cs H (j:=none) (λx h=>by cases h)
 | @cons x x' k k' hx hk=>
  cases hx with
  | @code c hc=>
   cases hc with
   | skip=>exact jn λu=>rfl
   | label n=>exact jn λu=>rfl
   | ret=>exact Qq hb hw hf cs H (j:=some .ret) (λx h=>by cases h;exact .ret)
   | seq h1 h2=>exact jn λu=>rfl
   | @cond c x y h0 h1 h2=>
    dsimp only;split
    ·exact jn λu=>rfl
    ·exact yy ⟨_,_,_,rfl⟩
   | block h=>exact jn λu=>rfl
   | loop h=>exact jn λu=>rfl
   | scope h=>exact jn λu=>rfl
   | exit id=>
    dsimp only;cases qmi id k with
    | none=>exact Qq hb hw hf cs H (j:=some (.exit id)) (λx h=>by cases h;exact .exit id)
    | some m=>exact jn λu=>rfl
   | goto n=>
    dsimp only;cases qmF n k with
    | none=>exact Qq hb hw hf cs H (j:=some (.goto n)) (λx h=>by cases h;exact .goto n)
    | some m=>exact jn λu=>rfl
   | @region id ops d hops=>
    dsimp only;cases d with
    | false=>exact jn λu=>rfl
    | true=>
     simp only[qmw,qho,if_false,ZY];refine⟨flx,λg' w' es h _ _=>?_⟩;cases h;refine⟨rfl,qqq _,λT hT=>?_⟩;have e:(wq.tp T).tape (wq.tp T).drawn (.order fn id)=wq.tape wq.drawn (.order fn id):=hT _ _ (qgw _) (qmr _);rw[e];exact⟨_,rfl⟩
   | @rangeFunc c ps a bd h0 h1 h2=>
    dsimp only;apply Qp (Zk (Q:=Q) (P:=P) fn ((H.same fn).2 ⟨hf.same,hf.okf⟩) hf.tmps ps ((H.codes a).2 h1) ((H.codes bd).2 h2) hf.round) hb hw
    ·intro u x hx;apply Exists.intro;simp only[qhq];dsimp only at hx;rw[hx]
    ·intro x u O y w1 hR ⟨hl,c9⟩;obtain⟨i,m⟩:=x;obtain⟨i',m'⟩:=y;obtain⟨hbr,hm⟩:=hR;dsimp only at hbr hm ⊢;have hy:AsR O #[Value.func (Fn.yield i) #[] #[]] #[Value.func (Fn.yield i') #[] #[]] :=
      AsR.one (.func (a:=#[]) (a':=#[]) (c:=#[]) (c':=#[]) (.yield hbr) rfl (λi x y hx=>by simp at hx) rfl (λi x y hx=>by simp at hx))
     have b9:∀(e:qhF->qgx) (v:qgx),#[Operand.const v].map e=#[e (.const v)]:=λe v=>by simp
     have:=ZZ (cs:=cs) (f:=⟨fn,tmps,.inRangeFunc i::k,m++defers,mode,kind,ro⟩) H (qgE hb hl.len) c9 (λd r s k e=>by cases e)
      (s:=do let d <- resolve (qlq ⟨fn,tmps,.inRangeFunc i::k,m++defers,mode,kind,ro⟩) { callee:=.value c,args:=#[.const (.func (.yield i) #[] #[])],argTypes:=#[] } 0;invoke d.target d.args)
      (s':=do let d <- resolve (qlq ⟨c8,a7,.inRangeFunc i'::k',m'++a6,a8,a9,b7⟩) { callee:=.value c,args:=#[.const (.func (.yield i') #[] #[])],argTypes:=#[] } 0;invoke d.target d.args)
      (.bnd (R:=yO) (QW H.toPair ((b8 _ h0).mono hl) (by rw[b9,b9];exact hy)) λV d d' l' hd=>vA H.toPair (hG.mono (hl.trans l')) hd)
     exact⟨this.flat,this.go⟩
    ·intro v u;exact⟨flx,λg' w' es h _ _=>by cases h⟩
    ·intro h u ho;exact⟨flx,λg' w' es h _ _=>by cases h⟩
  | inBlock id=>exact jn λu=>rfl
  | inScope h=>exact jn λu=>rfl
  | inLoop h=>exact jn λu=>rfl
  | @inRegion ops l hops=>
   cases l with
   | nil=>exact jn λu=>rfl
   | cons i l=>
    dsimp only;by_cases hc:((ops[i]?).map (qhD · (qjn ops tmps))).getD false=true
    ·simp only[if_pos hc];unfold qnh Frame.oper?;dsimp only;cases ho:ops[i]? with
     | none=>exact yy ⟨_,_,_,rfl⟩
     | some o=>
      dsimp only;have hok:=hops o (by rw[qjl];exact qiC ho);have plain:=YA (cs:=cs) H hb hw (f:=⟨fn,tmps,.inRegion ops (i::l)::k,defers,mode,kind,ro⟩) (λd r s k e=>by cases e) (q4B H.toPair hb hw b8 hG hw.nodup (λv=>rfl) hok);rcases hf.round with⟨r1,r2⟩ | ⟨a,b',r1,r2,hij⟩
      ·dsimp only at r1 r2;subst r1;subst r2;exact plain
      ·dsimp only at r1 r2;subst r1;subst r2;by_cases b0:∃c,o.op=.defer c
       ·obtain⟨c,b0⟩:=b0;rw[b0] at hok ⊢;dsimp only;cases hok with
        | defer hcall=>
         exact ZZ H hb hw (λd r s k e=>by cases e) (SR.bnd (vW H.toPair b8 hcall _) λO d d' l hd=>.bnd (xB (hij.mono l) hd) λV _ _ _ _=>qf .skip)
       ·split
        ·rename_i e1 e2
         exact absurd ⟨_,e2⟩ b0
        ·exact plain
    ·simp only[if_neg hc];exact jn λu=>rfl
  | inRangeFunc h=>exact yy ⟨_,_,_,rfl⟩
  | @endRangeFunc i j h=>
   dsimp only;apply Qp (Yn H hG h) hb hw
   ·intro u x hx;apply Exists.intro;simp only[qhq,hx];exact rfl
   ·intro l u O b w1 hR _;exact⟨flx,λg' w' es h _ _=>by cases h;exact⟨rfl,qgw _,λT _=>⟨_,rfl⟩⟩⟩
   ·intro v u;exact⟨flx,λg' w' es h _ _=>by cases h;exact⟨rfl,λT=>⟨_,rfl⟩⟩⟩
   ·intro h u ho;cases h<;>first | (cases ho;done) | exact⟨flx,λg' w' es h _ _=>by cases h⟩
  | beginRound=>
   dsimp only;refine ZZ (P:=P) (s':=(do b7.elim (stuck "beginRound: no round") qoq;pure .skip)) H hb hw (λd r s k e=>by cases e) ?_;refine .bnd (R:=λ_ _ _=>True) ?_ λO _ _ _ _=>qf .skip;rcases hf.round with⟨r1,r2⟩ | ⟨i,j,r1,r2,hij⟩
   ·dsimp only at r1 r2;rw[r1,r2];exact qi
   ·dsimp only at r1 r2;rw[r1,r2];exact QF H hG hij
theorem q3h(H:Duo Q P)(hb:base<=Z.length)(hw:WR Q base Z wq w)(hG:Gl P Z){g g':qgy}(hg:kJ Q P Z g g'):One g.callers wq (λu=>qi4 Q true g u true):=by
 obtain⟨fr,cs,st,dy,off⟩:=g;obtain⟨h1,h2,h3,h4,h5,h6⟩:=hg;dsimp only at h1 h2 h3 h4 h5 h6;subst h5;have hm:=h1.mode;unfold qi4;dsimp only;generalize hmm:fr.mode=m at hm;generalize a6:g'.frame.mode=m' at hm;cases hm with
 | run=>exact qak H hb hw hG h1 cs
 | returning=>exact Yz H hb hw hG h1 cs
 | panicking hl=>exact Yz H hb hw hG h1 cs
end
end
section
inductive LP (Q:qgG) (F:qgy->qgt->Prop):qgy->qgt->Prop
 | done {g:qgy} {u:qgt}:F g u->LP Q F g u
 | step {g g1:qgy} {u u1:qgt} {es:Array qim}:qi4 Q true g u true=.go g1 u1 es->g1.status=.running->g1.dying=none->LP Q F g1 u1->LP Q F g u
inductive LT (Q:qgG) (F:qgy->qgt->Prop):qgy->qgt->Prop
 | done {g:qgy} {u:qgt}:F g u->LT Q F g u
 | step {g:qgy} {u:qgt}:¬ F g u->(∀T,∃g1 u1 es,qi4 Q true g (u.tp T) true=.go g1 u1 es/\g1.status=.running/\g1.dying=none) ->
   (∀T g1 u1 es,qi4 Q true g (u.tp T) true=.go g1 u1 es->LT Q F g1 u1)->LT Q F g u
section
variable[JunkSet]{Q:qgG}{base:Nat}{F:qgy->qgt->Prop}
def xz(Q:qgG)(base:Nat)(g:qgy)(u:qgt):Prop :=
 ∃Z g' w,base<=Z.length/\WR Q base Z u w/\Gl Q Z/\kJ Q Q Z g g'
theorem WR.tape{Z:Ren}{u w:qgt}(h:WR Q base Z u w)(T T':Nat->qj1->Nat):WR Q base Z (u.tp T) (w.tp T'):=⟨h.len,h.nodup,h.lt,h.obj,h.low,h.env,h.below,h.gar⟩
theorem xz.tape{g:qgy}{u:qgt}(h:xz Q base g u)(T:Nat->qj1->Nat):xz Q base g (u.tp T) :=
 let ⟨Z,g',w,h1,h2,h3,h4⟩:=h
 ⟨Z,g',w,h1,h2.tape T w.tape,h3,h4⟩
theorem xz.one(H:Duo Q Q){g:qgy}{u:qgt}(h:xz Q base g u):One g.callers u (λu=>qi4 Q true g u true) :=
 let ⟨_,_,_,h1,h2,h3,h4⟩:=h
 q3h H h1 h2 h3 h4
theorem xz.next(H:Duo Q Q){g g1:qgy}{u u1:qgt}{es:Array qim}(h:xz Q base g u)(e:qi4 Q true g u true=.go g1 u1 es)(hs:g1.status=.running)(hd:g1.dying=none):xz Q base g1 u1:=by
 have hm:=((h.one H).go _ _ _ e hs hd).2.1;obtain⟨Z,g',w,h1,h2,h3,h4⟩:=h;have h2':=h2.tape u.tape (λn q=>u.tape (n - w.drawn+u.drawn) q);have ht:zB u1.drawn u (w.tp λn q=>u.tape (n - w.drawn+u.drawn) q):=λn q _=>by
  show u.tape (u.drawn+n) q=u.tape (w.drawn+n - w.drawn+u.drawn) q;rw[show w.drawn+n - w.drawn+u.drawn=u.drawn+n by omega]
 obtain⟨O,g'',w',es',_,k1,k2,_,k4,_⟩:=qa4 H h1 h2' h3 ht hm h4 true _ _ _ e (qgw _) hs hd rfl;exact⟨O,g'',w',qgE h1 k4.le.len,k2,h3.mono k4.le,k1⟩
theorem q2l(u:qgt)(T T':Nat->qj1->Nat):(u.tp T).tp T'=u.tp T':=rfl
theorem JM(u:qgt):u.tp u.tape=u:=rfl
theorem LP.ext(H:Duo Q Q)(hF:∀g u T,F g u->F g (u.tp T)){g:qgy}{u:qgt}(h:LP Q F g u)(hr:xz Q base g u){T:Nat->qj1->Nat}(hT:∀k q,u.drawn<=k->T k q=u.tape k q):LP Q F g (u.tp T):=by
 induction h with
 | done h=>exact .done (hF _ _ _ h)
 | @step g g1 u u1 es e hs hd _ ih=>
  obtain⟨h1,h2,h3⟩:=(hr.one H).go _ _ _ e hs hd;obtain⟨es',e'⟩:=h3 T λk q hk _=>hT k q hk;exact .step e' hs hd (ih (hr.next H e hs hd) λk q hk=>by rw[h1];exact hT k q (qgE h2 hk))
theorem LP.inv{g:qgy}{u:qgt}(hF:¬ F g u)(h:LP Q F g u):∃g1 u1 es,qi4 Q true g u true=.go g1 u1 es/\g1.status=.running/\g1.dying=none/\LP Q F g1 u1:=by
 cases h with
 | done h=>exact absurd h hF
 | step e hs hd h=>exact⟨_,_,_,e,hs,hd,h⟩
theorem LP.rest(H:Duo Q Q)(hF:∀g u T,F g u->F g (u.tp T)){g g1:qgy}{u u1:qgt}{es:Array qim}(hr:xz Q base g u)(hn:¬ F g u)(h:∀T,LP Q F g (u.tp T)){T:Nat->qj1->Nat}(e:qi4 Q true g (u.tp T) true=.go g1 u1 es)(hs:g1.status=.running)(hd:g1.dying=none)(T':Nat->qj1->Nat):LP Q F g1 (u1.tp T'):=by
 have a6:=(hr.tape T).next H e hs hd
 obtain⟨h1,h2,h3⟩:=((hr.tape T).one H).go _ _ _ e hs hd
 let T2:Nat->qj1->Nat:=λk q=>if k<u1.drawn then T k q else T' k q
 obtain⟨a9,e2⟩:=h3 T2 λk q _ hk=>by show(if k<u1.drawn then T k q else T' k q)=T k q;rw[if_pos hk]
 rw[q2l] at e2;have a7:¬ F g (u.tp T2):=λhh=>hn (by have:=hF _ _ u.tape hh;rwa [q2l,JM] at this);obtain⟨g2,u2,a8,e3,_,_,h4⟩:=LP.inv a7 (h T2);rw[e3] at e2;cases e2;have:=LP.ext H hF h4 (a6.tape T2) (T:=T') λk q hk=>by
  show T' k q=if k<u1.drawn then T k q else T' k q;rw[if_neg (by have:u1.drawn<=k:=hk;omega)]
 exact this
theorem LT.of_all(H:Duo Q Q)(hF:∀g u T,F g u->F g (u.tp T)){g:qgy}{u:qgt}(hr:xz Q base g u)(h:∀T,LP Q F g (u.tp T)):LT Q F g u:=by
 classical
 refine qin λa9=>?_
 let Bd:qgy × qgt->Prop:=λx=>xz Q base x.1 x.2/\(∀T,LP Q F x.1 (x.2.tp T))/\¬ LT Q F x.1 x.2
 have a8:∀x:{x // Bd x},∃y:(Nat->qj1->Nat) × {y // Bd y},∃es,qi4 Q true x.1.1 (x.1.2.tp y.1) true=.go y.2.1.1 y.2.1.2 es/\y.2.1.1.status=.running/\y.2.1.1.dying=none:=by
  rintro⟨⟨g,u⟩,hr,hl,hn⟩;dsimp only at hr hl hn ⊢;have hf:¬ F g u:=λhf=>hn (.done hf);have b6:∀T,¬ F g (u.tp T):=λT hh=>hf (by have:=hF _ _ u.tape hh;rwa [q2l,JM] at this);refine qin λa9=>hn (.step hf (λT=>?_) λT g1 u1 es e=>?_)
  ·obtain⟨g1,u1,es,e,hs,hd,_⟩:=LP.inv (b6 T) (hl T);exact⟨g1,u1,es,e,hs,hd⟩
  ·obtain⟨g2,u2,c8,e2,hs,hd,_⟩:=LP.inv (b6 T) (hl T);rw[e] at e2;cases e2;refine qin λhlt=>a9 ⟨(T,⟨(g1,u1),(hr.tape T).next H e hs hd,λT'=>LP.rest H hF hr hf hl e hs hd T',hlt⟩),es,e,hs,hd⟩
 let nx:{x // Bd x}->(Nat->qj1->Nat) × {y // Bd y}:=λx=>qk2 (a8 x)
 have b0:∀x,∃es,qi4 Q true x.1.1 (x.1.2.tp (nx x).1) true=.go (nx x).2.1.1 (nx x).2.1.2 es/\(nx x).2.1.1.status=.running/\(nx x).2.1.1.dying=none:=λx=>qkh (a8 x)
 let st:Nat->{x // Bd x}:=λn=>Nat.rec ⟨(g,u),hr,h,a9⟩ (λ_ x=>(nx x).2) n
 have hst:∀n,st (n+1)=(nx (st n)).2:=λn=>rfl
 let dr:Nat->Nat:=λn=>(st n).1.2.drawn
 have a7:∀n,dr n<=dr (n+1):=λn=>by
  obtain⟨es,e,hs,hd⟩:=b0 (st n);exact((((st n).2.1.tape _).one H).go _ _ _ e hs hd).2.1
 have a6:∀m n,m<=n->dr m<=dr n:=λm n b8=>by
  induction b8 with
  | refl=>exact qgw _
  | step _ ih=>exact qgE ih (a7 _)
 let Ts:Nat->qj1->Nat:=λk q=>if hx:∃n,dr n<=k/\k<dr (n+1) then(nx (st (qk2 hx))).1 k q else 0
 have c3:∀n k q,dr n<=k->k<dr (n+1)->Ts k q=(nx (st n)).1 k q:=λn k q h1 h2=>by
  have hx:∃n,dr n<=k/\k<dr (n+1):=⟨n,h1,h2⟩;show(if hx:∃n,dr n<=k/\k<dr (n+1) then(nx (st (qk2 hx))).1 k q else 0)=_;rw[dif_pos hx];obtain⟨h3,h4⟩:=qkh hx;have:qk2 hx=n:=by
   rcases Nat.lt_trichotomy (qk2 hx) n with hlt | he | hgt
   ·exact absurd (qh2 h4 (qgE (a6 (qk2 hx+1) n hlt) h1)) (qm4 _)
   ·exact he
   ·exact absurd (qh2 h2 (qgE (a6 (n+1) (qk2 hx) hgt) h3)) (qm4 _)
  rw[this]
 have key:∀(x:qgy) (v:qgt),LP Q F x v->∀n,x=(st n).1.1->v=(st n).1.2.tp Ts->False:=by
  intro x v hl;induction hl with
  | @done g u hf=>
   intro n h1 h2;subst h1;subst h2;exact(st n).2.2.2 (.done (by have:=hF _ _ (st n).1.2.tape hf;rwa [q2l,JM] at this))
  | @step g g1 u u1 es e hs hd _ ih=>
   intro n h1 h2;subst h1;subst h2;obtain⟨c8,e2,b7,hd2⟩:=b0 (st n);obtain⟨_,_,h3⟩:=(((st n).2.1.tape _).one H).go _ _ _ e2 b7 hd2;obtain⟨c9,e3⟩:=h3 Ts λk q hk b9=>c3 n k q hk b9;rw[q2l] at e3;rw[e] at e3;cases e3;exact ih (n+1) rfl rfl
 exact key _ _ (h Ts) 0 rfl rfl
end
end
section
def ql(f:qi8):qgH:={ fn:=f,tmps:=#[],todo:=[.code (.exit 0)],defers:=[{ target:=.nil,args:=#[] }],mode:=.run,kind:=.normal }
def Popped(f:qi8)(fr:qgH):Prop:=fr=ql f\/∃l,fr={ ql f with mode:=.panicking l }
def Stk(f:qi8)(g:qgy):Prop:=(∃pre,g.callers=pre++[ql f])\/(g.callers=[]/\Popped f g.frame)
def jd(f:qi8)(r:qjo):Prop:=∀g1 u1 es,r=.go g1 u1 es->g1.status=.running->g1.dying=none->Stk f g1
section
variable[JunkSet]{Q:qgG}{f:qi8}
theorem jN{s:qjo}{es:Array qim}(h:jd f s):jd f (qi9 es s):=λg1 u1 es' e hs hd=>by
 obtain⟨e0,h0,_⟩:=j8 e;exact h _ _ _ h0 hs hd
theorem qF{o:Outcome}{u:qgt}{es:Array qim}:jd f (.ended o u es):=λ_ _ _ e _ _=>by cases e
theorem qV{fr:qgH}{pre cs:List qgH}{st:qjF}{dy:Option qm2}{off:Option (Array qk7 × qjw)}{u:qgt}{es:Array qim}(h:cs=pre++[ql f]):jd f (.go { frame:=fr,callers:=cs,status:=st,dying:=dy,offers:=off } u es):=λ_ _ _ e _ _=>by
 cases e;exact .inl ⟨pre,h⟩
theorem q3z{g:qgy}{u:qgt}{es:Array qim}(h:g.dying≠none):jd f (.go g u es):=λ_ _ _ e _ hd=>by cases e;exact absurd hd h
theorem yI{s:qjo}(h:∀g u es,s≠.go g u es):jd f s:=λg u es e _ _=>absurd e (h g u es)
theorem Jp{fr:qgH}{cs:List qgH}{m:String}{u:qgt}:jd f (qnu Q fr cs none m u):=λg1 u1 es e _ hd=>absurd hd (zd e)
theorem Q6{fr:qgH}{m:String}{u:qgt}:jd f (qn8 fr m u):=q3z (by simp)
theorem vI{c:qgH}{rest:List qgH}{pre:List qgH}(h:c::rest=pre++[ql f]){fr:qgH}{st:qjF}{dy:Option qm2}{u:qgt}{es:Array qim}(hf:c=ql f->Popped f fr) :jd f (.go { frame:=fr,callers:=rest,status:=st,dying:=dy } u es):=λ_ _ _ e _ _=>by
 cases e;cases pre with
 | nil=>
  simp only[qhn,qjG] at h;exact .inr ⟨h.2,hf h.1⟩
 | cons p pre=>
  simp only[qha,qjG] at h;exact .inl ⟨pre,h.2⟩
theorem Jk:Popped f (ql f):=.inl rfl
theorem QH(v:qgx):Popped f ((ql f).finish v):=.inl rfl
theorem q1p(l:List qlC):Popped f ((ql f).raise l):=.inr ⟨l,rfl⟩
theorem QG:∀{cs:List qgH} {fr:qgH} {pre k:List qgH} {v:qgx},cs=pre++[ql f]->qhi fr cs=some (v,k)->∃pre',k=pre'++[ql f]:=by
 intro cs;induction cs with
 | nil=>intro fr pre k v h;cases pre<;>simp at h
 | cons c cs ih=>
  intro fr pre k v h e;unfold qhi at e;cases hk:fr.kind with
  | deferred=>
   rw[hk] at e;dsimp only at e;cases pre with
   | nil=>
    simp only[qhn,qjG] at h;rw[h.1] at e;cases e
   | cons p pre=>
    simp only[qha,qjG] at h;split at e
    ·simp only[qht,Prod.mk.injEq] at e;exact⟨_::pre,by rw[<- e.2,h.2];rfl⟩
    ·cases e
  | wrapped=>
   rw[hk] at e;dsimp only at e;cases pre with
   | nil=>
    simp only[qhn,qjG] at h;rw[h.1,h.2] at e;cases e
   | cons p pre=>
    simp only[qha,qjG] at h;cases ht:qhi c cs with
    | none=>rw[ht] at e;cases e
    | some x=>
     obtain⟨v',k'⟩:=x;rw[ht] at e;simp only[qij,qht,Prod.mk.injEq] at e;obtain⟨pre',hp⟩:=ih h.2 ht;exact⟨c::pre',by rw[<- e.2,hp];rfl⟩
  | _=>rw[hk] at e;cases e
theorem xm{fr:qgH}{cs pre:List qgH}(h:cs=pre++[ql f])(v:qgx)(u:qgt):jd f (qj4 Q true fr cs none v u):=by
 unfold qj4;cases cs with
 | nil=>cases pre<;>simp at h
 | cons c rest=>
  dsimp only;split
  ·exact vI h λe=>e ▸ QH v
  ·exact vI h λe=>e ▸ QH v
  ·exact vI h λe=>e ▸ Jk
  ·exact vI h λe=>by subst e;exact Jk
theorem q8d{fr fr2:qgH}{X pre cs:List qgH}{st:qjF}{dy:Option qm2}{off:Option (Array qk7 × qjw)}{u:qgt}{es:Array qim}(h:cs=pre++[ql f]):jd f (.go { frame:=fr,callers:=X++fr2::cs,status:=st,dying:=dy,offers:=off } u es) :=
 qV (pre:=X++fr2::pre) (by rw[h];simp)
theorem YN{fr fr2:qgH}{pre cs:List qgH}{st:qjF}{dy:Option qm2}{off:Option (Array qk7 × qjw)}{u:qgt}{es:Array qim}(h:cs=pre++[ql f]):jd f (.go { frame:=fr,callers:=fr2::cs,status:=st,dying:=dy,offers:=off } u es) :=
 qV (pre:=fr2::pre) (by rw[h];simp)
theorem q3y{fr:qgH}{cs pre:List qgH}(h:cs=pre++[ql f])(g:Nat)(u:qgt):jd f (early Q fr cs none g u):=by
 unfold early;have h1:∀w:qgt,jd f (match w.heap[g]? with
  | some (.pending c elem)=>.go { frame:=fr,callers:=cs,status:=.running,dying:=none } { w with heap:=w.heap.setIfInBounds g (.cells c elem) }
  | _=>.ended (.stuck "early: the variable does not wait" (fr.pos Q)) w):=λw=>by
  split
  ·exact qV h
  ·exact qF
 dsimp only;split
 ·exact h1 _
 ·split
  ·exact qF
  ·repeat' split
   all_goals first
    | exact h1 _
    | exact qF
    | exact qV h
    | exact q8d h
    | skip
theorem yJ(hrf:Q.follows .rangeFuncRecover=true){fr:qgH}{cs pre:List qgH}(h:cs=pre++[ql f])(s:Sem qlj)(u:qgt):jd f (qik Q true fr cs none s u):=by
 unfold qik;simp only[if_true,qhq,hrf];refine jN ?_;cases s.run Q u with
 | ok a w=>
  cases a with
  | recover=>
   have hr:∀{v k},qhi fr cs=some (v,k)->jd f (.go { frame:=fr.finish v,callers:=k,status:=.running,dying:=none } w):=λe=>by
    obtain⟨pre',hp⟩:=QG h e;exact qV hp
   rcases hX:qhi fr cs with _ | ⟨v,k⟩<;>cases hro:fr.roundOf<;>simp only[hX,hro]<;>first | exact hr hX | exact qV h
  | spawn d=>
   dsimp only
   repeat' split
   all_goals first
    | exact Q6
    | exact yI (λ_ _ _ e=>by cases e)
  | _=>
   dsimp only
   repeat' split
   all_goals first
    | exact qV h
    | exact YN h
    | exact yI (λ_ _ _ e=>by cases e)
 | halt x w=>
  cases x with
  | fatal m=>exact Jp
  | throw m=>exact Q6
  | unsupported x=>cases x<;>first | exact q3y h _ _ | exact qF
  | _=>first | exact qV h | exact qF
theorem YO{fr:qgH}{cs pre:List qgH}(h:cs=pre++[ql f])(d:qiE)(u:qgt):jd f (qj0 Q fr cs none d u):=by
 unfold qj0;by_cases hc:(ky d.target && kx fr.mode)=true
 ·have:∀(a b:qjo),(∃o u es,a=.ended o u es)->jd f (if(ky d.target && kx fr.mode)=true then a else b):=λa b ⟨o,u,es,e⟩=>by
   rw[if_pos hc,e];exact qF
  exact this _ _ ⟨_,_,_,rfl⟩
 have a6:∀(a b:qjo),jd f b->jd f (if(ky d.target && kx fr.mode)=true then a else b):=λa b hb=>by rw[if_neg hc];exact hb
 refine a6 _ _ ?_;simp only[qhq];refine jN ?_;cases qie Q (invoke d.target d.args) u with
 | ok a w=>
  cases a with
  | recover=>
   dsimp only;split
   ·rename_i e
    obtain⟨pre',hp⟩:=QG h e;exact qV hp
   ·exact qV h
  | coroswitch c e=>cases e<;>first | exact qF | exact yI (λ_ _ _ e=>by cases e)
  | alone on v=>cases on<;>first | exact qF | exact yI (λ_ _ _ e=>by cases e)
  | _=>
   first
    | exact qV h
    | exact YN h
    | exact qF
    | exact yI (λ_ _ _ e=>by cases e)
 | halt x w=>
  cases x with
  | fatal m=>exact Jp
  | throw m=>exact Q6
  | _=>first | exact qV h | exact qF
theorem ZC{fr:qgH}{cs pre:List qgH}(h:cs=pre++[ql f])(u:qgt):jd f (qle Q true fr cs none u):=by
 unfold qle;split
 ·simp only[qhq];refine jN ?_;split
  ·exact qV h
  ·exact qF
 ·exact YO h _ _
 ·split
  ·exact qF
  ·split
   ·exact qF
   ·cases cs with
    | nil=>cases pre<;>simp at h
    | cons c rest=>exact vI h λe=>e ▸ q1p _
  ·split
   ·exact xm h _ _
   ·simp only[qhq];refine jN ?_;split
    ·exact xm h _ _
    all_goals exact qF
theorem q5s(hrf:Q.follows .rangeFuncRecover=true){fr:qgH}{cs pre:List qgH}(h:cs=pre++[ql f])(u:qgt):jd f (qk6 Q true true fr cs none u):=by
 have a6:∀(j:Bool) (jj:Option qj9) (s s':String),jd f (match fr.roundOf with
   | none=>if j=true then .go { frame:={ fr with mode:=.returning },callers:=cs,status:=.running,dying:=none } u else .ended (.stuck s (fr.pos Q)) u
   | some l=>
    let (r,es):=(qjE l jj).runT Q u #[]
    qi9 (seen Q fr.fn es) <| match r with
    | .ok v w=>qj4 Q true fr cs none v w
    | .halt _ w=>.ended (.stuck s' (fr.pos Q)) w):=λj jj s s'=>by
  split
  ·split
   ·exact qV h
   ·exact qF
  ·simp only[qhq];refine jN ?_;split
   ·exact xm h _ _
   ·exact qF
 unfold qk6;dsimp only;split
 ·exact a6 true _ _ _
 ·exact a6 true _ _ _
 all_goals first
  | exact qV h
  | exact qF
  | exact yJ hrf h _ _
  | (
    generalize qmi _ _=X;cases X
    ·exact a6 false _ _ _
    ·exact qV h)
  | (
    generalize qmF _ _=X;cases X
    ·exact a6 false _ _ _
    ·exact qV h)
  | (
    unfold qnh
    repeat' split
    all_goals first
     | exact qV h
     | exact qF
     | exact yJ hrf h _ _)
  | (
    simp only[qhq];refine jN ?_
    repeat' split
    all_goals first
     | exact qV h
     | exact qF
     | exact yJ hrf h _ _)
  | (
    repeat' split
    all_goals first
     | exact qV h
     | exact qF
     | exact yJ hrf h _ _)
  | (
    generalize Extern.next _=X
    cases X
    ·exact qF
    ·exact yJ hrf h _ _)
theorem xR(hrf:Q.follows .rangeFuncRecover=true){g:qgy}{pre:List qgH}(h:g.callers=pre++[ql f])(hd:g.dying=none)(u:qgt):jd f (qi4 Q true g u true):=by
 obtain⟨fr,cs,st,dy,off⟩:=g;dsimp only at h hd;subst hd;unfold qi4;dsimp only;cases fr.mode with
 | run=>exact q5s hrf h u
 | returning=>exact ZC h u
 | panicking l=>exact ZC h u
theorem xV{fr:qgH}(h:Popped f fr)(st:qjF)(off:Option (Array qk7 × qjw))(u:qgt):∃o u' es,qi4 Q true { frame:=fr,callers:=[],status:=st,dying:=none,offers:=off } u true=.ended o u' es:=by
 rcases h with rfl | ⟨l,rfl⟩
 ·exact⟨_,_,_,rfl⟩
 ·exact⟨_,_,_,rfl⟩
end
end
section
def zL(g:qgy)(u:qgt):Machine:={ world:=u,gs:=#[g],rest:={ timers:=#[],alone:=none,slice:=none } }
section
variable{Q:qgG}
theorem q0m{g:qgy}{u:qgt}(h:g.status=.running):move Q (zL g u)=.goroutine (zL g u) 0:=by
 simp[move,ask,askOn,zL,runnable,runnable.go,due,ahead,Goroutine.canRun,qkG,choose,pure,qie,Question.forced,h]
theorem Zh{g g1:qgy}{u u1:qgt}{es:Array qim}(h:g.status=.running)(e:qi4 Q true g u true=.go g1 u1 es):step Q (zL g u)=.next (zL g1 u1):=by
 rw[step,stepT,q0m h];simp[runT,zL,qqH,e]
theorem yP{g:qgy}{u u1:qgt}{o:Outcome}{es:Array qim}(h:g.status=.running)(e:qi4 Q true g u true=.ended o u1 es):step Q (zL g u)=.ended o u1:=by
 rw[step,stepT,q0m h];simp[runT,zL,qqH,e]
theorem q8s{g:qgy}(u:qgt)(h:q4t g):(∃o u1,step Q (zL g u)=.ended o u1)\/∃g1 u1,step Q (zL g u)=.next (zL g1 u1)/\q4t g1:=by
 have jE:(g.status=.blocked\/g.status=.waiting\/g.status=.finished)->(∃o u1,step Q (zL g u)=.ended o u1)\/∃g1 u1,step Q (zL g u)=.next (zL g1 u1)/\q4t g1:=by
  intro hs;by_cases hw:g.status=.waiting
  ·refine .inr ⟨g,u,?_,.inr (.inl hw)⟩;rw[step,stepT];simp[move,ask,askOn,zL,runnable,runnable.go,due,ahead,Goroutine.canRun,qkG,choose,pure,qie,Question.forced,hw]
  ·refine .inl ?_;have a7:runnable #[g] u.os.mono=[]:=by
    rcases hs with h | h | h<;>simp[runnable,runnable.go,Goroutine.canRun,h]
   have b0:∀b,ahead (zL g u) b=none:=by
    intro b;rcases hs with h | h | h<;>simp[ahead,zL,h]
   rw[step,stepT];have hm:∃o u1,move Q (zL g u)=.machine (.ended o u1):=by
    have a6:=b0 false;simp only[zL] at a6;simp only[move,ask,askOn,zL,a7,due,a6];simp[pure,qie,hw];split
    ·rename_i t ht
     rw[a6] at ht;cases ht
    ·split
     ·exact⟨_,_,rfl⟩
     ·exact⟨_,_,rfl⟩
   obtain⟨o,u1,e⟩:=hm;rw[e];exact⟨o,u1,rfl⟩
 rcases h with h | h | h | ⟨h,d,hd,hc,hf⟩
 ·exact jE (.inl h)
 ·exact jE (.inr (.inl h))
 ·exact jE (.inr (.inr h))
 ·have hst:(∃o u1 es,qi4 Q true g u true=.ended o u1 es)\/∃g1 u1 es,qi4 Q true g u true=.go g1 u1 es/\q4t g1:=by
   obtain⟨fr,cs,st,dy,off⟩:=g;obtain⟨todo,a9,a8,pending,re,b6,fatal⟩:=d;dsimp only at h hd hc hf;subst hd;subst hc;cases fatal with
   | none=>cases hf
   | some f=>
    unfold qi4;dsimp only;unfold die writeOn;dsimp only;split
    ·exact .inl ⟨_,_,_,rfl⟩
    ·split
     ·exact .inr ⟨_,_,_,rfl,.inr (.inr (.inr ⟨rfl,_,rfl,rfl,rfl⟩))⟩
     ·exact .inr ⟨_,_,_,rfl,.inl rfl⟩
     ·exact .inl ⟨_,_,_,rfl⟩
     ·exact .inl ⟨_,_,_,rfl⟩
  rcases hst with⟨o,u1,es,e⟩ | ⟨g1,u1,es,e,hd1⟩
  ·exact .inl ⟨o,u1,yP h e⟩
  ·exact .inr ⟨g1,u1,Zh h e,hd1⟩
theorem q65:∀(n:Nat) {g g1:qgy} {u u1:qgt},q4t g->runN Q n (zL g u)=.next (zL g1 u1)->¬ Live g1:=by
 intro n;induction n with
 | zero=>
  intro g g1 u u1 hd e hl;simp only[runN,Stepped.next.injEq,zL,Machine.mk.injEq] at e;obtain⟨_,e,_⟩:=e;have e:g=g1:=by simpa using e
  subst e;obtain⟨h1,h2⟩:=hl;rcases hd with h | h | h | ⟨h,d,hd,_⟩
  ·rw[h] at h1;cases h1
  ·rw[h] at h1;cases h1
  ·rw[h] at h1;cases h1
  ·rw[hd] at h2;cases h2
 | succ n ih=>
  intro g g1 u u1 hd e;rcases q8s (Q:=Q) u hd with⟨o,u2,h⟩ | ⟨g2,u2,h,hd2⟩
  ·rw[runN,h] at e;cases e
  ·rw[runN,h] at e;exact ih hd2 e
end
section
variable[JunkSet]{Q:qgG}{base:Nat}{F:qgy->qgt->Prop}
theorem LP.of_runs(H:Duo Q Q){f:qi8}:∀(n:Nat) {g g1:qgy} {u u1:qgt} {pre:List qgH},xz Q base g u->Live g->g.callers=pre++[ql f] ->runN Q n (zL g u)=.next (zL g1 u1)->Live g1->(∃a6,g1.callers=a6++[ql f])->F g1 u1->LP Q F g u:=by
 intro n;induction n with
 | zero=>
  intro g g1 u u1 pre hr hl hc e a9 _ hF;simp only[runN,Stepped.next.injEq,zL,Machine.mk.injEq] at e;obtain⟨e1,e,_⟩:=e;have e:g=g1:=by simpa using e
  subst e;subst e1;exact .done hF
 | succ n ih=>
  intro g g1 u u1 pre hr hl hc e a9 b6 hF;have ho:=hr.one H;cases hs:qi4 Q true g u true with
  | go g2 u2 es=>
   rw[runN,Zh hl.1 hs] at e;have a7:=ho.flat;rw[hs] at a7;have hne:g.callers≠[]:=by rw[hc];simp
   rcases a7 with hl2 | hd | hcs
   ·have b8:=hr.next H hs hl2.1 hl2.2
    rcases xR (f:=f) H.rfr hc hl.2 u g2 u2 es hs hl2.1 hl2.2 with⟨b9,a8⟩ | ⟨a8,hp⟩
    ·exact .step hs hl2.1 hl2.2 (ih b8 hl2 a8 e a9 b6 hF)
    ·exfalso;cases n with
     | zero=>
      simp only[runN,Stepped.next.injEq,zL,Machine.mk.injEq] at e;obtain⟨_,e,_⟩:=e;have e:g2=g1:=by simpa using e
      subst e;obtain⟨a6,h1⟩:=b6;rw[a8] at h1;cases a6<;>simp at h1
     | succ n=>
      obtain⟨fr2,c9,b7,c8,b0⟩:=g2;obtain⟨l1,l2⟩:=hl2;dsimp only at a8 hp l1 l2;subst a8;subst l2;obtain⟨o,u3,c3,h3⟩:=xV (Q:=Q) hp b7 b0 u2;unfold runN at e;dsimp only at e;rw[yP l1 h3] at e;cases e
   ·exact absurd a9 (q65 n hd e)
   ·exact absurd hcs hne
  | ended o u2 es=>
   rw[runN,yP hl.1 hs] at e;cases e
  | _=>have a7:=ho.flat;rw[hs] at a7;exact a7.elim
def AtRet(Q:qgG)(f:qi8)(cs:List qgH)(R:Ending->qgt->Prop)(g:qgy)(u:qgt):Prop :=
 Live g/\g.callers=cs/\g.frame.fn=f/\∃T e,R e (u.tp T)/\g.frame.leaving Q (u.tp T) e
theorem AtRet.tape{f:qi8}{cs:List qgH}{R:Ending->qgt->Prop}{g:qgy}{u:qgt}(T:Nat->qj1->Nat)(h:AtRet Q f cs R g u):AtRet Q f cs R g (u.tp T):=by
 obtain⟨h1,h2,h3,T0,e,h4,h5⟩:=h;exact⟨h1,h2,h3,T0,e,h4,h5⟩
def ye(Q:qgG)(f:qi8)(args:Array qgx)(cs:List qgH):qgy:={ frame:=qhy Q f args .normal,callers:=cs,status:=.running,dying:=none }
theorem LT.of_calls(H:Duo Q Q){f:qi8}{args:Array qgx}{w:qgt}{R:Ending->qgt->Prop}(hc:∀T,qhx Q f args (w.tp T) R)(a7:∀u,¬ R .outgrown u)(hr:xz Q base (ye Q f args [ql f]) w):LT Q (AtRet Q f [ql f] R) (ye Q f args [ql f]) w:=by
 refine LT.of_all H (λg u T h=>h.tape T) hr λT=>?_;obtain⟨e,w',fr,hR,a6,hfn,a8⟩:=hc T [ql f];have hst:Steps Q (lone (qhy Q f args .normal) [ql f] (w.tp T)) (lone fr [ql f] w'):=by
  cases e with
  | returned v=>exact a6
  | panicked c=>exact a6
  | outgrown=>exact absurd hR (a7 _)
 obtain⟨n,hn⟩:=hst;exact LP.of_runs H (f:=f) n (g:=ye Q f args [ql f]) (g1:={ frame:=fr,callers:=[ql f],status:=.running,dying:=none }) (u:=w.tp T) (pre:=[]) (hr.tape T) ⟨rfl,rfl⟩ rfl hn ⟨rfl,rfl⟩ ⟨[],rfl⟩ ⟨⟨rfl,rfl⟩,rfl,hfn,w'.tape,e,hR,a8⟩
end
end
section
section
variable[JunkSet]{Q P:qgG}{Z:Ren}{base:Nat}{wq w:qgt}{F:qgy->qgt->Prop}
theorem LT.next{g:qgy}{u:qgt}(h:LT Q F g u)(hn:¬ F g u)(T:Nat->qj1->Nat):∃g1 u1 es,qi4 Q true g (u.tp T) true=.go g1 u1 es/\g1.status=.running/\g1.dying=none/\LT Q F g1 u1:=by
 cases h with
 | done h=>exact absurd h hn
 | step _ h1 h2=>
  obtain⟨g1,u1,es,e,hs,hd⟩:=h1 T;exact⟨g1,u1,es,e,hs,hd,h2 T g1 u1 es e⟩
def Below(Q:qgG)(F:qgy->qgt->Prop)(a b:qgy × qgt):Prop :=
 ¬ F b.1 b.2/\∃T es,qi4 Q true b.1 (b.2.tp T) true=.go a.1 a.2 es
theorem LT.acc{g:qgy}{u:qgt}(h:LT Q F g u):Acc (Below Q F) (g,u):=by
 induction h with
 | done h=>exact .intro _ λy hy=>absurd h hy.1
 | step _ _ _ ih=>exact .intro _ λy hy=>let ⟨T,es,e⟩:=hy.2;ih T y.1 y.2 es e
theorem YJ(H:Duo Q P)(hb:base<=Z.length)(hw:WR Q base Z wq w)(hG:Gl P Z){g g':qgy}(hg:kJ Q P Z g g')(hl:LT Q F g wq)(hn:¬ F g wq)(b:Bool) :∃O g1 wq1 g1' w1 es,qi4 P b g' w true=.go g1' w1 es/\Ko Q P O g1 g1'/\WR Q base O wq1 w1/\Gl P O/\base<=O.length/\LT Q F g1 wq1/\Below Q F (g1,wq1) (g,wq)/\Eff base Z O w w1/\(∀e∈es,kL base O e)/\g1.status=.running/\g1.dying=none:=by
 let T:Nat->qj1->Nat:=λn q=>w.tape (n - wq.drawn+w.drawn) q
 obtain⟨g1,u1,es,e,hs,hd,a7⟩:=hl.next hn T
 have a6:WR Q base Z (wq.tp T) w:=⟨hw.len,hw.nodup,hw.lt,hw.obj,hw.low,hw.env,hw.below,hw.gar⟩;have ho:=q3h H hb a6 hG hg;have hm:=(ho.go _ _ _ e hs hd).2.1;have ht:zB u1.drawn (wq.tp T) w:=λn q _=>by
  show w.tape (wq.drawn+n - wq.drawn+w.drawn) q=w.tape (w.drawn+n) q;rw[show wq.drawn+n - wq.drawn+w.drawn=w.drawn+n by omega]
 obtain⟨O,g1',w1,es',k0,k1,k2,_,k4,k5,_⟩:=q0d H hb a6 hG ht hm hg b _ _ _ e (qgw _) hs hd;exact⟨O,g1,u1,g1',w1,es',k0,k1,k2,hG.mono k4.le,qgE hb k4.le.len,a7,⟨hn,T,es,e⟩,k4,k5,hs,hd⟩
theorem WR.rely(h:WR Q base Z wq w){w2:qgt}(hsz:w.heap.size<=w2.heap.size)(a6:w2.os.env=w.os.env)(hk:∀i j,BR Z i j->¬ JunkSet.jk i->w2.heap[j]?=w.heap[j]?)(hj:∀i j,BR Z i j->JunkSet.jk i->∃c e f,w2.heap[j]?=some (.cells c e f)):WR Q base Z wq w2 where
 len:=h.len
 nodup:=h.nodup
 lt i j hb:=qh2 (h.lt i j hb) hsz
 obj i j o hb ho:=by
  rcases h.obj i j o hb ho with⟨h1,h2,h3,_⟩ | ⟨h1,o',h2,h3⟩
  ·exact .inl ⟨h1,h2,h3,hj i j hb h1⟩
  ·exact .inr ⟨h1,o',by rw[hk i j hb h1];exact h2,h3⟩
 low:=h.low
 env:=h.env.trans a6.symm
 below:=h.below
 gar:=h.gar
end
end
section
def q7g(g:qgy):Prop:=∀r a k,g.frame.todo≠.extern r a::k
def swap(real:List qgH)(g:qgy):qgy:={ g with callers:=g.callers.dropLast++real }
def zz(real:List qgH)(r r':qjo):Prop:=∀g1 u1 es,r=.go g1 u1 es->Live g1->g1.callers≠[]->q7g g1->r'=.go (swap real g1) u1 es
section
variable[JunkSet]{P:qgG}{f:qi8}{real:List qgH}
theorem vp{r r':qjo}{es:Array qim}(h:zz real r r'):zz real (qi9 es r) (qi9 es r'):=λg1 u1 es' e hl hc hn=>by
 obtain⟨e0,h0,rfl⟩:=j8 e;rw[h _ _ _ h0 hl hc hn];rfl
theorem qY{o:Outcome}{u:qgt}{es:Array qim}{r':qjo}:zz real (.ended o u es) r':=λ_ _ _ e _ _ _=>by cases e
theorem xP{r r':qjo}(h:∀g u es,r≠.go g u es):zz real r r':=λg u es e _ _ _=>absurd e (h g u es)
theorem qck{g:qgy}{u:qgt}{es:Array qim}{r':qjo}(h:¬ Live g):zz real (.go g u es) r':=λ_ _ _ e hl _ _=>by cases e;exact absurd hl h
theorem q2s{fr:qgH}{cs:List qgH}{m:String}{u:qgt}{r':qjo}:zz real (qnu P fr cs none m u) r':=λg1 u1 es e hl _ _=>absurd hl.2 (zd e)
theorem Y5{fr:qgH}{m:String}{u:qgt}{r':qjo}:zz real (qn8 fr m u) r':=qck λh=>by cases h.2
theorem yk{fr:qgH}{pre:List qgH}{st:qjF}{dy:Option qm2}{off:Option (Array qk7 × qjw)}{u:qgt}{es:Array qim} :zz real (.go { frame:=fr,callers:=pre++[ql f],status:=st,dying:=dy,offers:=off } u es) (.go { frame:=fr,callers:=pre++real,status:=st,dying:=dy,offers:=off } u es):=λ_ _ _ e _ _ _=>by
 cases e;simp[swap]
theorem q6m{fr fr2:qgH}{pre:List qgH}{st:qjF}{dy:Option qm2}{off:Option (Array qk7 × qjw)}{u:qgt}{es:Array qim} :zz real (.go { frame:=fr,callers:=fr2::(pre++[ql f]),status:=st,dying:=dy,offers:=off } u es) (.go { frame:=fr,callers:=fr2::(pre++real),status:=st,dying:=dy,offers:=off } u es) :=
 yk (pre:=fr2::pre)
theorem qej{fr fr2:qgH}{X pre:List qgH}{st:qjF}{dy:Option qm2}{off:Option (Array qk7 × qjw)}{u:qgt}{es:Array qim} :zz real (.go { frame:=fr,callers:=X++fr2::(pre++[ql f]),status:=st,dying:=dy,offers:=off } u es) (.go { frame:=fr,callers:=X++fr2::(pre++real),status:=st,dying:=dy,offers:=off } u es):=λ_ _ _ e _ _ _=>by
 cases e;have:X++fr2::(pre++[ql f])=(X++fr2::pre)++[ql f]:=by simp
 simp only[swap,this,qnv];simp
theorem q9l{fr:qgH}{st:qjF}{dy:Option qm2}{u:qgt}{es:Array qim}{r':qjo}:zz real (.go { frame:=fr,callers:=[],status:=st,dying:=dy } u es) r':=λ_ _ _ e _ hc _=>by
 cases e;exact absurd rfl hc
theorem q9n{fr:qgH}{cs:List qgH}{st:qjF}{dy:Option qm2}{u:qgt}{es:Array qim}{r':qjo}{x:String}{a:Array qgx}{k:List qkz}(h:fr.todo=.extern x a::k):zz real (.go { frame:=fr,callers:=cs,status:=st,dying:=dy } u es) r':=λ_ _ _ e _ _ hn=>by
 cases e;exact absurd h (hn _ _ _)
theorem jV(fr:qgH):qhi fr [ql f]=none:=by
 unfold qhi;cases fr.kind<;>rfl
theorem Zq(hR:∀fr,qhi fr real=none):∀(pre:List qgH) (fr:qgH),(qhi fr (pre++[ql f])=none/\qhi fr (pre++real)=none)\/∃v pre',qhi fr (pre++[ql f])=some (v,pre'++[ql f])/\qhi fr (pre++real)=some (v,pre'++real):=by
 intro pre;induction pre with
 | nil=>intro fr;exact .inl ⟨jV fr,hR fr⟩
 | cons p pre ih=>
  intro fr;simp only[qha];unfold qhi;cases hk:fr.kind with
  | deferred=>
   dsimp only;split
   ·exact .inr ⟨_,_::pre,rfl,rfl⟩
   ·exact .inl ⟨rfl,rfl⟩
  | wrapped=>
   dsimp only;rcases ih p with⟨h1,h2⟩ | ⟨v,pre',h1,h2⟩
   ·rw[h1,h2];exact .inl ⟨rfl,rfl⟩
   ·rw[h1,h2];exact .inr ⟨v,p::pre',rfl,rfl⟩
  | _=>exact .inl ⟨rfl,rfl⟩
theorem ZP{fr:qgH}{pre:List qgH}(b b':Bool)(v:qgx)(u:qgt):zz real (qj4 P b fr (pre++[ql f]) none v u) (qj4 P b' fr (pre++real) none v u):=by
 unfold qj4;cases pre with
 | nil=>
  simp only[qhn];split<;>exact q9l
 | cons p pre=>
  simp only[qha];split<;>exact yk
theorem q9o{fr:qgH}{pre:List qgH}(g:Nat)(u:qgt):zz real (early P fr (pre++[ql f]) none g u) (early P fr (pre++real) none g u):=by
 unfold early;dsimp only
 repeat' split
 all_goals first
  | exact yk
  | exact qY
  | exact qej
theorem xQ(hrf:P.follows .rangeFuncRecover=true)(hR:∀fr,qhi fr real=none){fr:qgH}{pre:List qgH}(s:Sem qlj)(u:qgt):zz real (qik P true fr (pre++[ql f]) none s u) (qik P true fr (pre++real) none s u):=by
 unfold qik;simp only[if_true,qhq,hrf];refine vp ?_;cases s.run P u with
 | ok a w=>
  cases a with
  | recover=>
   rcases Zq (f:=f) hR pre fr with⟨h1,h2⟩ | ⟨v,pre',h1,h2⟩<;>cases hro:fr.roundOf<;>simp only[h1,h2,hro]<;>exact yk
  | stack r sv=>
   dsimp only;split
   ·exact q9n rfl
   ·exact q9n rfl
  | spawn d=>
   dsimp only
   repeat' split
   all_goals first
    | exact Y5
    | exact xP (λ_ _ _ e=>by cases e)
  | _=>
   dsimp only
   repeat' split
   all_goals first
    | exact yk
    | exact q6m
    | exact xP (λ_ _ _ e=>by cases e)
 | halt x w=>
  cases x with
  | fatal m=>exact q2s
  | throw m=>exact Y5
  | unsupported x=>cases x<;>first | exact q9o _ _ | exact qY
  | _=>first | exact yk | exact qY
theorem q2t(hR:∀fr,qhi fr real=none){fr:qgH}{pre:List qgH}(d:qiE)(u:qgt):zz real (qj0 P fr (pre++[ql f]) none d u) (qj0 P fr (pre++real) none d u):=by
 unfold qj0;by_cases hc:(ky d.target && kx fr.mode)=true
 ·have:∀(a b r':qjo),(∃o u es,a=.ended o u es)->zz real (if(ky d.target && kx fr.mode)=true then a else b) r':=λa b r' ⟨o,u,es,e⟩=>by
   rw[if_pos hc,e];exact qY
  exact this _ _ _ ⟨_,_,_,rfl⟩
 have a6:∀(a b a' b':qjo),zz real b b'->zz real (if(ky d.target && kx fr.mode)=true then a else b) (if(ky d.target && kx fr.mode)=true then a' else b'):=λa b a' b' hb=>by rw[if_neg hc,if_neg hc];exact hb
 refine a6 _ _ _ _ ?_;simp only[qhq];refine vp ?_;cases qie P (invoke d.target d.args) u with
 | ok a w=>
  cases a with
  | recover=>
   dsimp only;rcases Zq (f:=f) hR pre fr with⟨h1,h2⟩ | ⟨v,pre',h1,h2⟩<;>rw[h1,h2]<;>cases fr.mode<;>exact yk
  | coroswitch c e=>cases e<;>first | exact qY | exact xP (λ_ _ _ e=>by cases e)
  | alone on v=>cases on<;>first | exact qY | exact xP (λ_ _ _ e=>by cases e)
  | _=>
   first
    | exact yk
    | exact q6m
    | exact qY
    | exact xP (λ_ _ _ e=>by cases e)
 | halt x w=>
  cases x with
  | fatal m=>exact q2s
  | throw m=>exact Y5
  | _=>first | exact yk | exact qY
theorem KY(hR:∀fr,qhi fr real=none){fr:qgH}{pre:List qgH}(b b':Bool)(u:qgt):zz real (qle P b fr (pre++[ql f]) none u) (qle P b' fr (pre++real) none u):=by
 unfold qle;split
 ·simp only[qhq];refine vp ?_;split
  ·exact yk
  ·exact qY
 ·exact q2t hR _ _
 ·split
  ·exact qY
  ·split
   ·exact qY
   ·cases pre with
    | nil=>exact q9l
    | cons p pre=>exact yk
  ·split
   ·exact ZP _ _ _ _
   ·simp only[qhq];refine vp ?_;split
    ·exact ZP _ _ _ _
    all_goals exact qY
theorem qcj(hrf:P.follows .rangeFuncRecover=true)(hR:∀fr,qhi fr real=none){fr:qgH}{pre:List qgH}(b b':Bool)(u:qgt) :zz real (qk6 P b true fr (pre++[ql f]) none u) (qk6 P b' true fr (pre++real) none u):=by
 have a6:∀(j:Bool) (jj:Option qj9) (s s':String),zz real (match fr.roundOf with
   | none=>if j=true then .go { frame:={ fr with mode:=.returning },callers:=pre++[ql f],status:=.running,dying:=none } u else .ended (.stuck s (fr.pos P)) u
   | some l=>
    let (r,es):=(qjE l jj).runT P u #[]
    qi9 (seen P fr.fn es) <| match r with
    | .ok v w=>qj4 P b fr (pre++[ql f]) none v w
    | .halt _ w=>.ended (.stuck s' (fr.pos P)) w) (match fr.roundOf with
   | none=>if j=true then .go { frame:={ fr with mode:=.returning },callers:=pre++real,status:=.running,dying:=none } u else .ended (.stuck s (fr.pos P)) u
   | some l=>
    let (r,es):=(qjE l jj).runT P u #[]
    qi9 (seen P fr.fn es) <| match r with
    | .ok v w=>qj4 P b' fr (pre++real) none v w
    | .halt _ w=>.ended (.stuck s' (fr.pos P)) w):=λj jj s s'=>by
  split
  ·split
   ·exact yk
   ·exact qY
  ·simp only[qhq];refine vp ?_;split
   ·exact ZP _ _ _ _
   ·exact qY
 unfold qk6;dsimp only;split
 ·exact a6 true _ _ _
 ·exact a6 true _ _ _
 all_goals first
  | exact yk
  | exact qY
  | exact xQ hrf hR _ _
  | (
    generalize qmi _ _=X;cases X
    ·exact a6 false _ _ _
    ·exact yk)
  | (
    generalize qmF _ _=X;cases X
    ·exact a6 false _ _ _
    ·exact yk)
  | (
    unfold qnh
    repeat' split
    all_goals first
     | exact yk
     | exact qY
     | exact xQ hrf hR _ _)
  | (
    simp only[qhq];refine vp ?_
    repeat' split
    all_goals first
     | exact yk
     | exact qY
     | exact xQ hrf hR _ _)
  | (
    repeat' split
    all_goals first
     | exact yk
     | exact qY
     | exact xQ hrf hR _ _)
  | (
    generalize Extern.next _=X
    cases X
    ·exact qY
    ·exact xQ hrf hR _ _)
theorem KX(hrf:P.follows .rangeFuncRecover=true)(hR:∀fr,qhi fr real=none){g:qgy}{pre:List qgH}(h:g.callers=pre++[ql f])(hd:g.dying=none)(b b':Bool)(u:qgt) :zz real (qi4 P b g u true) (qi4 P b' (swap real g) u true):=by
 obtain⟨fr,cs,st,dy,off⟩:=g;dsimp only at h hd;subst hd;subst h;unfold qi4;simp only[swap,qnv];cases fr.mode with
 | run=>exact qcj hrf hR b b' u
 | returning=>exact KY hR b b' u
 | panicking l=>exact KY hR b b' u
end
end
end Go.Sim
