/-
  Part 1 of the proof. gladstonelaw04.PileChecks answers true for every yard, parcel, pile, number and list of numbers, and leaves its arguments as they were. No conditions.
-/
import GoSem.Step
import Derived.StepT
import Derived.Laws.Sem
import Derived.Conc.Events
import Derived.Calls
set_option maxRecDepth 100000
set_option maxHeartbeats 8000000
set_option linter.all false
open Array renaming all_eq_true_iff_forall_mem->qiA,foldl_toList->qmF,forIn_toList->qlh,getD_eq_getD_getElem?->qik,getElem!_eq_getD->qoD,getElem?_append->qki,getElem?_eq_getElem->qhi,getElem?_eq_none_iff->qoa,getElem?_eq_some_iff->qgy,getElem?_map->qmG,getElem?_modify->qll,getElem?_push->ql1,getElem?_setIfInBounds->qhG,getElem?_toList->qnm,length_toList->qpt,mapM_eq_mapM_toList->qkx,mem_append->qkb,mem_of_getElem?->qiE,mem_toList_iff->qjm,range->qkB,swapAt!->qrb,toList_zip->qqx
open Bool renaming and_eq_true->qhh,false_eq_true->qhy,not_false->qmg,not_true->qmx,or_eq_true->qju
open Classical renaming byContradiction->qhF,choose->qk2,choose_spec->qkj
open Go renaming Addr->qi5,BoundsCode->qq2,Calls->qhw,Code->qje,CommCase->qk9,CommShape->qjx,Deferred->qiG,Dying->qm4,Event->qiq,FieldStep->qqy,Frame->qh4,FuncId->qib,GStep->qjo,GoStatus->qjH,Goroutine->qgC,Item->qkD,MapEntry->qkk,Next->qlo,Oper->qiu,Operand->qhE,PanicEntry->qlG,Program->qh2,Question->qj1,Result->qlg,TypeId->qh8,TypeInfo->ql2,Value->qgB,World->qgx,asAddr->qqt,behindNumber->qjn,boundsPanic->ql9,byteOf->qoC,byteOfCell->qoB,callDeferred->qj0,cellAtBytes->qn4,doReturn->qj5,endFatal->qnB,endThrow->qnc,execOp->qk3,exitTo->qmh,gotoIn->qmH,loadCellsFrom->qnw,loadVar->qqb,movedNumber->qok,reportChain->qqE,results->qjb,runtimePanic->qkm,stepG->qi7,storeCells->qnp,tryRecover->qhm,typeHandle->qoA,typeInfo->qkA,undef->qgD,underlying->qkf,unwind->qlm,yielded->qj4,zeroValue->qlz
open Go.Builtin renaming append_->qku,cap_->qqd,clear_->qna,copy_->qoo,firstCells->qoc,holdsCells->qq3,lenOf->qpB,len_->qqc,max2->qrf,max_->qqe,mayShare->qqu,min_->qo6,unsafeAdd_->qj9,zeroCells->qjf
open Go.Frame renaming catches->qoq,enter->qhD,eval->qlv,finish->qoE,pos->qqz,raise->qpf
open Go.GStep renaming after->qic,go->qpg
open Go.GStep.go renaming injEq->qkE
open Go.Instr renaming beginRound->qow,buildSlice->qqw,checkKey->qkC,deferInRound->qq4,endLoop->qpD,endRound->qjG,enterLoop->qmB,extract->qpz,fieldAt->qr9,fill->qmf,findAsking->qlb,findKey->qlu,findNow->qny,getLoop->qpC,index->qn5,indexAt->qpA,keyThatStays->qij,lookup->qmp,makeInterface->qps,makeMap->qop,makeSlice->qo0,mapUpdate->qiB,panicnil->qnb,sameBits->qjw,sameNow->qnx,slice->qpe,sliceAt->qra,sliceBound->qkc,sliceBounds->qol,storeAt->qr8,sureAddr->qr4,takeDeferred->qod,typeAssert->qkz
open Go.Region renaming wanted->qhv
open Go.Result renaming andThen_ok->qiv,evThen_ok->qov
open Go.Sem renaming bind->qmd,events_bind->qm3,run->qih,runT->qly,runT_eq->qhA,run_bind->qiy,setObj->qr3,store->qqs
open Go.World renaming cell?->qhs,farLoad->qpy,farStore->qme,freeze->qqa,frozen?->qkr,setCell->qjc,shape?->qoz,viewStore->qqH
open Go.stepG renaming apply->qil,exec->qk8,oper->qnq
open List renaming all_eq_true->qid,cons_append->qhe,dropLast_concat->qnC,dropWhile_cons->qpu,foldlM_cons->qqv,forIn_cons->qr0,getElem?_append_left->qhz,getElem?_eq_some_iff->qh9,mapM_cons->qn9,mem_cons_of_mem->qnA,mem_cons_self->qob,mem_singleton->qjC,mem_toArray->qkd,nil_append->qho,range_succ->qkH
open List.cons renaming injEq->qk0
open Nat renaming add_assoc->qmw,le_of_eq->qlF,le_refl->qgA,le_succ->qqD,le_trans->qh0,lt_irrefl->qm6,lt_of_lt_of_le->qh7,lt_or_ge->qiC,lt_succ_self->qmq
open Option renaming bind_some->qmo,getD_some->qgH,map_some->qip
open Option.some renaming inj->qjF,injEq->qhH
open Std.Legacy.Range renaming forIn_eq_forIn_range'->qj2
namespace Go.Sim
section
abbrev Ren:=List (Option Nat)
def BR(Z:Ren)(i j:Nat):Prop:=Z[i]?=some (some j)
def Inj(Z:Ren):Prop:=∀i i' j,BR Z i j->BR Z i' j->i=i'
def Out(Z:Ren)(j:Nat):Prop:=∀i,¬ BR Z i j
def Le(Z O:Ren):Prop:=(∃V,O=Z++V)/\(Inj Z->Inj O)
theorem BR.lt{Z:Ren}{i j:Nat}(h:BR Z i j):i<Z.length:=by
 unfold BR at h;exact(qh9.1 h).1
theorem BR.new(Z:Ren)(j:Nat):BR (Z++[some j]) Z.length j:=by simp[BR]
theorem BR.fn{Z:Ren}{i j k:Nat}(h:BR Z i j)(h':BR Z i k):j=k:=by
 unfold BR at h h';rw[h] at h';exact qjF (qjF h')
theorem Le.refl(Z:Ren):Le Z Z:=⟨⟨[],by simp⟩,id⟩
theorem Le.trans{a b c:Ren}(h:Le a b)(k:Le b c):Le a c:=by
 obtain⟨⟨x,rfl⟩,h2⟩:=h;obtain⟨⟨y,rfl⟩,k2⟩:=k;exact⟨⟨x++y,by simp⟩,λn=>k2 (h2 n)⟩
theorem BR.snoc_cases{Z:Ren}{x:Option Nat}{i j:Nat}(h:BR (Z++[x]) i j):(i<Z.length/\BR Z i j)\/(i=Z.length/\x=some j):=by
 have hl:=h.lt;simp at hl;unfold BR at h ⊢;rcases qiC i Z.length with h1 | h1
 ·rw[qhz h1] at h;exact .inl ⟨h1,h⟩
 ·have e:i=Z.length:=by omega
  subst e;simp at h;exact .inr ⟨rfl,h⟩
theorem Le.snoc(Z:Ren)(j:Nat)(hj:Out Z j):Le Z (Z++[some j]):=⟨⟨[some j],rfl⟩,λn i i' k h h'=>by
 rcases h.snoc_cases with⟨_,h⟩ | ⟨h1,h2⟩<;>rcases h'.snoc_cases with⟨_,h'⟩ | ⟨h1',h2'⟩
 ·exact n i i' k h h'
 ·cases h2';exact absurd h (hj i)
 ·cases h2;exact absurd h' (hj i')
 ·rw[h1,h1']⟩
theorem BR.mono{Z O:Ren}{i j:Nat}(h:BR Z i j)(l:Le Z O):BR O i j:=by
 obtain⟨⟨V,rfl⟩,_⟩:=l;have hl:=h.lt;unfold BR at h ⊢;rw[qhz hl];exact h
def qbq:qgB->Bool
 | .bool _ | .int _ _ | .string _ | .pointer none | .slice none _ _ | .map none | .nilFunc | .nilIface | .agg _ | .tuple _ | .func (.method _) _ _=>false
 | _=>true
class JunkSet where
 jk:Nat->Prop
 okf:qib->Prop
 okm:String->Prop
 okc:qje->Prop
 okb:Builtin->Array qh8->Prop
 okg:qib->Prop
section
variable[JunkSet]
inductive FnR (Z:Ren):Fn->Fn->Prop
 | func (f:qib):JunkSet.okf f->FnR Z (.func f) (.func f)
 | yield {i j:Nat}:BR Z i j->FnR Z (.yield i) (.yield j)
inductive VR (Z:Ren):qgB->qgB->Prop
 | bool (b:Bool):VR Z (.bool b) (.bool b)
 | int (k:IntKind) (n:Int):VR Z (.int k n) (.int k n)
 | string (s:ByteArray):VR Z (.string s) (.string s)
 | ptrNil:VR Z (.pointer none) (.pointer none)
 | ptr {i j:Nat} (off:Nat) (spot:Option Nat):BR Z i j->VR Z (.pointer (some ⟨i,off,spot⟩)) (.pointer (some ⟨j,off,spot⟩))
 | sliceNil (n c:Nat):VR Z (.slice none n c) (.slice none n c)
 | slice {i j:Nat} (off:Nat) (spot:Option Nat) (n c:Nat):BR Z i j->VR Z (.slice (some ⟨i,off,spot⟩) n c) (.slice (some ⟨j,off,spot⟩) n c)
 | mapNil:VR Z (.map none) (.map none)
 | map {i j:Nat}:BR Z i j->VR Z (.map (some i)) (.map (some j))
 | func {f f':Fn} {a a' c c':Array qgB}:FnR Z f f'->a.size=a'.size->(∀(i:Nat) (x y:qgB),a[i]?=some x->a'[i]?=some y->VR Z x y) ->
   c.size=c'.size->(∀(i:Nat) (x y:qgB),c[i]?=some x->c'[i]?=some y->VR Z x y)->VR Z (.func f a c) (.func f' a' c')
 | nilFunc:VR Z .nilFunc .nilFunc
 | iface (t:qh8) {v v':qgB}:VR Z v v'->VR Z (.iface t v) (.iface t v')
 | nilIface:VR Z .nilIface .nilIface
 | agg {a a':Array qgB}:a.size=a'.size->(∀(i:Nat) (x y:qgB),a[i]?=some x->a'[i]?=some y->VR Z x y)->VR Z (.agg a) (.agg a')
 | tuple {a a':Array qgB}:a.size=a'.size->(∀(i:Nat) (x y:qgB),a[i]?=some x->a'[i]?=some y->VR Z x y)->VR Z (.tuple a) (.tuple a')
 | wild (y:qgB):qbq y=true->VR Z (.chan none) y
 | meth (n:String) (a c:Array qgB):VR Z (.func (.method "") #[.iface 0 .nilIface] #[]) (.func (.method n) a c)
theorem FnR.mono{Z O:Ren}(l:Le Z O){f f':Fn}(h:FnR Z f f'):FnR O f f':=by
 cases h with
 | func f h=>exact .func f h
 | yield h=>exact .yield (h.mono l)
theorem VR.mono{Z O:Ren}(l:Le Z O){v v':qgB}(h:VR Z v v'):VR O v v':=by
 induction h with
 | bool b=>exact .bool b
 | int k n=>exact .int k n
 | string s=>exact .string s
 | ptrNil=>exact .ptrNil
 | ptr off spot h=>exact .ptr off spot (h.mono l)
 | sliceNil n c=>exact .sliceNil n c
 | slice off spot n c h=>exact .slice off spot n c (h.mono l)
 | mapNil=>exact .mapNil
 | map h=>exact .map (h.mono l)
 | func hf h1 _ h2 _ ih1 ih2=>exact .func (hf.mono l) h1 ih1 h2 ih2
 | nilFunc=>exact .nilFunc
 | iface t _ ih=>exact .iface t ih
 | nilIface=>exact .nilIface
 | agg h _ ih=>exact .agg h ih
 | tuple h _ ih=>exact .tuple h ih
 | wild y h=>exact .wild y h
 | meth n a c=>exact .meth n a c
def AsR(Z:Ren)(a b:Array qgB):Prop:=a.size=b.size/\∀(i:Nat) (x y:qgB),a[i]?=some x->b[i]?=some y->VR Z x y
inductive LsR {Y M:Type} (R:Y->M->Prop):List Y->List M->Prop
 | nil:LsR R [] []
 | cons {x:Y} {y:M} {l:List Y} {m:List M}:R x y->LsR R l m->LsR R (x::l) (y::m)
section
variable{Y M:Type}{R:Y->M->Prop}
theorem LsR.imp{S:Y->M->Prop}(h:∀x y,R x y->S x y){l:List Y}{m:List M}(k:LsR R l m):LsR S l m:=by
 induction k with
 | nil=>exact .nil
 | cons a _ ih=>exact .cons (h _ _ a) ih
theorem LsR.length{l:List Y}{m:List M}(h:LsR R l m):l.length=m.length:=by
 induction h with
 | nil=>rfl
 | cons _ _ ih=>simp[ih]
theorem LsR.append{l l':List Y}{m m':List M}(h:LsR R l m)(h':LsR R l' m'):LsR R (l++l') (m++m'):=by
 induction h with
 | nil=>exact h'
 | cons a _ ih=>exact .cons a ih
theorem q77{l:List Y}{m:List M}:LsR R l m↔l.length=m.length/\∀(i:Nat) (x:Y) (y:M),l[i]?=some x->m[i]?=some y->R x y:=by
 constructor
 ·intro h;refine⟨h.length,?_⟩;induction h with
  | nil=>intro i x y hx;simp at hx
  | cons a _ ih=>
   intro i x y hx hy;cases i with
   | zero=>simp at hx hy;subst hx;subst hy;exact a
   | succ i=>exact ih i x y (by simpa using hx) (by simpa using hy)
 ·rintro⟨h1,h2⟩;induction l generalizing m with
  | nil=>cases m with
   | nil=>exact .nil
   | cons _ _=>simp at h1
  | cons x l ih=>cases m with
   | nil=>simp at h1
   | cons y m=>exact .cons (h2 0 x y rfl rfl) (ih (by simpa using h1) λi a b ha hb=>h2 (i+1) a b (by simpa using ha) (by simpa using hb))
end
section
variable{Z O:Ren}{a b a' b':Array qgB}
theorem ze:AsR Z a b↔LsR (VR Z) a.toList b.toList:=by
 rw[q77];simp[AsR]
theorem AsR.mono(l:Le Z O)(h:AsR Z a b):AsR O a b:=⟨h.1,λi x y hx hy=>(h.2 i x y hx hy).mono l⟩
theorem AsR.get(h:AsR Z a b){i:Nat}{x:qgB}(hx:a[i]?=some x):∃y,b[i]?=some y/\VR Z x y:=by
 have hi:i<b.size:=h.1 ▸ (qgy.1 hx).1;exact⟨b[i],qhi hi,h.2 i x _ hx (qhi hi)⟩
theorem AsR.get_none(h:AsR Z a b){i:Nat}(hx:a[i]?=none):b[i]?=none:=by
 rw[qoa] at hx ⊢;exact h.1 ▸ hx
theorem AsR.getD(h:AsR Z a b)(i:Nat){d d':qgB}(hd:VR Z d d'):VR Z (a.getD i d) (b.getD i d'):=by
 rw[qik,qik];cases ha:a[i]? with
 | none=>rw[h.get_none ha];exact hd
 | some x=>obtain⟨y,hy,hv⟩:=h.get ha;rw[hy];exact hv
theorem AsR.nil:AsR Z #[] #[]:=⟨rfl,λi x y hx=>by simp at hx⟩
theorem AsR.append(h:AsR Z a b)(h':AsR Z a' b'):AsR Z (a++a') (b++b'):=by
 rw[ze] at *
 simpa using h.append h'
theorem AsR.push(h:AsR Z a b){x y:qgB}(hv:VR Z x y):AsR Z (a.push x) (b.push y):=by
 rw[ze] at *
 simpa using h.append (.cons hv .nil)
theorem AsR.one{x y:qgB}(hv:VR Z x y):AsR Z #[x] #[y]:=by
 rw[ze];exact .cons hv .nil
theorem AsR.set(h:AsR Z a b)(i:Nat){x y:qgB}(hv:VR Z x y):AsR Z (a.setIfInBounds i x) (b.setIfInBounds i y):=by
 refine⟨by simpa using h.1,λj u v hu a6=>?_⟩;rw[qhG] at hu a6;by_cases hij:i=j
 ·subst hij;by_cases hi:i<a.size
  ·rw[if_pos rfl,if_pos hi] at hu;rw[if_pos rfl,if_pos (h.1 ▸ hi)] at a6;cases hu;cases a6;exact hv
  ·rw[if_pos rfl,if_neg hi] at hu;cases hu
 ·rw[if_neg hij] at hu a6;exact h.2 j u v hu a6
theorem AsR.extract(h:AsR Z a b)(i j:Nat):AsR Z (a.extract i j) (b.extract i j):=by
 refine⟨by simp[h.1],λk x y hx hy=>?_⟩;rw[Array.getElem?_extract] at hx hy;split at hx
 ·split at hy
  ·exact h.2 _ x y hx hy
  ·cases hy
 ·cases hx
end
inductive vp:qgB->Prop
 | bool (b:Bool):vp (.bool b)
 | int (k:IntKind) (n:Int):vp (.int k n)
 | string (s:ByteArray):vp (.string s)
 | ptrNil:vp (.pointer none)
 | sliceNil (n c:Nat):vp (.slice none n c)
 | mapNil:vp (.map none)
 | nilFunc:vp .nilFunc
 | nilIface:vp .nilIface
 | agg {a:Array qgB}:(∀(i:Nat) (x:qgB),a[i]?=some x->vp x)->vp (.agg a)
 | tuple {a:Array qgB}:(∀(i:Nat) (x:qgB),a[i]?=some x->vp x)->vp (.tuple a)
theorem vp.vr(Z:Ren){v:qgB}(h:vp v):VR Z v v:=by
 induction h with
 | bool b=>exact .bool b
 | int k n=>exact .int k n
 | string s=>exact .string s
 | ptrNil=>exact .ptrNil
 | sliceNil n c=>exact .sliceNil n c
 | mapNil=>exact .mapNil
 | nilFunc=>exact .nilFunc
 | nilIface=>exact .nilIface
 | agg _ ih=>exact .agg rfl λi x y hx hy=>by rw[hx] at hy;cases hy;exact ih i x hx
 | tuple _ ih=>exact .tuple rfl λi x y hx hy=>by rw[hx] at hy;cases hy;exact ih i x hx
def KA:qgB->Bool
 | .bool _ | .int _ _ | .string _ | .pointer none | .slice none _ _ | .map none | .nilFunc | .nilIface=>true
 | _=>false
def qc3:qgB->Bool
 | .agg a | .tuple a=>a.toList.all λv=>match v with
   | .agg b | .tuple b=>b.toList.all KA
   | v=>KA v
 | v=>KA v
theorem Kz{v:qgB}(h:KA v=true):vp v:=by
 cases v with
 | bool b=>exact .bool b
 | int k n=>exact .int k n
 | string s=>exact .string s
 | pointer a=>cases a with
  | none=>exact .ptrNil
  | some _=>cases h
 | slice a n c=>cases a with
  | none=>exact .sliceNil n c
  | some _=>cases h
 | map a=>cases a with
  | none=>exact .mapNil
  | some _=>cases h
 | chan a=>cases h
 | float k b=>cases h
 | complex k a b=>cases h
 | func _ _ _=>cases h
 | nilFunc=>exact .nilFunc
 | iface _ _=>cases h
 | nilIface=>exact .nilIface
 | agg _=>cases h
 | tuple _=>cases h
theorem q1v{a:Array qgB}(h:a.toList.all KA=true)(i:Nat)(x:qgB)(hx:a[i]?=some x):vp x:=by
 rw[qid] at h;exact Kz (h x (by rw[qjm];exact qiE hx))
theorem q2A{v:qgB}(h:qc3 v=true):vp v:=by
 have key:∀a:Array qgB,(a.toList.all λv=>match v with
   | .agg b | .tuple b=>b.toList.all KA
   | v=>KA v)=true->∀(i:Nat) (x:qgB),a[i]?=some x->vp x:=by
  intro a ha i x hx;rw[qid] at ha;have:=ha x (by rw[qjm];exact qiE hx);cases x with
  | agg b=>exact .agg (q1v this)
  | tuple b=>exact .tuple (q1v this)
  | _=>exact Kz this
 cases v with
 | agg a=>exact .agg (key a h)
 | tuple a=>exact .tuple (key a h)
 | _=>exact Kz h
structure kq(Z:Ren)(e e':qkk):Prop where
 key:VR Z e.key e'.key
 val:VR Z e.val e'.val
 born:e'.born=e.born
inductive yp (Z:Ren):Target->Target->Prop
 | fn {f f':Fn} {c c':Array qgB}:FnR Z f f'->AsR Z c c'->yp Z (.fn f c) (.fn f' c')
 | meth (n:String):JunkSet.okm n->yp Z (.fn (.method n) #[]) (.fn (.method n) #[])
 | nil:yp Z .nil .nil
 | builtin (b:Builtin) (a:Array qh8) (t:qh8) (c:Array Bool):JunkSet.okb b a->yp Z (.builtin b a t c) (.builtin b a t c)
 | collected {i j:Nat}:BR Z i j->yp Z (.collected i) (.collected j)
inductive yT (Z:Ren) (d d':qiG):Prop
 | mk:yp Z d.target d'.target->AsR Z d.args d'.args->yT Z d d'
 | bound:d.target=.fn (.method "") #[]->d.args[0]?=some (.iface 0 .nilIface)->(∃n c,d'.target=.fn (.method n) c)->yT Z d d'
structure Z0(Z:Ren)(l l':Loop):Prop where
 state:l'.state=l.state
 pending:l'.pending=l.pending
 fn:l'.fn=l.fn
 tmps:AsR Z l.tmps l'.tmps
 params:l'.params=l.params
 assign:l'.assign=l.assign
 body:l'.body=l.body
 defers:BR Z l.defers l'.defers
 okF:JunkSet.okg l.fn
 okA:JunkSet.okc l.assign
 okB:JunkSet.okc l.body
 okP:∀c,l.pending=some c->JunkSet.okc c
inductive ObR (Z:Ren):Obj->Obj->Prop
 | cells {c c':Array qgB} (e:qh8) {f f':Nat × Nat}:AsR Z c c'->(∀o,f'.1<=o->o<f'.2->f.1<=o/\o<f.2)->ObR Z (.cells c e f) (.cells c' e f')
 | map {es es':Array qkk} (clock:Nat):LsR (kq Z) es.toList es'.toList->ObR Z (.map es clock) (.map es' clock)
 | stringIter (s:ByteArray) (p:Nat):ObR Z (.stringIter s p) (.stringIter s p)
 | mapIterNil (a:Nat) (s:Array Nat) (b:Nat):ObR Z (.mapIter none a s b) (.mapIter none a s b)
 | mapIter {i j:Nat} (a:Nat) (s:Array Nat) (b:Nat):BR Z i j->ObR Z (.mapIter (some i) a s b) (.mapIter (some j) a s b)
 | loop {l l':Loop}:Z0 Z l l'->ObR Z (.loop l) (.loop l')
 | number {i j:Nat} (o:Nat) (s:Option Nat) (lost:Bool):BR Z i j->ObR Z (.number ⟨i,o,s⟩ lost) (.number ⟨j,o,s⟩ lost)
 | deferredNone:ObR Z (.deferred none) (.deferred none)
 | deferred {l l':List qiG}:LsR (yT Z) l l'->ObR Z (.deferred (some l)) (.deferred (some l'))
section
variable{Z O:Ren}
theorem kq.mono(l:Le Z O){a b:qkk}(h:kq Z a b):kq O a b:=⟨h.key.mono l,h.val.mono l,h.born⟩
theorem yp.mono(l:Le Z O){a b:Target}(h:yp Z a b):yp O a b:=by
 cases h with
 | fn h1 h2=>exact .fn (h1.mono l) (h2.mono l)
 | meth n h=>exact .meth n h
 | nil=>exact .nil
 | builtin b a t c h=>exact .builtin b a t c h
 | collected h=>exact .collected (h.mono l)
theorem yT.mono(l:Le Z O){a b:qiG}(h:yT Z a b):yT O a b:=by
 cases h with
 | mk h1 h2=>exact .mk (h1.mono l) (h2.mono l)
 | bound h1 h2 h3=>exact .bound h1 h2 h3
theorem Z0.mono(l:Le Z O){a b:Loop}(h:Z0 Z a b):Z0 O a b:=⟨h.state,h.pending,h.fn,h.tmps.mono l,h.params,h.assign,h.body,h.defers.mono l,h.okF,h.okA,h.okB,h.okP⟩
theorem ObR.mono(l:Le Z O){a b:Obj}(h:ObR Z a b):ObR O a b:=by
 cases h with
 | cells e h1 h2=>exact .cells e (h1.mono l) h2
 | map c h=>exact .map c (h.imp λ_ _ k=>k.mono l)
 | stringIter s p=>exact .stringIter s p
 | mapIterNil a s b=>exact .mapIterNil a s b
 | mapIter a s b h=>exact .mapIter a s b (h.mono l)
 | loop h=>exact .loop (h.mono l)
 | number o s x h=>exact .number o s x (h.mono l)
 | deferredNone=>exact .deferredNone
 | deferred h=>exact .deferred (h.imp λ_ _ k=>k.mono l)
end
end
end
section
abbrev Rel (Y M:Type):=Ren->Y->M->Prop
def odd:Halt->Bool
 | .panic _ | .goexit | .unsupported (.initOrder _)=>true
 | _=>false
def zK:Obj->Bool
 | .pending ..=>true
 | _=>false
def Bad(Q:qh2){Y:Type}:Sem Y->Prop
 | .pure _=>False
 | .load _ _ k=>∀v,Bad Q (k v)
 | .store _ _ _ k=>Bad Q k
 | .new o k=>zK o=false/\∀r,Bad Q (k r)
 | .shape _ k=>∀x,Bad Q (k x)
 | .freeze _ _ k=>Bad Q k
 | .frozen _ k=>∀b,Bad Q (k b)
 | .getObj _ k=>∀o,Bad Q (k o)
 | .setObj _ o k=>zK o=false/\Bad Q k
 | .choose _ k=>∀n,Bad Q (k n)
 | .sys _ k=>∀r,Bad Q (k r)
 | .program k=>Bad Q (k Q)
 | .mark _ k=>Bad Q k
 | .halt h=>odd h=false
def yW(Q:qh2):qh8:=Q.types.size
def ShR[JunkSet](Q:qh2)(r:Nat)(x x':Option (qh8 × Nat)):Prop:=(¬ JunkSet.jk r/\x'=x)\/(JunkSet.jk r/\Q.globals.size<=r/\x=some (yW Q,0)/\∃e n,x'=some (e,n))
def SR[JunkSet](Q P:qh2){Y M:Type}(R:Rel Y M):Sem Y->Ren->Sem M->Prop
 | .pure a=>λZ s'=>∃b,s'=.pure b/\R Z a b
 | .load m a k=>λZ s'=>Bad Q (.load m a k)\/(m=.plain/\∃j k',s'=.load .plain ⟨j,a.off,a.spot⟩ k'/\BR Z a.block j/\∀v v',VR Z v v'->SR Q P R (k v) Z (k' v'))
 | .store m a v k=>λZ s'=>Bad Q (.store m a v k)\/(m=.plain/\∃j v' k',s'=.store .plain ⟨j,a.off,a.spot⟩ v' k'/\BR Z a.block j/\VR Z v v'/\SR Q P R k Z k')
 | .new o k=>λZ s'=>Bad Q (.new o k)\/∃o' k',s'=.new o' k'/\ObR Z o o'/\∀j,Out Z j->SR Q P R (k Z.length) (Z++[some j]) (k' j)
 | .shape r k=>λZ s'=>Bad Q (.shape r k)\/∃j k',s'=.shape j k'/\BR Z r j/\∀x x',ShR Q r x x'->SR Q P R (k x) Z (k' x')
 | .getObj r k=>λZ s'=>Bad Q (.getObj r k)\/∃j k',s'=.getObj j k'/\BR Z r j/\∀o o',ObR Z o o'->SR Q P R (k o) Z (k' o')
 | .setObj r o k=>λZ s'=>Bad Q (.setObj r o k)\/∃j o' k',s'=.setObj j o' k'/\BR Z r j/\ObR Z o o'/\SR Q P R k Z k'
 | .choose q k=>λZ s'=>Bad Q (.choose q k)\/∃k',s'=.choose q k'/\∀n,SR Q P R (k n) Z (k' n)
 | .sys c k=>λZ s'=>Bad Q (.sys c k)\/(c=.env/\∃k',s'=.sys .env k'/\∀r,SR Q P R (k r) Z (k' r))
 | .program k=>λZ s'=>Bad Q (.program k)\/∃k',s'=.program k'/\SR Q P R (k Q) Z (k' P)
 | .mark m k=>λZ s'=>Bad Q (.mark m k)\/(m=.noRoom/\∃k',s'=.mark .noRoom k'/\SR Q P R k Z k')
 | .halt (.panic v)=>λZ s'=>∃v',s'=.halt (.panic v')/\VR Z v v'
 | .halt h=>λ_ _=>odd h=false
 | .freeze a n k=>λ_ _=>Bad Q (.freeze a n k)
 | .frozen a k=>λ_ _=>Bad Q (.frozen a k)
theorem Bad.bind{Q:qh2}{Y W:Type}{s:Sem Y}(h:Bad Q s)(f:Y->Sem W):Bad Q (s.bind f):=by
 induction s with
 | pure a=>exact h.elim
 | load m a k ih=>exact λv=>ih v (h v)
 | store m a v k ih=>exact ih h
 | new o k ih=>exact⟨h.1,λv=>ih v (h.2 v)⟩
 | shape r k ih=>exact λv=>ih v (h v)
 | freeze a n k ih=>exact ih h
 | frozen a k ih=>exact λv=>ih v (h v)
 | getObj r k ih=>exact λv=>ih v (h v)
 | setObj r o k ih=>exact⟨h.1,ih h.2⟩
 | choose q k ih=>exact λv=>ih v (h v)
 | sys c k ih=>exact λv=>ih v (h v)
 | program k ih=>exact ih Q h
 | mark m k ih=>exact ih h
 | halt x=>exact h
theorem SR.bad[JunkSet]{Q P:qh2}{Y M:Type}{R:Rel Y M}{s:Sem Y}{Z:Ren}{s':Sem M}(h:Bad Q s):SR Q P R s Z s':=by
 cases s with
 | pure a=>exact h.elim
 | load m a k=>exact .inl h
 | store m a v k=>exact .inl h
 | new o k=>exact .inl h
 | shape r k=>exact .inl h
 | freeze a n k=>exact h
 | frozen a k=>exact h
 | getObj r k=>exact .inl h
 | setObj r o k=>exact .inl h
 | choose q k=>exact .inl h
 | sys c k=>exact .inl h
 | program k=>exact .inl h
 | mark m k=>exact .inl h
 | halt x=>
  cases x with
  | panic v=>cases h
  | _=>exact h
section
variable[JunkSet]{Q P:qh2}{Y M W X:Type}{R:Rel Y M}{S:Rel W X}
theorem SR.bind{s:Sem Y}{Z:Ren}{s':Sem M}{f:Y->Sem W}{f':M->Sem X}(h:SR Q P R s Z s')(hf:∀O a b,Le Z O->R O a b->SR Q P S (f a) O (f' b)):SR Q P S (s.bind f) Z (s'.bind f'):=by
 induction s generalizing Z s' with
 | pure a=>
  obtain⟨b,rfl,hr⟩:=h;exact hf Z a b (.refl Z) hr
 | load m a k ih=>
  rcases h with hb | ⟨hm,j,k',rfl,hb,hk⟩
  ·exact .bad (hb.bind f)
  ·exact .inr ⟨hm,j,_,rfl,hb,λv v' hv=>ih v (hk v v' hv) hf⟩
 | store m a v k ih=>
  rcases h with hb | ⟨hm,j,v',k',rfl,hb,hv,hk⟩
  ·exact .bad (Bad.bind (s:=.store m a v k) hb f)
  ·exact .inr ⟨hm,j,v',_,rfl,hb,hv,ih hk hf⟩
 | new o k ih=>
  rcases h with hb | ⟨o',k',rfl,ho,hk⟩
  ·exact .bad (hb.bind f)
  ·exact .inr ⟨o',_,rfl,ho,λj hj=>ih _ (hk j hj) λO a b l=>hf O a b ((Le.snoc Z j hj).trans l)⟩
 | shape r k ih=>
  rcases h with hb | ⟨j,k',rfl,hb,hk⟩
  ·exact .bad (hb.bind f)
  ·exact .inr ⟨j,_,rfl,hb,λx x' hx=>ih x (hk x x' hx) hf⟩
 | freeze a n k _=>exact .bad (Bad.bind (s:=.freeze a n k) h f)
 | frozen a k _=>exact .bad (Bad.bind (s:=.frozen a k) h f)
 | getObj r k ih=>
  rcases h with hb | ⟨j,k',rfl,hb,hk⟩
  ·exact .bad (hb.bind f)
  ·exact .inr ⟨j,_,rfl,hb,λo o' ho=>ih o (hk o o' ho) hf⟩
 | setObj r o k ih=>
  rcases h with hb | ⟨j,o',k',rfl,hb,ho,hk⟩
  ·exact .bad (Bad.bind (s:=.setObj r o k) hb f)
  ·exact .inr ⟨j,o',_,rfl,hb,ho,ih hk hf⟩
 | choose q k ih=>
  rcases h with hb | ⟨k',rfl,hk⟩
  ·exact .bad (hb.bind f)
  ·exact .inr ⟨_,rfl,λn=>ih n (hk n) hf⟩
 | sys c k ih=>
  rcases h with hb | ⟨hc,k',rfl,hk⟩
  ·exact .bad (hb.bind f)
  ·exact .inr ⟨hc,_,rfl,λr=>ih r (hk r) hf⟩
 | program k ih=>
  rcases h with hb | ⟨k',rfl,hk⟩
  ·exact .bad (hb.bind f)
  ·exact .inr ⟨_,rfl,ih Q hk hf⟩
 | mark m k ih=>
  rcases h with hb | ⟨rfl,k',rfl,hk⟩
  ·exact .bad (Bad.bind (s:=.mark m k) hb f)
  ·exact .inr ⟨rfl,_,rfl,ih hk hf⟩
 | halt x=>
  cases x with
  | panic v=>
   obtain⟨v',rfl,hv⟩:=h;exact⟨v',rfl,hv⟩
  | _=>exact h
theorem SR.imp{R':Rel Y M}{s:Sem Y}{Z:Ren}{s':Sem M}(h:SR Q P R s Z s')(hr:∀O a b,Le Z O->R O a b->R' O a b):SR Q P R' s Z s':=by
 have e:∀{Y:Type} (x:Sem Y),x.bind .pure=x:=by
  intro Y x;induction x with
  | pure a=>rfl
  | load m a k ih=>simp only[qmd,ih]
  | store m a v k ih=>simp only[qmd,ih]
  | new o k ih=>simp only[qmd,ih]
  | shape r k ih=>simp only[qmd,ih]
  | freeze a n k ih=>simp only[qmd,ih]
  | frozen a k ih=>simp only[qmd,ih]
  | getObj r k ih=>simp only[qmd,ih]
  | setObj r o k ih=>simp only[qmd,ih]
  | choose q k ih=>simp only[qmd,ih]
  | sys c k ih=>simp only[qmd,ih]
  | program k ih=>simp only[qmd,ih]
  | mark m k ih=>simp only[qmd,ih]
  | halt h=>rfl
 rw[<- e s,<- e s'];exact h.bind λO a b l hab=>⟨b,rfl,hr O a b l hab⟩
end
theorem BR.inj{Z:Ren}(hn:Inj Z){i i' j:Nat}(h:BR Z i j)(h':BR Z i' j):i=i':=hn i i' j h h'
def qf0(Q:qh2):Obj:=.cells #[] (yW Q) (0,0)
structure WR[JunkSet](Q:qh2)(base:Nat)(Z:Ren)(wq w:qgx):Prop where
 len:Z.length=wq.heap.size
 nodup:Inj Z
 lt:∀(i j:Nat),BR Z i j->j<w.heap.size
 obj:∀(i j:Nat) (o:Obj),BR Z i j->wq.heap[i]?=some o->(JunkSet.jk i/\o=qf0 Q/\Q.globals.size<=i/\∃c e f,w.heap[j]?=some (.cells c e f))\/(¬ JunkSet.jk i/\∃o',w.heap[j]?=some o'/\ObR Z o o')
 low:∀(i:Nat),i<base->∃c e f,wq.heap[i]?=some (.cells c e f)/\∀o,o<c.size->f.1<=o/\o<f.2
 env:wq.os.env=w.os.env
 below:∀(i:Nat),JunkSet.jk i->i<base
 gar:∀(i:Nat) (o:Obj),wq.heap[i]?=some o->(∃j,BR Z i j)\/zK o=false
def zx(D:Nat)(wq w:qgx):Prop:=∀(n:Nat) (q:qj1),wq.drawn+n<D->wq.tape (wq.drawn+n) q=w.tape (w.drawn+n) q
def rwR{Y:Type}:qlg Y->qgx
 | .ok _ w=>w
 | .halt _ w=>w
theorem xD(p:qh2)(w:qgx)(a:qi5)(u:qh8)(k:qi5)(v:qgB)(b:Bool){r:qgx × List qi5}(h:w.viewStore p a u k v b=.ok r):r.1.drawn=w.drawn:=by
 unfold qqH at h;simp only[bind,Except.bind,pure,Except.pure] at h
 repeat' (split at h)
 all_goals first | (cases h;rfl) | cases h | (cases h;done)
theorem q9d{Y:Type}(x:Ask Y):∀w:qgx,w.drawn<=(w.ask x).2.drawn:=by
 induction x with
 | done a=>intro w;exact qgA _
 | ask what range k ih=>
  intro w;unfold World.ask;dsimp only;split
  ·exact ih _ w
  ·refine qh0 (qqD _) ?_;exact ih ((Question.extern what range).cut (w.tape w.drawn (Question.extern what range))) { w with drawn:=w.drawn+1 }
theorem q7z(w:qgx)(c:Sys):w.drawn<=(w.sys c).2.drawn:=by
 unfold World.sys;have:=q9d (Kernel.perform c w.os) w;split
 ·exact qgA _
 ·rename_i h
  rw[h] at this;exact this
theorem vJ{Y:Type}(p:qh2)(s:Sem Y):∀w:qgx,w.drawn<=(rwR (s.run p w)).drawn:=by
 induction s with
 | pure a=>intro w;exact qgA _
 | load m a k ih=>
  intro w;simp only[qih];split
  ·exact ih _ w
  ·split
   ·exact ih _ w
   ·exact qgA _
 | store m a v k ih=>
  intro w;have key:w.drawn<=(rwR (match w.cell? a with
     | some _=>if w.frozen? a then(.halt (.unsupported (.unsafePointer "a write to bytes that a string shares")) w:qlg Y) else k.run p (w.setCell a v)
     | none=>match w.farStore p a v (m == .atomic) with
      | .ok (w,_)=>k.run p w
      | .error h=>.halt h w)).drawn:=by
   split
   ·split
    ·exact qgA _
    ·exact ih (w.setCell a v)
   ·split
    ·rename_i w' t a6
     refine qh0 ?_ (ih _);unfold qme at a6;split at a6
     ·split at a6
      ·rename_i r hr
       cases a6;exact qlF (xD _ _ _ _ _ _ _ hr).symm
      ·cases a6
     ·cases a6
    ·exact qgA _
  cases v<;>first | exact key | exact qgA _
 | new o k ih=>intro w;exact ih _ { w with heap:=w.heap.push o }
 | shape r k ih=>intro w;exact ih _ w
 | freeze a n k ih=>
  intro w;refine qh0 ?_ (ih (w.freeze a n));unfold qqa;split<;>exact qgA _
 | frozen a k ih=>intro w;exact ih _ w
 | getObj r k ih=>
  intro w;simp only[qih];cases ho:w.heap[r]? with
  | none=>exact qgA _
  | some o=>cases o<;>first | exact ih _ w | exact qgA _
 | setObj r o k ih=>
  intro w;simp only[qih];cases ho:w.heap[r]? with
  | none=>exact qgA _
  | some ob=>cases ob<;>first | exact ih { w with heap:=w.heap.setIfInBounds r o } | exact qgA _
 | choose q k ih=>
  intro w;simp only[qih];split
  ·exact ih _ w
  ·exact qh0 (qqD _) (ih _ { w with drawn:=w.drawn+1 })
 | sys c k ih=>intro w;exact qh0 (q7z w c) (ih _ _)
 | program k ih=>intro w;exact ih _ w
 | mark m k ih=>intro w;exact ih w
 | halt h=>intro w;exact qgA _
inductive kR [JunkSet] (base:Nat) (O:Ren):qiq->Prop
 | cell {i j:Nat} (off:Nat) (spot:Option Nat) (wr:Bool):BR O i j->¬ JunkSet.jk i->(wr=true->base<=i)->kR base O ⟨.cell ⟨j,off,spot⟩,wr,false⟩
 | obj {i j:Nat} (wr:Bool):BR O i j->base<=i->kR base O ⟨.obj j,wr,false⟩
 | noRoom:kR base O ⟨.mark .noRoom,false,true⟩
 | env:kR base O ⟨.output,true,false⟩
structure Eff(base:Nat)(Z O:Ren)(w w':qgx):Prop where
 le:Le Z O
 tape:w'.tape=w.tape
 os:w'.os=w.os
 output:w'.output=w.output
 size:w.heap.size<=w'.heap.size
 keep:∀j,j<w.heap.size->(∀i,BR Z i j->i<base)->w'.heap[j]?=w.heap[j]?
 fresh:∀i j,BR O i j->Z.length<=i->w.heap.size<=j
 mine:∀j,w.heap.size<=j->j<w'.heap.size->∃i,Z.length<=i/\BR O i j
theorem kR.mono[JunkSet]{base:Nat}{Z O:Ren}(l:Le Z O){e:qiq}(h:kR base Z e):kR base O e:=by
 cases h with
 | cell off spot wr h1 hk h2=>exact .cell off spot wr (h1.mono l) hk h2
 | obj wr h1 h2=>exact .obj wr (h1.mono l) h2
 | noRoom=>exact .noRoom
 | env=>exact .env
theorem Eff.refl(base:Nat){Z:Ren}(w:qgx):Eff base Z Z w w :=
 ⟨.refl Z,rfl,rfl,rfl,qgA _,λ_ _ _=>rfl,λi j h hi=>absurd h.lt (by omega),λj h1 h2=>by omega⟩
theorem Le.len{Z O:Ren}(l:Le Z O):Z.length<=O.length:=by
 obtain⟨⟨V,rfl⟩,_⟩:=l;simp
theorem BR.back{Z O:Ren}(l:Le Z O){i j:Nat}(h:BR O i j)(hi:i<Z.length):BR Z i j:=by
 obtain⟨⟨V,rfl⟩,_⟩:=l;unfold BR at h ⊢
 rwa [qhz hi] at h
theorem Eff.trans{base:Nat}{Z O V:Ren}{w w₁ w₂:qgx}(hb:base<=Z.length)(h:Eff base Z O w w₁)(k:Eff base O V w₁ w₂):Eff base Z V w w₂:=by
 refine⟨h.le.trans k.le,k.tape.trans h.tape,k.os.trans h.os,k.output.trans h.output,qh0 h.size k.size,λj hj hn=>?_,λi j hij hi=>?_,λj h1 h2=>?_⟩
 ·rw[k.keep j (qh7 hj h.size) λi hij=>?_,h.keep j hj hn];rcases qiC i Z.length with hl | hl
  ·exact hn i (hij.back h.le hl)
  ·have:=h.fresh i j hij hl;omega
 ·rcases qiC i O.length with hl | hl
  ·exact h.fresh i j (hij.back k.le hl) hi
  ·exact qh0 h.size (k.fresh i j hij hl)
 ·rcases qiC j w₁.heap.size with hl | hl
  ·obtain⟨i,hi,hij⟩:=h.mine j h1 hl;exact⟨i,hi,hij.mono k.le⟩
  ·obtain⟨i,hi,hij⟩:=k.mine j hl h2;exact⟨i,qh0 h.le.len hi,hij⟩
def vX{Y:Type}:qlg Y->Prop
 | .ok _ _=>True
 | .halt h _=>odd h=true
def zO(w:qgx):Prop:=∀(i:Nat) (o:Obj),w.heap[i]?=some o->zK o=false
theorem jM{w:qgx}(hw:zO w)(a:qi5)(x:String){Y:Type}(u:qgx):¬ vX (.halt (w.noCell a x) u:qlg Y):=by
 unfold World.noCell;split
 ·rename_i h
  have:=hw _ _ h;cases this
 ·exact λh=>by cases h
 ·exact λh=>by cases h
theorem q4n{p:qh2}{w:qgx}(hw:zO w){a:qi5}{b:Bool}{h:Halt}(e:w.farLoad p a b=.error h):odd h=false:=by
 unfold qpy at e;split at e
 ·split at e
  ·cases e
  ·cases e;rfl
 ·cases e;have:=jM hw a "load: no such cell" (Y:=Unit) w;cases ho:odd (w.noCell a "load: no such cell") with
  | false=>rfl
  | true=>exact absurd ho this
theorem q2m{p:qh2}{w:qgx}(hw:zO w){a:qi5}{v:qgB}{b:Bool}{h:Halt}(e:w.farStore p a v b=.error h):odd h=false:=by
 unfold qme at e;split at e
 ·split at e
  ·cases e
  ·cases e;rfl
 ·cases e;have:=jM hw a "store: no such cell" (Y:=Unit) w;cases ho:odd (w.noCell a "store: no such cell") with
  | false=>rfl
  | true=>exact absurd ho this
theorem yI{Y:Type}{h:Halt}(hp:odd h=false)(w:qgx):¬ vX (.halt h w:qlg Y):=λx=>by
 have x:odd h=true:=x;rw[hp] at x;cases x
theorem zO.set{w:qgx}(hw:zO w){r:Nat}{o:Obj}(ho:zK o=false):zO { w with heap:=w.heap.setIfInBounds r o }:=λi x hx=>by
 simp only[qhG] at hx;split at hx
 ·split at hx
  ·cases hx;exact ho
  ·cases hx
 ·exact hw i x hx
theorem zO.push{w:qgx}(hw:zO w){o:Obj}(ho:zK o=false):zO { w with heap:=w.heap.push o }:=λi x hx=>by
 simp only[ql1] at hx;split at hx
 ·cases hx;exact ho
 ·exact hw i x hx
theorem zO.modify{w:qgx}(hw:zO w)(r:Nat){f:Obj->Obj}(hf:∀o,zK o=false->zK (f o)=false):zO { w with heap:=w.heap.modify r f }:=λi x hx=>by
 simp only[qll] at hx;split at hx
 ·cases h:w.heap[i]? with
  | none=>rw[h] at hx;cases hx
  | some y=>
   rw[h] at hx;cases hx;exact hf y (hw i y h)
 ·exact hw i x hx
theorem zO.cell{w:qgx}(hw:zO w)(a:qi5)(v:qgB):zO (w.setCell a v):=hw.modify a.block λo ho=>by
 cases o<;>first | rfl | exact ho
theorem zO.freeze{w:qgx}(hw:zO w)(a:qi5)(n:Nat):zO (w.freeze a n):=by
 unfold qqa;split
 ·exact hw
 ·exact hw.modify a.block λo ho=>by
   cases o<;>first | rfl | exact ho
theorem KJ{p:qh2}{w:qgx}{a:qi5}{u:qh8}{k:qi5}{v:qgB}{b:Bool}{r:qgx × List qi5}(h:w.viewStore p a u k v b=.ok r):∃x o,zK o=false/\r.1={ w with heap:=w.heap.setIfInBounds x o }:=by
 unfold qqH at h;simp only[bind,Except.bind,pure,Except.pure] at h
 repeat' (split at h)
 all_goals first | (cases h;exact⟨_,_,rfl,rfl⟩) | cases h | (cases h;done)
theorem q9B(w:qgx)(c:Sys):(w.sys c).2.heap=w.heap:=by
 have key:∀{Y:Type} (x:Ask Y) (w:qgx),(w.ask x).2.heap=w.heap:=by
  intro Y x;induction x with
  | done a=>intro w;rfl
  | ask what range k ih=>
   intro w;unfold World.ask;dsimp only;split
   ·exact ih _ w
   ·exact ih _ { w with drawn:=w.drawn+1 }
 unfold World.sys;have:=key (Kernel.perform c w.os) w;split
 ·rfl
 ·rename_i h
  rw[h] at this;exact this
theorem Bad.not_fine{Y:Type}{p:qh2}{s:Sem Y}:∀{w:qgx},zO w->Bad p s->¬ vX (s.run p w):=by
 induction s with
 | pure a=>intro w _ h;exact h.elim
 | load m a k ih=>
  intro w hw h;simp only[qih];split
  ·exact ih _ hw (h _)
  ·split
   ·exact ih _ hw (h _)
   ·rename_i e
    exact yI (q4n hw e) w
 | store m a v k ih=>
  intro w hw h;have key:¬ vX (match w.cell? a with
     | some _=>if w.frozen? a then(.halt (.unsupported (.unsafePointer "a write to bytes that a string shares")) w:qlg Y) else k.run p (w.setCell a v)
     | none=>match w.farStore p a v (m == .atomic) with
      | .ok (w,_)=>k.run p w
      | .error h=>.halt h w):=by
   split
   ·split
    ·exact λh=>by cases h
    ·exact ih (hw.cell a v) h
   ·split
    ·rename_i w' t e
     refine ih ?_ h;unfold qme at e;split at e
     ·split at e
      ·rename_i r hr
       cases e;obtain⟨x,o,ho,hx⟩:=KJ hr;have hx:w'={ w with heap:=w.heap.setIfInBounds x o }:=hx;rw[hx];exact hw.set ho
      ·cases e
     ·cases e
    ·rename_i e
     exact yI (q2m hw e) w
  cases v<;>first | exact key | exact λh=>by cases h
 | new o k ih=>intro w hw h;exact ih _ (hw.push h.1) (h.2 _)
 | shape r k ih=>intro w hw h;exact ih _ hw (h _)
 | freeze a n k ih=>intro w hw h;exact ih (w:=w.freeze a n) (hw.freeze a n) h
 | frozen a k ih=>intro w hw h;exact ih _ hw (h _)
 | getObj r k ih=>
  intro w hw h;simp only[qih];cases ho:w.heap[r]? with
  | none=>exact λh=>by cases h
  | some o=>cases o<;>first | exact ih _ hw (h _) | exact λh=>by cases h
 | setObj r o k ih=>
  intro w hw h;simp only[qih];cases ho:w.heap[r]? with
  | none=>exact λh=>by cases h
  | some ob=>cases ob<;>first | exact ih (hw.set h.1) h.2 | exact λh=>by cases h
 | choose q k ih=>
  intro w hw h;simp only[qih];split
  ·exact ih _ hw (h _)
  ·exact ih _ (w:={ w with drawn:=w.drawn+1 }) hw (h _)
 | sys c k ih=>
  intro w hw h;refine ih _ (w:=(w.sys c).2) (λi o ho=>hw i o ?_) (h _)
  rwa [q9B] at ho
 | program k ih=>intro w hw h;exact ih _ hw h
 | mark m k ih=>intro w hw h;exact ih hw h
 | halt x=>intro w hw h;exact yI h w
inductive q6q [JunkSet] {Y M:Type} (R:Rel Y M) (O:Ren):qlg Y->qgx->qlg M->qgx->Prop
 | ok {a:Y} {b:M} (wq w:qgx):R O a b->q6q R O (.ok a wq) wq (.ok b w) w
 | panic {v v':qgB} (wq w:qgx):VR O v v'->q6q R O (.halt (.panic v) wq) wq (.halt (.panic v') w) w
section
variable[JunkSet]{Q P:qh2}{base:Nat}
theorem WR.looked{Z:Ren}{wq w:qgx}(h:WR Q base Z wq w){a:qi5}{j:Nat}(hb:BR Z a.block j){v:qgB}(hv:wq.cell? a=some v):¬ JunkSet.jk a.block:=by
 intro hk;unfold qhs at hv;split at hv
 ·rename_i c e f hc
  rcases h.obj _ _ _ hb hc with⟨_,ho,_⟩ | ⟨hn,_⟩
  ·cases ho;split at hv<;>simp at hv
  ·exact hn hk
 ·cases hv
theorem WR.cell{Z:Ren}{wq w:qgx}(h:WR Q base Z wq w){a:qi5}{j:Nat}(hb:BR Z a.block j){v:qgB}(hv:wq.cell? a=some v) :∃v',w.cell? ⟨j,a.off,a.spot⟩=some v'/\VR Z v v':=by
 unfold qhs at hv;split at hv
 ·rename_i c e f hc
  split at hv
  ·cases hv
  ·rename_i hs
   rcases h.obj _ _ _ hb hc with⟨_,hj,_⟩ | ⟨_,o',ho',hr⟩
   ·cases hj;simp at hv
   ·cases hr with
    | cells e hcs hf=>
     obtain⟨v',a7,a6⟩:=hcs.get hv;refine⟨v',?_,a6⟩;unfold qhs;simp only[ho'];rw[if_neg hs];exact a7
 ·cases hv
theorem WR.nopend{Z:Ren}{wq w:qgx}(h:WR Q base Z wq w):zO wq:=λi o ho=>by
 rcases h.gar i o ho with⟨j,hb⟩ | hp
 ·rcases h.obj _ _ _ hb ho with⟨_,rfl,_⟩ | ⟨_,o',_,hr⟩
  ·rfl
  ·cases hr<;>rfl
 ·exact hp
theorem WR.shape{Z:Ren}{wq w:qgx}(h:WR Q base Z wq w){i j:Nat}(hb:BR Z i j):ShR Q i (wq.shape? i) (w.shape? j):=by
 have hi:i<wq.heap.size:=by rw[<- h.len];exact hb.lt
 have ho:wq.heap[i]?=some wq.heap[i]:=qhi hi;rcases h.obj _ _ _ hb ho with⟨a6,hj,hgl,c,e,f,hc⟩ | ⟨a6,o',ho',hr⟩
 ·rw[hj] at ho;exact .inr ⟨a6,hgl,by simp[qoz,ho,qf0],e,c.size,by simp[qoz,hc]⟩
 ·refine .inl ⟨a6,?_⟩;unfold qoz;rw[ho,ho'];generalize wq.heap[i]=x at hr;cases hr with
  | cells e h1 h2=>simp[h1.1]
  | _=>rfl
theorem WR.noview{Z:Ren}{wq w:qgx}(h:WR Q base Z wq w){i j:Nat}(hb:BR Z i j)(a:qi5)(t:qh8):wq.heap[i]?≠some (.view a t):=by
 intro hc;rcases h.obj _ _ _ hb hc with⟨_,hj,_⟩ | ⟨_,o',_,hr⟩
 ·cases hj
 ·cases hr
theorem WR.set{Z:Ren}{wq w:qgx}(h:WR Q base Z wq w){a:qi5}{j:Nat}(hb:BR Z a.block j){u v v':qgB}(hc:wq.cell? a=some u)(hf:wq.frozen? a=false)(hv:VR Z v v') :base<=a.block/\w.frozen? ⟨j,a.off,a.spot⟩=false/\WR Q base Z (wq.setCell a v) (w.setCell ⟨j,a.off,a.spot⟩ v')/\Eff base Z Z w (w.setCell ⟨j,a.off,a.spot⟩ v'):=by
 unfold qhs at hc;split at hc
 ·rename_i c e f hcs
  split at hc
  ·cases hc
  ·rename_i hs
   have a8:a.spot=none:=by
    cases hsp:a.spot with
    | none=>rfl
    | some _=>rw[hsp] at hs;exact absurd rfl hs
   have hlt:a.off<c.size:=(qgy.1 hc).1;have hbase:base<=a.block:=by
    rcases qiC a.block base with hl | hl
    ·obtain⟨c',e',f',h1,h2⟩:=h.low _ hl;rw[hcs] at h1;cases h1;have:=h2 _ hlt;simp[qkr,hcs,this.1,this.2] at hf
    ·exact hl
   rcases h.obj _ _ _ hb hcs with⟨_,hj,_⟩ | ⟨_,o',ho',hr⟩
   ·cases hj;simp at hlt
   ·cases hr with
    | @cells _ c' _ _ f' hcc hff=>
     have b6:w.frozen? ⟨j,a.off,a.spot⟩=false:=by
      simp only[qkr,ho'];rw[Bool.eq_false_iff];intro hx;simp only[qhh,decide_eq_true_eq] at hx;have:=hff _ hx.1 hx.2;simp[qkr,hcs,this.1,this.2] at hf
     have hi:a.block<wq.heap.size:=(qgy.1 hcs).1;have b8:j<w.heap.size:=(qgy.1 ho').1;have a7:∀i:Nat,(wq.setCell a v).heap[i]?=if i=a.block then some (.cells (c.setIfInBounds a.off v) e f) else wq.heap[i]?:=by
      intro i;simp only[qjc,qll];by_cases hx:a.block=i
      ·subst hx;simp[hcs,a8]
      ·rw[if_neg hx,if_neg (λx=>hx x.symm)]
     have b0:∀i:Nat,(w.setCell ⟨j,a.off,a.spot⟩ v').heap[i]?=if i=j then some (.cells (c'.setIfInBounds a.off v') e f') else w.heap[i]?:=by
      intro i;simp only[qjc,qll];by_cases hx:j=i
      ·subst hx;simp[ho',a8]
      ·rw[if_neg hx,if_neg (λx=>hx x.symm)]
     refine⟨hbase,b6,⟨by rw[h.len];simp[qjc],h.nodup,λi k hk=>by have:=h.lt i k hk;simpa[qjc] using this,λi k o hik ho=>?_,λi a9=>?_,h.env,h.below,λi o a6=>by
      rw[a7] at a6;by_cases hx:i=a.block
      ·exact .inl ⟨j,hx ▸ hb⟩
      ·rw[if_neg hx] at a6;exact h.gar i o a6⟩,⟨.refl Z,rfl,rfl,rfl,by simp[qjc],λk hk hn=>?_,λi k hik a9=>absurd hik.lt (by omega),λk h1 h2=>by simp[qjc] at h2;omega⟩⟩
     ·rw[a7] at ho;rw[b0];by_cases hx:i=a.block
      ·subst hx;have:k=j:=hik.fn hb;subst this;rw[if_pos rfl] at ho ⊢;cases ho;exact .inr ⟨λhk=>by have:=h.below _ hk;omega,_,rfl,.cells e (hcc.set _ hv) hff⟩
      ·have b7:k≠j:=λx=>by
        subst x;exact hx (hik.inj h.nodup hb)
       rw[if_neg hx] at ho;rw[if_neg b7];exact h.obj i k o hik ho
     ·obtain⟨c1,e1,f1,h1,h2⟩:=h.low i a9;refine⟨c1,e1,f1,?_,h2⟩;rw[a7,if_neg (by omega)];exact h1
     ·rw[b0];by_cases hx:k=j
      ·subst hx;have:=hn _ hb;omega
      ·rw[if_neg hx]
 ·cases hc
theorem WR.setO{Z:Ren}{wq w:qgx}(h:WR Q base Z wq w){r j:Nat}(hb:BR Z r j){o o' ob:Obj}(hc:wq.heap[r]?=some ob)(hnc:∀c e f,ob≠.cells c e f)(ho:ObR Z o o') :base<=r/\(∃a6,w.heap[j]?=some a6/\ObR Z ob a6)/\WR Q base Z { wq with heap:=wq.heap.setIfInBounds r o } { w with heap:=w.heap.setIfInBounds j o' }/\Eff base Z Z w { w with heap:=w.heap.setIfInBounds j o' }:=by
 have hbase:base<=r:=by
  rcases qiC r base with hl | hl
  ·obtain⟨c,e,f,h1,_⟩:=h.low _ hl;rw[hc] at h1;cases h1;exact absurd rfl (hnc _ _ _)
  ·exact hl
 have hrel:∃a6,w.heap[j]?=some a6/\ObR Z ob a6:=by
  rcases h.obj _ _ _ hb hc with⟨_,hj,_⟩ | ⟨_,hr⟩
  ·exact absurd hj (hnc _ _ _)
  ·exact hr
 obtain⟨a6,ho',hr⟩:=hrel;have hi:r<wq.heap.size:=(qgy.1 hc).1;have a8:j<w.heap.size:=(qgy.1 ho').1;refine⟨hbase,⟨a6,ho',hr⟩,⟨by rw[h.len];simp,h.nodup,λi k hk=>by have:=h.lt i k hk;simpa using this,λi k x hik hx=>?_,λi a9=>?_,h.env,h.below,λi x a7=>by
   rw[qhG] at a7;by_cases hy:r=i
   ·exact .inl ⟨j,hy ▸ hb⟩
   ·rw[if_neg hy] at a7;exact h.gar i x a7⟩,⟨.refl Z,rfl,rfl,rfl,by simp,λk hk hn=>?_,λi k hik a9=>absurd hik.lt (by omega),λk h1 h2=>by simp at h2;omega⟩⟩
 ·simp only[qhG] at hx ⊢;by_cases hy:r=i
  ·subst hy;have:k=j:=hik.fn hb;subst this;rw[if_pos rfl,if_pos hi] at hx;cases hx;refine .inr ⟨λhk=>by have:=h.below _ hk;omega,o',?_,ho⟩;rw[if_pos rfl,if_pos a8]
  ·have b0:j≠k:=λx=>by
    subst x;exact hy (hb.inj h.nodup hik)
   rw[if_neg hy] at hx;rw[if_neg b0];exact h.obj i k x hik hx
 ·obtain⟨c1,e1,f1,h1,h2⟩:=h.low i a9;refine⟨c1,e1,f1,?_,h2⟩;simp only[qhG];rw[if_neg (by omega)];exact h1
 ·simp only[qhG];by_cases hx:j=k
  ·subst hx;have:=hn _ hb;omega
  ·rw[if_neg hx]
theorem WR.newO{Z:Ren}{wq w:qgx}(h:WR Q base Z wq w)(hb:base<=Z.length){o o':Obj}(ho:ObR Z o o') :WR Q base (Z++[some w.heap.size]) { wq with heap:=wq.heap.push o } { w with heap:=w.heap.push o' }/\Eff base Z (Z++[some w.heap.size]) w { w with heap:=w.heap.push o' }:=by
 have hle:Le Z (Z++[some w.heap.size]):=.snoc _ _ λi hi=>qm6 _ (h.lt i _ hi);have a6:∀{i j:Nat},BR (Z++[some w.heap.size]) i j->(i<Z.length/\BR Z i j)\/(i=Z.length/\j=w.heap.size):=by
  intro i j hij;rcases hij.snoc_cases with hh | ⟨h1,h2⟩
  ·exact .inl hh
  ·exact .inr ⟨h1,(qjF h2).symm⟩
 refine⟨⟨by simp[h.len],?_,λi j hij=>?_,λi j x hij hx=>?_,λi hi=>?_,h.env,h.below,λi o hi=>?_⟩,⟨hle,rfl,rfl,rfl,by simp,λj hj hn=>?_,λi j hij hi=>?_,λj h1 h2=>?_⟩⟩
 ·exact hle.2 h.nodup
 ·rcases a6 hij with⟨hl,hb'⟩ | ⟨rfl,rfl⟩
  ·have:=h.lt i j hb';simp;omega
  ·simp
 ·simp only[ql1] at hx ⊢;rcases a6 hij with⟨hl,hb'⟩ | ⟨rfl,rfl⟩
  ·have h1:=h.lt i j hb';rw[if_neg (by have:=h.len;omega)] at hx;rw[if_neg (by omega)];rcases h.obj i j x hb' hx with⟨hk,rfl,hc⟩ | ⟨hk,y,hy,hr⟩
   ·exact .inl ⟨hk,rfl,hc⟩
   ·exact .inr ⟨hk,y,hy,hr.mono hle⟩
  ·rw[if_pos h.len] at hx;cases hx;exact .inr ⟨λhk=>by have:=h.below _ hk;omega,o',by simp,ho.mono hle⟩
 ·obtain⟨c1,e1,f1,h1,h2⟩:=h.low i hi;refine⟨c1,e1,f1,?_,h2⟩;simp only[ql1];have:=h.len;rw[if_neg (by omega)];exact h1
 ·simp only[ql1] at hi;split at hi
  ·rename_i e
   exact .inl ⟨w.heap.size,by rw[e,<- h.len];exact BR.new _ _⟩
  ·rcases h.gar i o hi with⟨j,hj⟩ | hp
   ·exact .inl ⟨j,hj.mono hle⟩
   ·exact .inr hp
 ·simp only[ql1];rw[if_neg (by omega)]
 ·rcases a6 hij with⟨hl,_⟩ | ⟨_,rfl⟩
  ·omega
  ·exact qgA _
 ·simp at h2;have:j=w.heap.size:=by omega
  subst this;exact⟨Z.length,qgA _,BR.new _ _⟩
theorem WR.draw{Z:Ren}{wq w:qgx}(h:WR Q base Z wq w):WR Q base Z { wq with drawn:=wq.drawn+1 } { w with drawn:=w.drawn+1 }/\Eff base Z Z w { w with drawn:=w.drawn+1 } :=
 ⟨⟨h.len,h.nodup,h.lt,h.obj,h.low,h.env,h.below,h.gar⟩,⟨.refl Z,rfl,rfl,rfl,qgA _,λ_ _ _=>rfl,λi k hik a6=>absurd hik.lt (by omega),λk h1 h2=>by simp at h2;omega⟩⟩
omit [JunkSet] in
theorem zx.draw{D:Nat}{wq w:qgx}(h:zx D wq w):zx D { wq with drawn:=wq.drawn+1 } { w with drawn:=w.drawn+1 }:=λn q hn=>by
 have:=h (n+1) q (by simp only at hn;omega);simpa[qmw,Nat.add_comm 1 n] using this
omit [JunkSet] in
theorem zx.heap{D:Nat}{wq w wq' w':qgx}(h:zx D wq w)(h1:wq'.tape=wq.tape)(h2:wq'.drawn=wq.drawn)(h3:w'.tape=w.tape)(h4:w'.drawn=w.drawn):zx D wq' w':=λn q hn=>by
 rw[h1,h2,h3,h4];exact h n q (by rw[<- h2];exact hn)
theorem yx{Y:Type}{p:qh2}{r:Nat}{k:Obj->Sem Y}{w:qgx}{o:Obj}(h:w.heap[r]?=some o)(hn:∀c e f,o≠.cells c e f):(Sem.getObj r k).run p w=(k o).run p w:=by
 rw[qih,h];cases o<;>first | exact absurd rfl (hn _ _ _) | rfl
theorem q3t{Y:Type}{p:qh2}{r:Nat}{k:Obj->Sem Y}{w:qgx}{o:Obj}(es:Array qiq)(h:w.heap[r]?=some o)(hn:∀c e f,o≠.cells c e f):(Sem.getObj r k).runT p w es=(k o).runT p w (es.push ⟨.obj r,false,o.isChan⟩):=by
 rw[qly,h];cases o<;>first | exact absurd rfl (hn _ _ _) | rfl
theorem yw{Y:Type}{p:qh2}{r:Nat}{x:Obj}{k:Sem Y}{w:qgx}{o:Obj}(h:w.heap[r]?=some o)(hn:∀c e f,o≠.cells c e f):(qr3 r x k).run p w=k.run p { w with heap:=w.heap.setIfInBounds r x }:=by
 rw[qih,h];cases o<;>first | exact absurd rfl (hn _ _ _) | rfl
theorem q3s{Y:Type}{p:qh2}{r:Nat}{x:Obj}{k:Sem Y}{w:qgx}{o:Obj}(es:Array qiq)(h:w.heap[r]?=some o)(hn:∀c e f,o≠.cells c e f):(qr3 r x k).runT p w es=k.runT p { w with heap:=w.heap.setIfInBounds r x } (es.push ⟨.obj r,true,x.isChan⟩):=by
 rw[qly,h];cases o<;>first | exact absurd rfl (hn _ _ _) | rfl
theorem SR.runs{Y M:Type}{R:Rel Y M}{s:Sem Y}{D:Nat}:∀{Z:Ren} {s':Sem M} {wq w:qgx} (es:Array qiq),SR Q P R s Z s'->base<=Z.length->WR Q base Z wq w->zx D wq w->(rwR (s.run Q wq)).drawn<=D->vX (s.run Q wq) ->∃O wq' w' es',q6q R O (s.run Q wq) wq' (s'.run P w) w'/\(s'.runT P w es).2=es++es'/\(∀e∈es',kR base O e)/\WR Q base O wq' w'/\zx D wq' w'/\Eff base Z O w w'/\wq'.drawn+w.drawn=wq.drawn+w'.drawn:=by
 induction s with
 | pure a=>
  intro Z s' wq w es h hb hw ht _ _;obtain⟨b,rfl,hr⟩:=h;exact⟨Z,wq,w,#[],.ok wq w hr,by simp[qly],by simp,hw,ht,.refl base w,rfl⟩
 | load m a k ih=>
  intro Z s' wq w es h hb hw ht hd hf;rcases h with hbad | ⟨rfl,j,k',rfl,hbr,hk⟩
  ·exact absurd hf (Bad.not_fine hw.nopend hbad)
  simp only[qih] at hd hf ⊢;cases hc:wq.cell? a with
  | none=>
   rw[hc] at hf;simp only[qpy] at hf;split at hf
   ·rename_i hv
    split at hv
    ·rename_i a7
     exact absurd a7 (hw.noview hbr _ _)
    ·cases hv
   ·rename_i hv
    split at hv
    ·rename_i a7
     exact absurd a7 (hw.noview hbr _ _)
    ·cases hv;exact absurd hf (jM hw.nopend _ _ _)
  | some v=>
   obtain⟨v',a7,hr⟩:=hw.cell hbr hc;rw[hc] at hd hf;simp only[a7] at hd hf ⊢;obtain⟨O,wq',w',es',h1,h2,h3,h4,h5,h6,h7⟩:=ih v (es.push ⟨.cell ⟨j,a.off,a.spot⟩,false,false⟩) (hk v v' hr) hb hw ht hd hf;refine⟨O,wq',w',#[⟨.cell ⟨j,a.off,a.spot⟩,false,false⟩]++es',h1,?_,?_,h4,h5,h6,h7⟩
   ·simp only[qly,a7];rw[show((Mode.plain == Mode.atomic)=false) from rfl,h2];simp
   ·intro e he;rw[qkb] at he;rcases he with he | he
    ·simp at he;subst he;exact .cell _ _ _ (hbr.mono h6.le) (hw.looked hbr hc) (by simp)
    ·exact h3 e he
 | store m a v k ih=>
  intro Z s' wq w es h hb hw ht hd hf;rcases h with hbad | ⟨rfl,j,v',k',rfl,hbr,hv,hk⟩
  ·exact absurd hf (Bad.not_fine hw.nopend (s:=.store m a v k) hbad)
  have c3:(∃x,v=.agg x)\/(∃x,v=.tuple x)\/((∀x,v≠.agg x)/\∀x,v≠.tuple x):=by
   cases v<;>simp
  rcases c3 with⟨x,rfl⟩ | ⟨x,rfl⟩ | ⟨hna,hnt⟩
  ·simp only[qih] at hf;exact absurd hf (λh=>by cases h)
  ·simp only[qih] at hf;exact absurd hf (λh=>by cases h)
  ·have b8:∀x,v'≠.agg x:=λx e=>by subst e;cases hv<;>first | exact hna _ rfl | (rename_i h;cases h)
   have b7:∀x,v'≠.tuple x:=λx e=>by subst e;cases hv<;>first | exact hnt _ rfl | (rename_i h;cases h)
   have e1:(qqs .plain a v k).run Q wq=match wq.cell? a with
     | some _=>if wq.frozen? a then .halt (.unsupported (.unsafePointer "a write to bytes that a string shares")) wq else k.run Q (wq.setCell a v)
     | none=>match wq.farStore Q a v false with
      | .ok (w,_)=>k.run Q w
      | .error h=>.halt h wq:=by
    cases v<;>first | rfl | exact absurd rfl (hna _) | exact absurd rfl (hnt _)
   have e2:(qqs .plain (⟨j,a.off,a.spot⟩:qi5) v' k').run P w=match w.cell? ⟨j,a.off,a.spot⟩ with
     | some _=>if w.frozen? ⟨j,a.off,a.spot⟩ then .halt (.unsupported (.unsafePointer "a write to bytes that a string shares")) w else k'.run P (w.setCell ⟨j,a.off,a.spot⟩ v')
     | none=>match w.farStore P ⟨j,a.off,a.spot⟩ v' false with
      | .ok (w,_)=>k'.run P w
      | .error h=>.halt h w:=by
    cases v'<;>first | rfl | exact absurd rfl (b8 _) | exact absurd rfl (b7 _)
   have e3:((qqs .plain (⟨j,a.off,a.spot⟩:qi5) v' k').runT P w es).2=(match w.cell? ⟨j,a.off,a.spot⟩ with
     | some _=>if w.frozen? ⟨j,a.off,a.spot⟩ then((Result.halt (.unsupported (.unsafePointer "a write to bytes that a string shares")) w:qlg M),es) else k'.runT P (w.setCell ⟨j,a.off,a.spot⟩ v') (es.push ⟨.cell ⟨j,a.off,a.spot⟩,true,false⟩)
     | none=>match w.farStore P ⟨j,a.off,a.spot⟩ v' false with
      | .ok (w,touched)=>k'.runT P w (es++touched.toArray.map λx=>(⟨.cell x,true,false⟩:qiq))
      | .error h=>((Result.halt h w:qlg M),es)).2:=by
    cases v'<;>first | rfl | exact absurd rfl (b8 _) | exact absurd rfl (b7 _)
   rw[e1] at hd hf ⊢;rw[e2,e3];cases hc:wq.cell? a with
   | none=>
    rw[hc] at hf;simp only[qme] at hf;split at hf
    ·rename_i hv
     split at hv
     ·rename_i a7
      exact absurd a7 (hw.noview hbr _ _)
     ·cases hv
    ·rename_i hv
     split at hv
     ·rename_i a7
      exact absurd a7 (hw.noview hbr _ _)
     ·cases hv;exact absurd hf (jM hw.nopend _ _ _)
   | some u=>
    obtain⟨u',d5,_⟩:=hw.cell hbr hc;rw[hc] at hd hf;simp only[d5] at hd hf ⊢;cases hfz:wq.frozen? a with
    | true=>
     rw[hfz] at hf;exact absurd hf (λh=>by cases h)
    | false=>
     obtain⟨hbase,c8,a9,b0⟩:=hw.set hbr hc hfz hv;rw[hfz] at hd hf;simp only[c8,qhy,if_false] at hd hf ⊢;obtain⟨O,wq',w',es',h1,h2,h3,h4,h5,h6,h7⟩:=ih (es.push ⟨.cell ⟨j,a.off,a.spot⟩,true,false⟩) hk hb a9 (ht.heap rfl rfl rfl rfl) hd hf;refine⟨O,wq',w',#[⟨.cell ⟨j,a.off,a.spot⟩,true,false⟩]++es',h1,by rw[h2];simp,?_,h4,h5,b0.trans hb h6,h7⟩;intro e he;rw[qkb] at he;rcases he with he | he
     ·simp at he;subst he;exact .cell _ _ _ (hbr.mono h6.le) (λhk=>absurd (hw.below _ hk) (by omega)) (λ_=>hbase)
     ·exact h3 e he
 | new o k ih=>
  intro Z s' wq w es h hb hw ht hd hf;rcases h with hbad | ⟨o',k',rfl,ho,hk⟩
  ·exact absurd hf (Bad.not_fine hw.nopend (s:=.new o k) hbad)
  simp only[qih] at hd hf ⊢;obtain⟨a9,b0⟩:=hw.newO hb ho;have hk':=hk w.heap.size (λi hi=>qm6 _ (hw.lt i _ hi));rw[hw.len] at hk';obtain⟨O,wq',w',es',h1,h2,h3,h4,h5,h6,h7⟩:=ih _ es hk' (by simp;omega) a9 (ht.heap rfl rfl rfl rfl) hd hf;exact⟨O,wq',w',es',h1,by simp only[qly];exact h2,h3,h4,h5,b0.trans hb h6,by simp only at h7;omega⟩
 | shape r k ih=>
  intro Z s' wq w es h hb hw ht hd hf;rcases h with hbad | ⟨j,k',rfl,hbr,hk⟩
  ·exact absurd hf (Bad.not_fine hw.nopend (s:=.shape r k) hbad)
  simp only[qih] at hd hf ⊢;obtain⟨O,wq',w',es',h1,h2,h3,h4,h5,h6,h7⟩:=ih _ es (hk _ _ (hw.shape hbr)) hb hw ht hd hf;exact⟨O,wq',w',es',h1,by simp only[qly];exact h2,h3,h4,h5,h6,h7⟩
 | freeze a n k _=>intro Z s' wq w es h hb hw ht hd hf;exact absurd hf (Bad.not_fine hw.nopend (s:=.freeze a n k) h)
 | frozen a k _=>intro Z s' wq w es h hb hw ht hd hf;exact absurd hf (Bad.not_fine hw.nopend (s:=.frozen a k) h)
 | getObj r k ih=>
  intro Z s' wq w es h hb hw ht hd hf;rcases h with hbad | ⟨j,k',rfl,hbr,hk⟩
  ·exact absurd hf (Bad.not_fine hw.nopend (s:=.getObj r k) hbad)
  cases ho:wq.heap[r]? with
  | none=>simp only[qih,ho] at hf;exact absurd hf (λh=>by cases h)
  | some o=>
   by_cases a6:∃c e f,o=.cells c e f
   ·obtain⟨c,e,f,rfl⟩:=a6;simp only[qih,ho] at hf;exact absurd hf (λh=>by cases h)
   ·have hnc:∀c e f,o≠.cells c e f:=λc e f x=>a6 ⟨c,e,f,x⟩;have hbase:base<=r:=by
     rcases qiC r base with hl | hl
     ·obtain⟨c,e,f,h1,_⟩:=hw.low _ hl;rw[ho] at h1;cases h1;exact absurd rfl (hnc _ _ _)
     ·exact hl
    rcases hw.obj _ _ _ hbr ho with⟨_,hj,_⟩ | ⟨_,o',ho',hr⟩
    ·exact absurd hj (hnc _ _ _)
    ·have a8:∀c e f,o'≠.cells c e f:=λc e f x=>by subst x;cases hr;exact hnc _ _ _ rfl
     have b9:o'.isChan=false:=by cases hr<;>rfl
     rw[yx ho hnc] at hd hf;rw[yx ho hnc,yx ho' a8,q3t es ho' a8,b9];obtain⟨O,wq',w',es',h1,h2,h3,h4,h5,h6,h7⟩:=ih o (es.push ⟨.obj j,false,false⟩) (hk _ _ hr) hb hw ht hd hf;refine⟨O,wq',w',#[⟨.obj j,false,false⟩]++es',h1,by rw[h2];simp,?_,h4,h5,h6,h7⟩;intro e he;rw[qkb] at he;rcases he with he | he
     ·simp at he;subst he;exact .obj _ (hbr.mono h6.le) hbase
     ·exact h3 e he
 | setObj r o k ih=>
  intro Z s' wq w es h hb hw ht hd hf;rcases h with hbad | ⟨j,o',k',rfl,hbr,hor,hk⟩
  ·exact absurd hf (Bad.not_fine hw.nopend (s:=.setObj r o k) hbad)
  cases ho:wq.heap[r]? with
  | none=>simp only[qih,ho] at hf;exact absurd hf (λh=>by cases h)
  | some ob=>
   by_cases a6:∃c e f,ob=.cells c e f
   ·obtain⟨c,e,f,rfl⟩:=a6;simp only[qih,ho] at hf;exact absurd hf (λh=>by cases h)
   ·have hnc:∀c e f,ob≠.cells c e f:=λc e f x=>a6 ⟨c,e,f,x⟩;obtain⟨hbase,⟨c9,b6,hr⟩,a9,b0⟩:=hw.setO hbr ho hnc hor;have a8:∀c e f,c9≠.cells c e f:=λc e f x=>by subst x;cases hr;exact hnc _ _ _ rfl
    have b9:o'.isChan=false:=by cases hor<;>rfl
    rw[yw ho hnc] at hd hf;rw[yw ho hnc,yw b6 a8,q3s es b6 a8,b9];obtain⟨O,wq',w',es',h1,h2,h3,h4,h5,h6,h7⟩:=ih (es.push ⟨.obj j,true,false⟩) hk hb a9 (ht.heap rfl rfl rfl rfl) hd hf;refine⟨O,wq',w',#[⟨.obj j,true,false⟩]++es',h1,by rw[h2];simp,?_,h4,h5,b0.trans hb h6,h7⟩;intro e he;rw[qkb] at he;rcases he with he | he
    ·simp at he;subst he;exact .obj _ (hbr.mono h6.le) hbase
    ·exact h3 e he
 | choose q k ih=>
  intro Z s' wq w es h hb hw ht hd hf;rcases h with hbad | ⟨k',rfl,hk⟩
  ·exact absurd hf (Bad.not_fine hw.nopend (s:=.choose q k) hbad)
  simp only[qih] at hd hf ⊢;cases hq:q.forced with
  | true=>
   rw[hq] at hd hf;simp only[if_true] at hd hf ⊢;obtain⟨O,wq',w',es',h1,h2,h3,h4,h5,h6,h7⟩:=ih _ es (hk _) hb hw ht hd hf;exact⟨O,wq',w',es',h1,by simp only[qly,hq,if_true];exact h2,h3,h4,h5,h6,h7⟩
  | false=>
   rw[hq] at hd hf;simp only[qhy,if_false] at hd hf ⊢;have d6:wq.tape wq.drawn q=w.tape w.drawn q:=by
    have:=qh0 (vJ Q _ _) hd;simpa using ht 0 q (by simp only at this;omega)
   obtain⟨a9,b0⟩:=hw.draw;rw[d6] at hd hf ⊢;obtain⟨O,wq',w',es',h1,h2,h3,h4,h5,h6,h7⟩:=ih _ es (hk _) hb a9 ht.draw hd hf;exact⟨O,wq',w',es',h1,by simp only[qly,hq,qhy,if_false];exact h2,h3,h4,h5,b0.trans hb h6,by simp only at h7;omega⟩
 | sys c k ih=>
  intro Z s' wq w es h hb hw ht hd hf;rcases h with hbad | ⟨rfl,k',rfl,hk⟩
  ·exact absurd hf (Bad.not_fine hw.nopend (s:=.sys c k) hbad)
  have e1:∀u:qgx,u.sys .env=(.strings u.os.env,u):=λu=>rfl;simp only[qih,e1] at hd hf ⊢;rw[hw.env] at hd hf ⊢;obtain⟨O,wq',w',es',h1,h2,h3,h4,h5,h6,h7⟩:=ih _ (es.push ⟨.output,true,false⟩) (hk _) hb hw ht hd hf;refine⟨O,wq',w',#[⟨.output,true,false⟩]++es',h1,by simp only[qly,e1];rw[h2];simp,?_,h4,h5,h6,h7⟩;intro e he;rw[qkb] at he;rcases he with he | he
  ·simp at he;subst he;exact .env
  ·exact h3 e he
 | program k ih=>
  intro Z s' wq w es h hb hw ht hd hf;rcases h with hbad | ⟨k',rfl,hk⟩
  ·exact absurd hf (Bad.not_fine hw.nopend (s:=.program k) hbad)
  simp only[qih] at hd hf ⊢;obtain⟨O,wq',w',es',h1,h2,h3,h4,h5,h6,h7⟩:=ih _ es hk hb hw ht hd hf;exact⟨O,wq',w',es',h1,by simp only[qly];exact h2,h3,h4,h5,h6,h7⟩
 | mark m k ih=>
  intro Z s' wq w es h hb hw ht hd hf;rcases h with hbad | ⟨rfl,k',rfl,hk⟩
  ·exact absurd hf (Bad.not_fine hw.nopend (s:=.mark m k) hbad)
  simp only[qih] at hd hf ⊢;obtain⟨O,wq',w',es',h1,h2,h3,h4,h5,h6,h7⟩:=ih (es.push ⟨.mark .noRoom,false,true⟩) hk hb hw ht hd hf;refine⟨O,wq',w',#[⟨.mark .noRoom,false,true⟩]++es',h1,by simp only[qly];rw[h2];simp,?_,h4,h5,h6,h7⟩;intro e he;rw[qkb] at he;rcases he with he | he
  ·simp at he;subst he;exact .noRoom
  ·exact h3 e he
 | halt x=>
  intro Z s' wq w es h hb hw ht hd hf;cases x with
  | panic v=>
   obtain⟨v',rfl,hv⟩:=h;exact⟨Z,wq,w,#[],.panic wq w hv,by simp[qly],by simp,hw,ht,.refl base w,rfl⟩
  | _=>exact absurd hf (yI h wq)
end
end
section
def EqR{Y:Type}:Rel Y Y:=λ_ a b=>b=a
def Gl(P:qh2)(Z:Ren):Prop:=∀i,i<=P.globals.size->BR Z i i
theorem Gl.mono{P:qh2}{Z O:Ren}(l:Le Z O)(h:Gl P Z):Gl P O:=λi hi=>(h i hi).mono l
section
variable[JunkSet]{Q P:qh2}{Y M W X:Type}{R:Rel Y M}{S:Rel W X}{Z:Ren}
theorem qd{a:Y}{b:M}(h:R Z a b):SR Q P R (pure a) Z (pure b):=⟨b,rfl,h⟩
theorem SR.bnd{s:Sem Y}{s':Sem M}{f:Y->Sem W}{f':M->Sem X}(h:SR Q P R s Z s')(hf:∀O a b,Le Z O->R O a b->SR Q P S (f a) O (f' b)) :SR Q P S (s>>=f) Z (s'>>=f'):=SR.bind h hf
theorem SR.bndE{s s':Sem Y}{f:Y->Sem W}{f':Y->Sem X}(h:SR Q P EqR s Z s')(hf:∀O a,Le Z O->SR Q P S (f a) O (f' a)) :SR Q P S (s>>=f) Z (s'>>=f'):=SR.bind h λO a b l e=>by cases e;exact hf O a l
theorem qh{w:String}{s':Sem M}:SR Q P R (stuck w) Z s':=rfl
theorem qq{w:Unsupported}{s':Sem M}(h:odd (.unsupported w)=false:=by rfl):SR Q P R (unsupported w) Z s':=by
 cases w<;>first | rfl | cases h
theorem zn{w:String}{f:Y->Sem W}{s':Sem X}:SR Q P S ((stuck w:Sem Y)>>=f) Z s':=rfl
theorem j4{w:Unsupported}{f:Y->Sem W}{s':Sem X}(h:odd (.unsupported w)=false:=by rfl):SR Q P S ((unsupported w:Sem Y)>>=f) Z s':=by
 cases w<;>first | rfl | cases h
theorem qa7{w:String}{s':Sem M}:SR Q P R (throw w) Z s':=rfl
theorem zE{f:qh2->Sem Y}{f':qh2->Sem M}(h:SR Q P R (f Q) Z (f' P)):SR Q P R (program>>=f) Z (program>>=f'):=.inr ⟨_,rfl,h⟩
theorem q3j{a:Y}{f:Y->Sem W}{s':Sem X}(h:SR Q P S (f a) Z s'):SR Q P S (pure a>>=f) Z s':=h
theorem vH{q:qj1}:SR Q P EqR (choose q) Z (choose q):=.inr ⟨_,rfl,λn=>⟨n,rfl,rfl⟩⟩
theorem qaa{f:Y->W}{s s':Sem Y}(h:SR Q P EqR s Z s'):SR Q P EqR (Functor.map f s) Z (Functor.map f s'):=SR.bndE (S:=EqR) (f:=λx=>pure (f x)) (f':=λx=>pure (f x)) h λO a _=>qd rfl
theorem q21{f:Y->Sem W}{f':Y->Sem W}(h:∀O a,SR Q P EqR (f a) O (f' a)):∀(l:List Y) (Z:Ren),SR Q P EqR (l.mapM f) Z (l.mapM f'):=by
 intro l;induction l with
 | nil=>intro Z;exact qd rfl
 | cons a l ih=>
  intro Z;rw[qn9,qn9];exact .bndE (h Z a) λO b _=>.bndE (ih O) λV bs _=>qd rfl
theorem qcz{f:Y->Sem W}{f':Y->Sem W}(h:∀O a,SR Q P EqR (f a) O (f' a)){xs:Array Y}:SR Q P EqR (xs.mapM f) Z (xs.mapM f'):=by
 rw[qkx,qkx];exact qaa (q21 h xs.toList Z)
theorem q6B{i j:Nat}{off:Nat}{spot:Option Nat}(h:BR Z i j):SR Q P VR (load ⟨i,off,spot⟩) Z (load ⟨j,off,spot⟩):=.inr ⟨rfl,j,_,rfl,h,λv v' hv=>⟨v',rfl,hv⟩⟩
theorem qa8{i j:Nat}{off:Nat}{spot:Option Nat}{v v':qgB}(h:BR Z i j)(hv:VR Z v v'):SR Q P (λ_ _ _=>True) (store ⟨i,off,spot⟩ v) Z (store ⟨j,off,spot⟩ v'):=.inr ⟨rfl,j,v',_,rfl,h,hv,(),rfl,trivial⟩
theorem YC{o o':Obj}(h:ObR Z o o'):SR Q P BR (newObj o) Z (newObj o'):=.inr ⟨o',_,rfl,h,λj _=>⟨j,rfl,BR.new Z j⟩⟩
theorem xW{i j:Nat}(h:BR Z i j):SR Q P (λ_=>ShR Q i) (shape i) Z (shape j):=.inr ⟨j,_,rfl,h,λx x' hx=>⟨x',rfl,hx⟩⟩
theorem jJ{i j:Nat}(h:BR Z i j):SR Q P ObR (getObj i) Z (getObj j):=.inr ⟨j,_,rfl,h,λo o' ho=>⟨o',rfl,ho⟩⟩
theorem jI{i j:Nat}{o o':Obj}(h:BR Z i j)(ho:ObR Z o o'):SR Q P (λ_ _ _=>True) (setObj i o) Z (setObj j o'):=.inr ⟨j,o',_,rfl,h,ho,(),rfl,trivial⟩
theorem jT{v v':qgB}(h:VR Z v v'):SR Q P R (goPanic v) Z (goPanic v'):=⟨v',rfl,h⟩
theorem qC{c:Prop}[Decidable c]{a b:Sem Y}{a' b':Sem M}(h1:c->SR Q P R a Z a')(h2:¬ c->SR Q P R b Z b'):SR Q P R (if c then a else b) Z (if c then a' else b'):=by
 by_cases h:c
 ·rw[if_pos h,if_pos h];exact h1 h
 ·rw[if_neg h,if_neg h];exact h2 h
end
section
variable[JunkSet]{Q P:qh2}(hT:P.toTables=Q.toTables){Z:Ren}{Y M:Type}{R:Rel Y M}
include hT
theorem Yk(t:qh8):P.info? t=Q.info? t:=by rw[hT]
theorem kx(t:qh8):P.underlying t=Q.underlying t:=by unfold Program.underlying;rw[hT]
theorem zm(t:qh8):SR Q P EqR (qkA t) Z (qkA t):=by
 refine zE ?_;rw[Yk hT];cases Q.info? t with
 | some i=>exact qd rfl
 | none=>exact qh
theorem qB(t:qh8):SR Q P EqR (qkf t) Z (qkf t):=by
 refine zE ?_;rw[kx hT];cases Q.underlying t with
 | some i=>exact qd rfl
 | none=>exact qh
theorem qR(t:qh8):SR Q P EqR (sizeOf t) Z (sizeOf t):=.bndE (zm hT t) λO i _=>qd rfl
theorem q3m(t:qh8):SR Q P EqR (isAgg t) Z (isAgg t):=.bndE (qB hT t) λO i _=>by
 cases i<;>exact qd rfl
def kS(P:qh2)(t:qh8):Bool :=
 match (P.info? t).bind (·.zero) with
 | some v=>qc3 v
 | none=>true
omit hT in
theorem q3h{i:ql2}(h:∀v,i.zero=some v->vp v):SR Q P VR (match i.zero with
  | some v=>pure v
  | none=>unsupported (.resourceLimit "a value of more than 2^22 cells")) Z (match i.zero with
  | some v=>pure v
  | none=>unsupported (.resourceLimit "a value of more than 2^22 cells")):=by
 cases hz:i.zero with
 | some v=>exact qd ((h v hz).vr _)
 | none=>exact qq
theorem x9(t:qh8):SR Q P (λ_ a b=>b=a/\Q.info? t=some a) (qkA t) Z (qkA t):=by
 refine zE ?_;rw[Yk hT];cases Q.info? t with
 | some i=>exact qd ⟨rfl,rfl⟩
 | none=>exact qh
theorem zk{t:qh8}(h:kS Q t=true):SR Q P VR (qlz t) Z (qlz t):=by
 refine .bnd (x9 hT t) λO i i' l hi=>?_;obtain⟨rfl,hi⟩:=hi;refine q3h λv hv=>?_;unfold kS at h;rw[hi] at h;simp only[qmo,hv] at h;exact q2A h
omit hT in
theorem VR.cells{v v':qgB}(h:VR Z v v'):AsR Z v.cells v'.cells:=by
 cases h with
 | agg h1 h2=>exact⟨h1,h2⟩
 | bool b=>exact .one (.bool b)
 | int k n=>exact .one (.int k n)
 | string s=>exact .one (.string s)
 | ptrNil=>exact .one .ptrNil
 | ptr o s h=>exact .one (.ptr o s h)
 | sliceNil a b=>exact .one (.sliceNil a b)
 | slice o s a b h=>exact .one (.slice o s a b h)
 | mapNil=>exact .one .mapNil
 | map h=>exact .one (.map h)
 | func a b c d e=>exact .one (.func a b c d e)
 | nilFunc=>exact .one .nilFunc
 | iface t h=>exact .one (.iface t h)
 | nilIface=>exact .one .nilIface
 | tuple h1 h2=>exact .one (.tuple h1 h2)
 | meth n a c=>exact .one (.meth n a c)
 | wild _ h=>
  have e:v'.cells=#[v']:=by cases v'<;>first | rfl | (cases h;done)
  rw[e];exact .one (.wild _ h)
omit hT in
theorem AsR.agg{a b:Array qgB}(h:AsR Z a b):VR Z (.agg a) (.agg b):=.agg h.1 h.2
omit hT in
theorem AsR.tuple{a b:Array qgB}(h:AsR Z a b):VR Z (.tuple a) (.tuple b):=.tuple h.1 h.2
omit hT in
theorem yf(i j off n:Nat)(spot:Option Nat):∃o s,(⟨i,off,spot⟩:qi5).add n=⟨i,o,s⟩/\(⟨j,off,spot⟩:qi5).add n=⟨j,o,s⟩:=by
 unfold Addr.add;split
 ·exact⟨off,spot,rfl,rfl⟩
 ·exact⟨off+n,none,rfl,rfl⟩
omit hT in
theorem Ja{i j:Nat}{off:Nat}{spot:Option Nat}(n:Nat):∀{Z:Ren} (k:Nat) (a7 a6:Array qgB),BR Z i j->AsR Z a7 a6 ->SR Q P AsR (qnw ⟨i,off,spot⟩ k n a7) Z (qnw ⟨j,off,spot⟩ k n a6):=by
 induction n with
 | zero=>intro Z k a7 a6 h ha;exact qd ha
 | succ n ih=>
  intro Z k a7 a6 h ha;obtain⟨o,s,e1,e2⟩:=yf i j off k spot;show SR Q P AsR (load ((⟨i,off,spot⟩:qi5).add k)>>=λv=>qnw ⟨i,off,spot⟩ (k+1) n (a7.push v)) Z (load ((⟨j,off,spot⟩:qi5).add k)>>=λv=>qnw ⟨j,off,spot⟩ (k+1) n (a6.push v));rw[e1,e2];exact .bnd (q6B h) λO v v' l hv=>ih (k+1) _ _ (h.mono l) ((ha.mono l).push hv)
omit hT in
theorem ZA{i j:Nat}{off:Nat}{spot:Option Nat}(n:Nat)(h:BR Z i j):SR Q P AsR (loadCells ⟨i,off,spot⟩ n) Z (loadCells ⟨j,off,spot⟩ n):=Ja n 0 _ _ h .nil
omit hT in
theorem jy{i j:Nat}{off:Nat}{spot:Option Nat}{vs a6:List qgB}(hv:LsR (VR Z) vs a6):∀(k:Nat),BR Z i j ->SR Q P (λ_ _ _=>True) (qnp ⟨i,off,spot⟩ vs k) Z (qnp ⟨j,off,spot⟩ a6 k):=by
 have a7:∀(vs a6:List qgB) (Z:Ren) (k:Nat),LsR (VR Z) vs a6->BR Z i j->SR Q P (λ_ _ _=>True) (qnp ⟨i,off,spot⟩ vs k) Z (qnp ⟨j,off,spot⟩ a6 k):=by
  intro vs;induction vs with
  | nil=>intro a6 Z k h hb;cases h;exact qd trivial
  | cons v l ih=>
   intro a6 Z k h hb;cases h with
   | @cons _ v' _ l' hv hl=>
    obtain⟨o,s,e1,e2⟩:=yf i j off k spot;show SR Q P _ (store ((⟨i,off,spot⟩:qi5).add k) v>>=λ_=>qnp ⟨i,off,spot⟩ l (k+1)) Z (store ((⟨j,off,spot⟩:qi5).add k) v'>>=λ_=>qnp ⟨j,off,spot⟩ l' (k+1));rw[e1,e2];exact .bnd (qa8 hb hv) λO _ _ l' _=>ih _ O (k+1) (hl.imp λ_ _ x=>x.mono l') (hb.mono l')
 exact λk hb=>a7 vs a6 Z k hv hb
theorem YE{t:qh8}{i j:Nat}{off:Nat}{spot:Option Nat}(h:BR Z i j):SR Q P VR (qqb t ⟨i,off,spot⟩) Z (qqb t ⟨j,off,spot⟩):=by
 refine .bndE (q3m hT t) λO b l=>?_;cases b with
 | true=>exact .bndE (qR hT t) λV n l'=>.bnd (ZA n (h.mono (l.trans l'))) λU a b _ hab=>qd hab.agg
 | false=>exact q6B (h.mono l)
theorem q3i{t:qh8}{i j:Nat}{off:Nat}{spot:Option Nat}{v v':qgB}(h:BR Z i j)(hv:VR Z v v') :SR Q P (λ_ _ _=>True) (storeVar t ⟨i,off,spot⟩ v) Z (storeVar t ⟨j,off,spot⟩ v'):=by
 refine .bndE (qR hT t) λO n l=>?_;dsimp only;rw[<- (hv.mono l).cells.1];split
 ·exact zn
 ·refine q3j ?_;exact jy (ze.1 (hv.mono l).cells) 0 (h.mono l)
omit hT in
theorem vF{e:qh8}{c c':Array qgB}(h:AsR Z c c'):SR Q P (λO a b=>∃i j,a=⟨i,0,none⟩/\b=⟨j,0,none⟩/\BR O i j) (newRow e c) Z (newRow e c') :=
 .bnd (YC (.cells e h λo h1 h2=>absurd h2 (by simp))) λO i j l hb=>qd ⟨i,j,rfl,rfl,hb⟩
omit hT in
theorem Qq{e:qh8}{v v':qgB}(h:VR Z v v'):SR Q P (λO a b=>∃i j,a=⟨i,0,none⟩/\b=⟨j,0,none⟩/\BR O i j) (newVar e v) Z (newVar e v'):=vF h.cells
theorem q0A(t:qh8):SR Q P EqR (elemOf t) Z (elemOf t):=.bndE (qB hT t) λO d _=>by
 cases d with
 | pointer e=>exact qd rfl
 | _=>exact qh
theorem jC{t:qh8}{c c':Array qgB}(h:AsR Z c c')(off:Nat):SR Q P VR (part t c off) Z (part t c' off):=by
 refine .bndE (q3m hT t) λO b l=>?_;cases b with
 | true=>exact .bndE (qR hT t) λV n l'=>qd (((h.mono (l.trans l')).extract _ _).agg)
 | false=>
  simp only[qhy,if_false];cases hc:c[off]? with
  | some v=>
   obtain⟨v',a6,hr⟩:=h.get hc;simp only[a6];exact qd (hr.mono l)
  | none=>exact qh
theorem qw(hG:Gl P Z)(e:RuntimeError):SR Q P R (qkm e) Z (qkm e):=by
 have a6:P.rt=Q.rt:=by rw[hT]
 refine zE ?_;dsimp only;rw[a6];have hh:∀(O:Ren) (l:Le Z O) (t:qh8),VR O (qoA Q t) (qoA P t):=λO l t=>by
  unfold qoA;have:P.globals.size=Q.globals.size:=by rw[hT]
  rw[<- this];exact .ptr _ _ ((hG _ (qgA _)).mono l)
 cases e with
 | bounds x y s c=>exact jT (vp.vr _ (q2A rfl) |> λh=>.iface _ h)
 | error m=>exact jT (.iface _ (.string _))
 | plain m=>exact jT (.iface _ (.string _))
 | nilDeref=>exact jT (.iface _ (.string _))
 | typeAssertion i c a m=>
  refine .bndE (q0A hT _) λO el l=>.bnd (Qq (AsR.agg ?_)) λV x y l' hxy=>?_
  ·have ho:∀o:Option qh8,VR O (match o with | some t=>qoA Q t | none=>.pointer none) (match o with | some t=>qoA P t | none=>.pointer none):=λo=>by
    cases o with
    | none=>exact .ptrNil
    | some t=>exact hh O l t
   rw[ze];exact .cons (ho i) (.cons (ho c) (.cons (ho (some a)) (.cons (.string _) .nil)))
  ·obtain⟨i,j,rfl,rfl,hb⟩:=hxy;exact jT (.iface _ (.ptr _ _ hb))
 | panicNil=>
  refine .bndE (q0A hT _) λO el l=>.bnd (Qq (AsR.agg .nil)) λV x y l' hxy=>?_;obtain⟨i,j,rfl,rfl,hb⟩:=hxy;exact jT (.iface _ (.ptr _ _ hb))
 | unhashable t=>exact jT (.iface _ (AsR.agg (.one (hh Z (.refl Z) t))))
theorem je(hG:Gl P Z)(k:IntKind)(x y:Int)(c:qq2):SR Q P R (ql9 k x y c) Z (ql9 k x y c):=by
 unfold ql9;dsimp only;refine qC (λ_=>?_) λ_=>?_
 ·exact .bndE (qaa vH) λO n l=>qw hT (hG.mono l) _
 ·exact(qw hT hG (.bounds (IntKind.i64.wrap x) y (k != IntKind.u64) c):SR Q P R _ Z _)
omit hT in
theorem xe{v v':qgB}(h:VR Z v v'):SR Q P EqR (asIntOf v) Z (asIntOf v'):=by
 cases h<;>first | exact qd rfl | exact qh | exact qq
omit hT in
theorem ZC{v v':qgB}(h:VR Z v v'):SR Q P EqR (asInt v) Z (asInt v'):=.bndE (xe h) λO a _=>qd rfl
omit hT in
theorem q7F{v v':qgB}(h:VR Z v v'):SR Q P EqR (asBool v) Z (asBool v'):=by
 cases h<;>first | exact qd rfl | exact qh
omit hT in
theorem qag{v v':qgB}(h:VR Z v v'):SR Q P AsR (asAgg v) Z (asAgg v'):=by
 cases h with
 | agg h1 h2=>exact qd ⟨h1,h2⟩
 | _=>exact qh
def AdR:Rel qi5 qi5:=λZ a b=>∃i j o s,a=⟨i,o,s⟩/\b=⟨j,o,s⟩/\BR Z i j
theorem q0B(hG:Gl P Z){v v':qgB}(h:VR Z v v'):SR Q P AdR (qqt v) Z (qqt v'):=by
 cases h with
 | ptr o s h=>exact qd ⟨_,_,o,s,rfl,rfl,h⟩
 | ptrNil=>
  show SR Q P AdR (qkm .nilDeref) Z (qkm .nilDeref);exact qw hT hG _
 | _=>exact qh
end
section
variable[JunkSet]{Q P:qh2}(hT:P.toTables=Q.toTables){Z:Ren}
theorem yL{v v':qgB}(h:VR Z v v'):SR Q P AdR (qr4 v) Z (qr4 v'):=by
 cases h with
 | ptr o s h=>exact qd ⟨_,_,o,s,rfl,rfl,h⟩
 | _=>exact qh
include hT
theorem q7E(t:qh8){v v':qgB}(h:VR Z v v'):SR Q P VR (Instr.loadAt t v) Z (Instr.loadAt t v') :=
 .bnd (yL h) λO a b l hab=>by obtain⟨i,j,o,s,rfl,rfl,hb⟩:=hab;exact YE hT hb
theorem q5g(t:qh8){v v' x x':qgB}(h:VR Z v v')(hx:VR Z x x'):SR Q P (λ_ _ _=>True) (qr8 t v x) Z (qr8 t v' x') :=
 .bnd (yL h) λO a b l hab=>by obtain⟨i,j,o,s,rfl,rfl,hb⟩:=hab;exact q3i hT hb (hx.mono l)
theorem qai{t:qh8}(hz:kS Q t=true):SR Q P VR (Instr.alloc t true (.tuple #[])) Z (Instr.alloc t true (.tuple #[])):=by
 refine .bnd (zk hT hz) λO z z' l a6=>?_;show SR Q P VR (newVar t z>>=λa=>pure (.pointer (some a))) O (newVar t z'>>=λa=>pure (.pointer (some a)));exact .bnd (Qq a6) λV a b l hab=>by obtain⟨i,j,rfl,rfl,hb⟩:=hab;exact qd (.ptr _ _ hb)
omit hT in
theorem qex(t:qh8){v v':qgB}(h:VR Z v v'):SR Q P VR (Instr.box t v) Z (Instr.box t v') :=
 .bnd (Qq h) λV a b l hab=>by obtain⟨i,j,rfl,rfl,hb⟩:=hab;exact qd (.ptr _ _ hb)
def q1w(Z:Ren)(a b:Nat × qgB):Prop:=b.1=a.1/\VR Z a.2 b.2
omit hT in
theorem q4l(a6:Nat->Option (Nat × Nat)):∀(l l':List (Nat × qgB)) (c c':Array qgB),LsR (q1w Z) l l'->AsR Z c c' ->(qmf a6 c l=none/\qmf a6 c' l'=none)\/∃r r',qmf a6 c l=some r/\qmf a6 c' l'=some r'/\AsR Z r r':=by
 intro l;induction l with
 | nil=>intro l' c c' h hc;cases h;exact .inr ⟨c,c',rfl,rfl,hc⟩
 | cons x l ih=>
  intro l' c c' h hc;cases h with
  | @cons _ y _ l' hxy hl=>
   obtain⟨i,v⟩:=x;obtain⟨i',v'⟩:=y;obtain⟨rfl,hv⟩:=hxy;simp only[qmf];cases hp:a6 i' with
   | none=>exact .inl ⟨rfl,rfl⟩
   | some os=>
    obtain⟨off,size⟩:=os;dsimp only;have e1:v'.cells.size=v.cells.size:=hv.cells.1.symm;rw[e1,<- hc.1];by_cases a7:(decide (v.cells.size≠size) || decide (off+v.cells.size > c.size))=true
    ·rw[if_pos a7,if_pos a7];exact .inl ⟨rfl,rfl⟩
    ·rw[if_neg a7,if_neg a7];refine ih l' _ _ hl ?_;have a9:∀(xs a8:List qgB) (k:Nat) (d d':Array qgB),LsR (VR Z) xs a8->AsR Z d d' ->
       AsR Z ((xs.zipIdx k).foldl (λcs (x:qgB × Nat)=>cs.setIfInBounds (off+x.2) x.1) d) ((a8.zipIdx k).foldl (λcs (x:qgB × Nat)=>cs.setIfInBounds (off+x.2) x.1) d'):=by
      intro xs;induction xs with
      | nil=>intro a8 k d d' hx hd;cases hx;exact hd
      | cons a xs ihx=>
       intro a8 k d d' hx hd;cases hx with
       | cons ha hxs=>exact ihx _ (k+1) _ _ hxs (hd.set _ ha)
     have:=a9 v.cells.toList v'.cells.toList 0 c c' (ze.1 hv.cells) hc;have e3:∀(a d:Array qgB),a.zipIdx.foldl (λcs (x:qgB × Nat)=>cs.setIfInBounds (off+x.2) x.1) d=(a.toList.zipIdx 0).foldl (λcs (x:qgB × Nat)=>cs.setIfInBounds (off+x.2) x.1) d:=λa d=>by
      rw[<- qmF,Array.toList_zipIdx]
     exact(e3 v.cells c ▸ e3 v'.cells c' ▸ this :)
theorem qaf{t:qh8}(hz:kS Q t=true){ps a6:Array (Nat × qgB)}(h:LsR (q1w Z) ps.toList a6.toList):SR Q P VR (Instr.build t ps) Z (Instr.build t a6):=by
 refine .bnd (zk hT hz) λO z z' l a9=>.bndE (qB hT t) λV d l'=>?_;have hp:LsR (q1w V) ps.toList a6.toList:=h.imp λ_ _ x=>⟨x.1,x.2.mono (l.trans l')⟩;have hc:AsR V z.cells z'.cells:=a9.cells.mono l';have fin:∀(pl:Nat->Option (Nat × Nat)) (U:Ren) (a7:String),Le V U->SR Q P VR
   (match qmf pl z.cells ps.toList with | some cells=>pure (.agg cells) | _=>stuck a7) U (match qmf pl z'.cells a6.toList with | some cells=>pure (.agg cells) | _=>stuck a7):=λpl U a7 lu=>by
  rcases q4l (Z:=U) pl _ _ _ _ (hp.imp λ_ _ x=>⟨x.1,x.2.mono lu⟩) (hc.mono lu) with⟨e1,e2⟩ | ⟨r,r',e1,e2,hr⟩
  ·rw[e1,e2];exact qh
  ·rw[e1,e2];exact qd hr.agg
 cases d with
 | struct fs=>
  refine .bndE (qcz λO f=>?_) λU a8 lu=>fin _ U _ lu;exact .bndE (qR hT _) λ_ n _=>qd rfl
 | array n e=>exact .bndE (qR hT _) λU size lu=>fin _ U _ lu
 | _=>exact qh
end
end
section
def PVR[JunkSet]:Rel qgB qgB:=λZ a b=>VR Z a b/\a≠.tuple #[]/\∀r,a≠.chan r
section
variable[JunkSet]{Q P:qh2}(hT:P.toTables=Q.toTables)
include hT
theorem yE(t:qh8):P.cellsOf t=Q.cellsOf t:=by unfold Program.cellsOf;rw[hT]
theorem kM(t:qh8):P.bytesOf t=Q.bytesOf t:=by unfold Program.bytesOf;rw[hT]
theorem Ql:P.depth=Q.depth:=by unfold Program.depth;rw[hT]
theorem Zm:P.globals=Q.globals:=by rw[hT]
theorem vj:∀d t off,qoB P d t off=qoB Q d t off:=by
 intro d;induction d with
 | zero=>intro t off;rfl
 | succ d ih=>intro t off;simp only[qoB,kx hT,yE hT,kM hT,ih]
theorem q0e:∀d t off,cellOfByte P d t off=cellOfByte Q d t off:=by
 intro d;induction d with
 | zero=>intro t off;rfl
 | succ d ih=>intro t off;simp only[cellOfByte,kx hT,yE hT,kM hT,ih]
theorem Kv(d:Nat)(e:qh8)(c o:Nat)(b:Int):qn4 P d e c o b=qn4 Q d e c o b:=by
 simp only[qn4,yE hT,kM hT,vj hT,q0e hT]
theorem qc9:∀d t u,P.alikeButTags d t u=Q.alikeButTags d t u:=by
 intro d;induction d with
 | zero=>intro t u;rfl
 | succ d ih=>intro t u;simp only[Program.alikeButTags,Yk hT,ih]
theorem q5a(t:qh8):P.underlyingId t=Q.underlyingId t:=by unfold Program.underlyingId;rw[hT]
theorem qa2(t:qh8):P.stoodInHeld t=Q.stoodInHeld t:=by
 unfold Program.stoodInHeld Program.stoodInAs;simp only[kx hT,qc9 hT,q5a hT,Yk hT,Ql hT];rw[show P.cutTypes=Q.cutTypes by rw[hT]]
theorem q2i:∀d t,P.eqGuardType d t=Q.eqGuardType d t:=by
 intro d;induction d with
 | zero=>intro t;rfl
 | succ d ih=>intro t;simp only[Program.eqGuardType,kx hT,ih]
omit hT in
theorem qaG:Q.info? (yW Q)=none:=by
 unfold yW Tables.info?;rw[if_neg (qm6 _)];have e:∀(f:Nat) (t:qh8),Made.infoAt Q.toTables (f+1) t=if t<Q.types.size then Q.types[t]? else(Made.decode (t - Q.types.size)).bind (Made.reckon (Made.infoAt Q.toTables f)):=λ_ _=>rfl;show Made.infoAt Q.toTables (99+1) Q.types.size=none;rw[e,if_neg (qm6 _),Nat.sub_self];rfl
omit hT in
theorem q6l:Q.cellsOf (yW Q)=0:=by unfold Program.cellsOf;rw[qaG];rfl
variable{Z:Ren}{Y M:Type}{R:Rel Y M}
omit hT in
theorem q0w{i j:Nat}(h:BR Z i j):SR Q P (λ_ a b=>a=none/\b=none) (viewAt i) Z (viewAt j):=by
 refine .bnd (xW h) λO x x' l hx=>?_;have e:x'.isSome=x.isSome:=by
  rcases hx with⟨_,rfl⟩ | ⟨_,_,rfl,e,n,rfl⟩<;>rfl
 rw[e];cases x.isSome with
 | true=>exact qd ⟨rfl,rfl⟩
 | false=>
  refine .bnd (jJ (h.mono l)) λV o o' l' ho=>?_;cases ho<;>exact qd ⟨rfl,rfl⟩
omit hT in
theorem q3l{i j:Nat}(h:BR Z i j):SR Q P (λO a b=>(a=none/\b=none)\/∃i j o s x,a=some (⟨i,o,s⟩,x)/\b=some (⟨j,o,s⟩,x)/\BR O i j) (numberAt i) Z (numberAt j):=by
 refine .bnd (xW h) λO x x' l hx=>?_;have e:x'.isSome=x.isSome:=by
  rcases hx with⟨_,rfl⟩ | ⟨_,_,rfl,e,n,rfl⟩<;>rfl
 rw[e];cases x.isSome with
 | true=>exact qd (.inl ⟨rfl,rfl⟩)
 | false=>
  refine .bnd (jJ (h.mono l)) λV o o' l' ho=>?_;cases ho with
  | number o s x h=>exact qd (.inr ⟨_,_,o,s,x,rfl,rfl,h⟩)
  | _=>exact qd (.inl ⟨rfl,rfl⟩)
omit hT in
theorem q0x{i j:Nat}{o o':Nat}{s s':Option Nat}(h:BR Z i j):SR Q P (λ_ _ _=>True) (noView ⟨i,o,s⟩) Z (noView ⟨j,o',s'⟩) :=
 .bnd (q0w h) λO a b l hab=>by obtain⟨rfl,rfl⟩:=hab;exact qd trivial
omit hT in
theorem jK{i j:Nat}{o:Nat}{s:Option Nat}(h:BR Z i j):SR Q P (λO a b=>∃i j o s x,a=(⟨i,o,s⟩,x)/\b=(⟨j,o,s⟩,x)/\BR O i j) (qjn ⟨i,o,s⟩) Z (qjn ⟨j,o,s⟩) :=
 .bnd (q3l h) λO a b l hab=>by
  rcases hab with⟨rfl,rfl⟩ | ⟨i',j',o',s',x,rfl,rfl,hb⟩
  ·exact qd ⟨_,_,_,_,_,rfl,rfl,h.mono l⟩
  ·exact qd ⟨_,_,_,_,_,rfl,rfl,hb⟩
theorem Qr{i j:Nat}{o:Nat}{s:Option Nat}(h:BR Z i j)(hg:i<Q.globals.size):SR Q P EqR (qoC ⟨i,o,s⟩) Z (qoC ⟨j,o,s⟩):=by
 unfold qoC;cases s with
 | some s=>exact qd rfl
 | none=>
  dsimp only;refine zE ?_;refine .bnd (q0x h) λO _ _ l _=>.bnd (xW (h.mono l)) λV x x' l' hx=>?_;have e:x'=x:=by
   rcases hx with⟨_,h⟩ | ⟨_,hge,_⟩
   ·exact h
   ·omega
  subst e;cases x' with
  | none=>exact qh
  | some en=>
   obtain⟨e,n⟩:=en;dsimp only;rw[yE hT];refine qC (λ_=>qd rfl) λ_=>?_;rw[Ql hT,vj hT,kM hT];cases qoB Q Q.depth e (o % Q.cellsOf e) with
   | none=>exact qh
   | some b=>exact qd rfl
theorem Zz{i j i' j':Nat}{o o':Nat}{s s':Option Nat}(h:BR Z i j)(h':BR Z i' j')(hG:Gl P Z) :SR Q P EqR (Op.twoPlaces ⟨i,o,s⟩ ⟨i',o',s'⟩) Z (Op.twoPlaces ⟨j,o,s⟩ ⟨j',o',s'⟩):=by
 unfold Op.twoPlaces;refine zE ?_;dsimp only;by_cases hi:i<Q.globals.size
 ·have hP:P.globals.size=Q.globals.size:=by rw[Zm hT]
  have e1:j=i:=(hG i (by omega)).fn h |>.symm;by_cases a6:i'=i
  ·subst a6;have e2:j'=j:=h'.fn h;subst e2;subst e1;simp only[bne_self_eq_false,Bool.false_or,Zm hT];rw[if_neg (by simpa using hi)];exact .bndE (Qr hT h hi) λO a l=>.bndE (Qr hT (h'.mono l) hi) λV b _=>qd rfl
  ·have:(i != i' || decide (i>=Q.globals.size))=true:=by
    simp[Ne.symm a6]
   rw[if_pos this];exact j4
 ·have:(i != i' || decide (i>=Q.globals.size))=true:=by
   have:i>=Q.globals.size:=by omega
   simp[this]
  rw[if_pos this];exact j4
theorem q5r{i j i' j':Nat}{o o':Nat}{s s':Option Nat}(k:IntKind)(h:BR Z i j)(h':BR Z i' j')(hG:Gl P Z) :SR Q P VR (Op.addrSub k ⟨i,o,s⟩ ⟨i',o',s'⟩) Z (Op.addrSub k ⟨j,o,s⟩ ⟨j',o',s'⟩) :=
 .bndE (Zz hT h h' hG) λO a l=>qd (.int _ _)
theorem q5t{i j i' j':Nat}{o o':Nat}{s s':Option Nat}(op:BinOp)(h:BR Z i j)(h':BR Z i' j')(hG:Gl P Z) :SR Q P VR (Op.addrCmp op ⟨i,o,s⟩ ⟨i',o',s'⟩) Z (Op.addrCmp op ⟨j,o,s⟩ ⟨j',o',s'⟩) :=
 .bndE (Zz hT h h' hG) λO a l=>by
  obtain⟨x,y⟩:=a;cases op<;>first | exact qd (.bool _) | exact qq
omit hT in
theorem xa{i j:Nat}(h:BR Z i j)(hk:¬ JunkSet.jk i):SR Q P EqR (shape i) Z (shape j) :=
 (xW h).imp λO x x' _ hx=>by
  rcases hx with⟨_,e⟩ | ⟨h,_⟩
  ·exact e
  ·exact absurd h hk
omit hT in
theorem QM{i j:Nat}(h:BR Z i j)(hk:JunkSet.jk i):SR Q P (λ_ x x'=>x=some (yW Q,0)/\∃e n,x'=some (e,n)) (shape i) Z (shape j) :=
 (xW h).imp λO x x' _ hx=>by
  rcases hx with⟨h,_⟩ | ⟨_,_,h⟩
  ·exact absurd hk h
  ·exact h
omit hT in
theorem q5j{f:ql2->Sem Y}{s':Sem M}:SR Q P R (qkA (yW Q)>>=f) Z s':=by
 refine .bad ?_;refine Bad.bind (f:=f) ?_;show Bad Q (match Q.info? (yW Q) with
  | some i=>(pure i:Sem ql2)
  | none=>stuck "no such type")
 rw[qaG];trivial
theorem q5p{i j:Nat}{o:Nat}{s:Option Nat}(h:BR Z i j)(hk:¬ JunkSet.jk i):SR Q P EqR (qoC ⟨i,o,s⟩) Z (qoC ⟨j,o,s⟩):=by
 unfold qoC;cases s with
 | some s=>exact qd rfl
 | none=>
  dsimp only;refine zE ?_;refine .bnd (q0x h) λO _ _ l _=>.bndE (xa (h.mono l) hk) λV x l'=>?_;cases x with
  | none=>exact qh
  | some en=>
   obtain⟨e,n⟩:=en;dsimp only;rw[yE hT];refine qC (λ_=>qd rfl) λ_=>?_;rw[Ql hT,vj hT,kM hT];cases qoB Q Q.depth e (o % Q.cellsOf e) with
   | none=>exact qh
   | some b=>exact qd rfl
theorem q5s{i j:Nat}{o:Nat}{s:Option Nat}(k:IntKind)(n:Int)(h:BR Z i j):SR Q P VR (Op.addrMod k ⟨i,o,s⟩ n) Z (Op.addrMod k ⟨j,o,s⟩ n):=by
 by_cases hk:JunkSet.jk i
 ·refine .bnd (QM h hk) λO x x' l hx=>?_;obtain⟨rfl,e,m,rfl⟩:=hx;exact q5j
 ·refine .bndE (xa h hk) λO x l=>?_;cases x with
  | none=>exact qq
  | some en=>
   obtain⟨e,m⟩:=en;refine .bndE (zm hT e) λV ti l'=>?_;dsimp only;refine qC (λ_=>j4) λ_=>?_;exact .bndE (q5p hT (h.mono (l.trans l')) hk) λU b _=>qd (.int _ _)
theorem QL{t t':qh8}{ts a6:Array qh8}{v v' x x':qgB}(h:VR Z v v')(hx:VR Z x x') :SR Q P PVR (qj9 ts t #[v,x]) Z (qj9 a6 t' #[v',x']):=by
 have key:∀(p p':Option qi5),VR Z (.pointer p) (.pointer p')->SR Q P PVR (qj9 ts t #[.pointer p,x]) Z (qj9 a6 t' #[.pointer p',x']):=by
  intro p p' hp;unfold qj9;dsimp only;refine .bndE (ZC hx) λO n l=>?_;refine qC (λ_=>?_) λ_=>?_
  ·cases hp with
   | ptrNil=>exact qq
   | ptr o s h=>
    dsimp only;refine .bnd (q0w (h.mono l)) λV a b l' hab=>?_;obtain⟨rfl,rfl⟩:=hab;exact qd ⟨.ptr _ _ (h.mono (l.trans l')),by simp⟩
  ·refine qC (λ_=>j4) λ_=>?_;cases hp with
   | ptrNil=>exact qq
   | @ptr i j o s h=>
    dsimp only;by_cases hk:JunkSet.jk i
    ·refine .bnd (QM (h.mono l) hk) λV x x' l' a7=>?_;obtain⟨rfl,e,m,rfl⟩:=a7;refine .bad ?_;show Bad Q (match qn4 Q Q.depth (yW Q) (0 / Q.cellsOf (yW Q)) o n with
      | some off=>(pure (.pointer (some ⟨i,off,s⟩)):Sem qgB)
      | none=>unsupported (.unsafePointer "Add"))
     have:qn4 Q Q.depth (yW Q) (0 / Q.cellsOf (yW Q)) o n=none:=by
      unfold qn4;simp[q6l]
     rw[this];trivial
    ·refine .bndE (xa (h.mono l) hk) λV x l'=>?_;cases x with
     | none=>exact qq
     | some en=>
      obtain⟨e,m⟩:=en;dsimp only;refine zE ?_;rw[Kv hT,Ql hT,yE hT];cases qn4 Q Q.depth e (m / Q.cellsOf e) o n with
      | none=>exact qq
      | some off=>exact qd ⟨.ptr _ _ (h.mono (l.trans l')),by simp⟩
 cases h with
 | ptrNil=>exact key _ _ .ptrNil
 | ptr o s h=>exact key _ _ (.ptr o s h)
 | _=>exact qh
theorem q20{t t':qh8}{ts a6:Array qh8}{v v' x x':qgB}(h:VR Z v v')(hx:VR Z x x') :SR Q P VR (qj9 ts t #[v,x]) Z (qj9 a6 t' #[v',x']):=(QL hT h hx).imp λ_ _ _ _ h=>h.1
theorem jd{t:qh8}{v v' x x':qgB}(h:VR Z v v')(hx:VR Z x x'):SR Q P VR (qok t v x) Z (qok t v' x'):=by
 have rest:∀O,Le Z O->SR Q P VR (do
   let .pointer (some n):=v | qj9 #[] t #[v,x]
   let (a,lost) <- qjn n
   match <- qj9 #[] t #[.pointer (some a),x] with
    | .pointer (some b)=>asNumber b lost
    | v=>pure v) O (do
   let .pointer (some n):=v' | qj9 #[] t #[v',x']
   let (a,lost) <- qjn n
   match <- qj9 #[] t #[.pointer (some a),x'] with
    | .pointer (some b)=>asNumber b lost
    | v=>pure v):=by
  intro O l;have hx':=hx.mono l;have a6:SR Q P VR (qj9 #[] t #[v,x]) O (qj9 #[] t #[v',x']):=q20 hT (h.mono l) hx';cases h with
  | ptr o s h=>
   dsimp only;refine .bnd (jK (h.mono l)) λV a b l' hab=>?_;obtain⟨i',j',o',s',lost,rfl,rfl,hb⟩:=hab;dsimp only;refine .bnd (QL hT (.ptr o' s' hb) (hx'.mono l')) λU y y' lu a8=>?_;obtain⟨hy,a9⟩:=a8;have a7:SR Q P VR (pure y) U (pure y'):=qd hy;cases hy with
   | ptr o' s' h'=>exact .bnd (YC (.number _ _ _ h')) λX i j _ hij=>qd (.ptr _ _ hij)
   | wild _ _=>exact absurd rfl (a9.2 _)
   | _=>exact a7
  | _=>exact a6
 unfold qok;refine .bndE (qB hT t) λO d l=>?_;cases d<;>first | exact rest O l | exact qq
def q28(Q:qh2)(t:qh8):Bool :=
 match Q.underlying t with
 | some .unsafePointer=>false
 | _=>true
theorem qP(t:qh8):SR Q P (λ_ a b=>b=a/\Q.underlying t=some a) (qkf t) Z (qkf t):=by
 refine zE ?_;rw[kx hT];cases Q.underlying t with
 | some i=>exact qd ⟨rfl,rfl⟩
 | none=>exact qh
def q02:BinOp->Bool
 | .eql | .neq=>true
 | _=>false
theorem qah{op:BinOp}(ho:q02 op=false){t:qh8}(ht:q28 Q t=true){v v' x x':qgB}(h:VR Z v v')(hx:VR Z x x')(hG:Gl P Z) :SR Q P VR (binOp op t v x) Z (binOp op t v' x'):=by
 have ints:∀(k:IntKind) (a:Int) (k':IntKind) (b:Int),SR Q P VR (binOp op t (.int k a) (.int k' b)) Z (binOp op t (.int k a) (.int k' b)):=by
  intro k a k' b;have b7:∀op,SR Q P VR (Op.intDiv op k a b) Z (Op.intDiv op k a b):=λop=>by
   unfold Op.intDiv;refine qC (λ_=>qw hT hG _) λ_=>?_;cases op<;>first | exact qd (.int _ _) | exact qh
  have a6:∀op,SR Q P VR (Op.shift op k a k' b) Z (Op.shift op k a k' b):=λop=>by
   unfold Op.shift;refine qC (λ_=>qw hT hG _) λ_=>?_;dsimp only;cases op<;>first | exact qd (.int _ _) | exact qh
  cases op<;>first
   | exact a6 .shl
   | exact a6 .shr
   | (refine qC (λ_=>qh) λ_=>?_;first | exact b7 .quo | exact b7 .rem | exact qd (.int _ _) | exact qd (.bool _))
   | exact absurd ho (by decide)
 have a7:op=.add->∀(p p':Option qi5) (k:IntKind) (b:Int),VR Z (.pointer p) (.pointer p')->SR Q P VR (binOp .add t (.pointer p) (.int k b)) Z (binOp .add t (.pointer p') (.int k b)):=by
  intro _ p p' k b hp;refine .bnd (qP hT t) λO d d' l hd=>?_;obtain⟨rfl,hd⟩:=hd;have:SR Q P VR (qok t (.pointer p) (.int k b)) O (qok t (.pointer p') (.int k b)):=jd hT (hp.mono l) (.int k b);unfold q28 at ht;rw[hd] at ht;cases d'<;>first | exact this | cases ht
 have a9:∀(a8:BinOp) {i j i' j' o s o' s'},BR Z i j->BR Z i' j'->SR Q P VR (do Op.addrCmp a8 (<- qjn ⟨i,o,s⟩).1 (<- qjn ⟨i',o',s'⟩).1) Z (do Op.addrCmp a8 (<- qjn ⟨j,o,s⟩).1 (<- qjn ⟨j',o',s'⟩).1):=by
  intro a8 i j i' j' o s o' s' h1 h2;refine .bnd (jK h1) λO a b l hab=>?_;obtain⟨_,_,_,_,_,rfl,rfl,hb1⟩:=hab;refine .bnd (jK (h2.mono l)) λV a b l' hab=>?_;obtain⟨_,_,_,_,_,rfl,rfl,b6⟩:=hab;exact q5t hT a8 (hb1.mono l') b6 (hG.mono (l.trans l'))
 have sub:∀{i j i' j' o s o' s'},BR Z i j->BR Z i' j'->SR Q P VR (do Op.addrSub .u64 (<- qjn ⟨i,o,s⟩).1 (<- qjn ⟨i',o',s'⟩).1) Z (do Op.addrSub .u64 (<- qjn ⟨j,o,s⟩).1 (<- qjn ⟨j',o',s'⟩).1):=by
  intro i j i' j' o s o' s' h1 h2;refine .bnd (jK h1) λO a b l hab=>?_;obtain⟨_,_,_,_,_,rfl,rfl,hb1⟩:=hab;refine .bnd (jK (h2.mono l)) λV a b l' hab=>?_;obtain⟨_,_,_,_,_,rfl,rfl,b6⟩:=hab;exact q5r hT .u64 (hb1.mono l') b6 (hG.mono (l.trans l'))
 have b0:∀{i j o s} (k:IntKind) (n:Int),BR Z i j->SR Q P VR (do Op.addrMod k (<- qjn ⟨i,o,s⟩).1 n) Z (do Op.addrMod k (<- qjn ⟨j,o,s⟩).1 n):=by
  intro i j o s k n h1;refine .bnd (jK h1) λO a b l hab=>?_;obtain⟨_,_,_,_,_,rfl,rfl,hb1⟩:=hab;exact q5s hT k n hb1
 cases h with
 | int k a=>
  cases hx with
  | int k' b=>exact ints k a k' b
  | ptr o s hb=>cases op<;>first | exact jd hT (.ptr o s hb) (.int k a) | exact b0 k (a+1) hb | exact qq | exact absurd ho (by decide)
  | ptrNil=>cases op<;>first | exact jd hT .ptrNil (.int k a) | exact qq | exact absurd ho (by decide)
  | _=>cases op<;>first | exact qh | exact absurd ho (by decide)
 | string a=>
  cases hx with
  | string b=>
   cases op<;>first
    | exact qd (.bool _)
    | exact qh
    | (refine qC (λ_=>qq) λ_=>?_;exact qd (.string _))
    | exact absurd ho (by decide)
  | ptr o s hb=>cases op<;>first | exact qq | exact qh | exact absurd ho (by decide)
  | ptrNil=>cases op<;>first | exact qq | exact qh | exact absurd ho (by decide)
  | _=>cases op<;>first | exact qh | exact absurd ho (by decide)
 | ptr o s hb=>
  cases hx with
  | int k b=>cases op<;>first | exact a7 rfl _ _ k b (.ptr o s hb) | exact jd hT (.ptr o s hb) (.int k (-b)) | exact b0 k b hb | exact b0 k (b+1) hb | exact qq | exact absurd ho (by decide)
  | ptr o' s' hb'=>cases op<;>first | exact sub hb hb' | exact a9 .lss hb hb' | exact a9 .leq hb hb' | exact a9 .gtr hb hb' | exact a9 .geq hb hb' | exact qq | exact absurd ho (by decide)
  | ptrNil=>cases op<;>first | exact qq | exact absurd ho (by decide)
  | _=>cases op<;>first | exact qq | exact qh | exact absurd ho (by decide)
 | ptrNil=>
  cases hx with
  | int k b=>cases op<;>first | exact a7 rfl _ _ k b .ptrNil | exact jd hT .ptrNil (.int k (-b)) | exact qq | exact absurd ho (by decide)
  | _=>cases op<;>first | exact qq | exact qh | exact absurd ho (by decide)
 | _=>
  cases hx with
  | ptr o s hb=>cases op<;>first | exact qq | exact qh | exact absurd ho (by decide)
  | ptrNil=>cases op<;>first | exact qq | exact qh | exact absurd ho (by decide)
  | _=>cases op<;>first | exact qh | exact absurd ho (by decide)
end
end
section
def q70(Q:qh2)(t:qh8):Bool :=
 match Q.info? t with
 | some i=>match i.desc with | .named n _=>n != "sync.copyChecker" | _=>true
 | none=>true
def eqB(Q:qh2):Nat->qh8->Bool
 | 0,_=>false
 | n+1,t=>
  match Q.underlying t with
  | some .bool | some .string | some (.slice _) | some (.map ..) | some (.func ..)=>true
  | some (.int _)=>q70 Q t
  | some (.struct fs)=>fs.all λf=>f.name == "_" || eqB Q n f.type
  | some (.array _ e)=>eqB Q n e
  | _=>false
theorem zV{Q:qh2}{v:qgB}(hv:v=.tuple #[]\/∃r,v=.chan r)(d:Nat){t:qh8}(ht:∀a b,Q.underlying t≠some (.chan a b))(x:qgB):Bad Q (Op.equalIn d t v x):=by
 cases d with
 | zero=>exact rfl
 | succ d=>
  unfold Op.equalIn;show Bad Q ((match Q.underlying t with | some i=>(pure i:Sem TypeDesc) | none=>stuck "no such type").bind _);cases hu:Q.underlying t with
  | none=>exact rfl
  | some ty=>
   rcases hv with rfl | ⟨r,rfl⟩
   ·cases ty<;>cases x<;>first | exact rfl | (rename_i p;cases p<;>exact rfl)
   ·cases ty<;>first | exact absurd hu (ht _ _) | (cases x<;>first | exact rfl | (rename_i p;cases p<;>exact rfl))
theorem zU{Q:qh2}{v:qgB}(hv:v=.tuple #[]\/∃r,v=.chan r)(d:Nat){t:qh8}(ht:∀a b,Q.underlying t≠some (.chan a b))(x:qgB):Bad Q (Op.equalIn d t x v):=by
 cases d with
 | zero=>exact rfl
 | succ d=>
  unfold Op.equalIn;show Bad Q ((match Q.underlying t with | some i=>(pure i:Sem TypeDesc) | none=>stuck "no such type").bind _);cases hu:Q.underlying t with
  | none=>exact rfl
  | some ty=>
   rcases hv with rfl | ⟨r,rfl⟩
   ·cases ty<;>cases x<;>first | exact rfl | (rename_i p;cases p<;>exact rfl) | (rename_i p _;cases p<;>exact rfl) | (rename_i p _ _;cases p<;>exact rfl)
   ·cases ty<;>first | exact absurd hu (ht _ _) | (cases x<;>first | exact rfl | (rename_i p;cases p<;>exact rfl) | (rename_i p _;cases p<;>exact rfl) | (rename_i p _ _;cases p<;>exact rfl))
theorem jZ{Q:qh2}{n:Nat}{t:qh8}(h:eqB Q n t=true):∀a b,Q.underlying t≠some (.chan a b):=by
 intro a b e;cases n with
 | zero=>cases h
 | succ n=>
  unfold eqB at h;rw[e] at h;cases h
section
variable[JunkSet]{Q P:qh2}(hT:P.toTables=Q.toTables){Z:Ren}{Y M W:Type}{R:Rel Y M}
theorem zH{σT:Type}{K:Ren->Prop}(hK:∀Z O,Le Z O->K Z->K O){f f':Y->σT->Sem (ForInStep σT)}(l:List Y)(h:∀a∈l,∀Z b,K Z->SR Q P EqR (f a b) Z (f' a b)):∀(Z:Ren) (b:σT),K Z->SR Q P EqR (forIn l b f) Z (forIn l b f'):=by
 induction l with
 | nil=>intro Z b _;exact qd rfl
 | cons a l ih=>
  intro Z b k;rw[qr0,qr0];refine .bndE (h a (qob ..) Z b k) λO s lσ=>?_;cases s with
  | done b=>exact qd rfl
  | yield b=>exact ih (λa ha=>h a (qnA _ ha)) O b (hK _ _ lσ k)
include hT
theorem Zc:∀(n d:Nat) {Z:Ren} {t:qh8} {x x' y y':qgB},eqB Q n t=true->VR Z x x'->VR Z y y'->Gl P Z ->SR Q P EqR (Op.equalIn d t x y) Z (Op.equalIn d t x' y'):=by
 intro n;induction n with
 | zero=>intro d Z t x x' y y' h;cases h
 | succ n ih=>
  intro d Z t x x' y y' h hx hy hG;cases d with
  | zero=>exact qq
  | succ d=>
   unfold Op.equalIn;refine .bnd (qP hT t) λO ty b0 l a6=>?_;obtain⟨rfl,a6⟩:=a6;replace hx:=hx.mono l;replace hy:=hy.mono l;replace hG:=hG.mono l;unfold eqB at h;rw[a6] at h;cases b0 with
   | bool=>cases hx<;>first | exact qh | (cases hy<;>first | exact qh | exact qd rfl)
   | string=>cases hx<;>first | exact qh | (cases hy<;>first | exact qh | exact qd rfl)
   | slice e=>cases hx<;>first | exact qh | (cases hy<;>first | exact qh | exact qd rfl)
   | map k e=>cases hx<;>first | exact qh | (cases hy<;>first | exact qh | exact qd rfl)
   | func a b c=>cases hx<;>first | exact qh | (cases hy<;>first | exact qh | exact qd rfl)
   | int k=>
    have b6:∀{i j i' j' o s o' s'},BR O i j->BR O i' j'->SR Q P EqR (do
      let (a,b):=((<- qjn ⟨i,o,s⟩).1,(<- qjn ⟨i',o',s'⟩).1)
      if a.block == b.block && a.block<(<- program).globals.size then return (<- qoC a) == (<- qoC b)
      let .named "sync.copyChecker" _:=(<- qkA t).desc | unsupported .addressObserved
      if a == b then pure true else unsupported .addressObserved) O (do
      let (a,b):=((<- qjn ⟨j,o,s⟩).1,(<- qjn ⟨j',o',s'⟩).1)
      if a.block == b.block && a.block<(<- program).globals.size then return (<- qoC a) == (<- qoC b)
      let .named "sync.copyChecker" _:=(<- qkA t).desc | unsupported .addressObserved
      if a == b then pure true else unsupported .addressObserved):=by
     intro i j i' j' o s o' s' h1 h2;refine .bnd (jK h1) λO a b l hab=>?_;obtain⟨_,_,_,_,_,rfl,rfl,hb1⟩:=hab;refine .bnd (jK (h2.mono l)) λV a b l' hab=>?_;obtain⟨_,_,_,_,_,rfl,rfl,a8⟩:=hab;dsimp only;refine zE ?_
     rename_i i1 j1 o1 s1 x1 i2 j2 o2 s2 x2
     have hP:P.globals.size=Q.globals.size:=by rw[Zm hT]
     by_cases hc:(i1 == i2 && decide (i1<Q.globals.size))=true
     ·rw[if_pos hc];simp only[qhh,beq_iff_eq,decide_eq_true_eq] at hc;obtain⟨rfl,hlt⟩:=hc;have e:j2=j1:=a8.fn (hb1.mono l');subst e;have e1:j2=i1:=(((hG.mono l).mono l') i1 (by omega)).fn a8 |>.symm;rw[if_pos (by simp[e1,hP,hlt])];exact .bndE (Qr hT (hb1.mono l') hlt) λU a lu=>.bndE (Qr hT (a8.mono lu) hlt) λX b _=>qd rfl
     ·rw[if_neg hc];refine .bad ?_;show Bad Q ((qkA t).bind _);have a7:∃ti,Q.info? t=some ti:=by
       unfold Program.underlying at a6;cases hq:Q.info? t with
       | none=>rw[hq] at a6;cases a6
       | some ti=>exact⟨ti,rfl⟩
      obtain⟨ti,a9⟩:=a7;unfold q70 at h;simp only[a9] at h;show Bad Q ((match Q.info? t with
       | some i=>(pure i:Sem ql2)
       | none=>stuck "no such type").bind _)
      rw[a9];show Bad Q (match ti.desc with
       | .named "sync.copyChecker" _=>if((⟨i1,o1,s1⟩:qi5) == ⟨i2,o2,s2⟩)=true then pure true else unsupported .addressObserved
       | _=>unsupported .addressObserved)
      split
      ·rename_i u hd
       rw[hd] at h;simp at h
      ·trivial
    cases hx with
    | int k1 a=>
     cases hy with
     | int k2 b=>exact qC (λ_=>qd rfl) λ_=>qh
     | ptr o s hb=>
      cases a with
      | ofNat m=>cases m with
       | zero=>exact qd rfl
       | succ m=>exact qq
      | negSucc m=>exact qq
     | ptrNil=>exact qq
     | _=>exact qh
    | ptr o s hb=>
     cases hy with
     | int k2 b=>
      cases b with
      | ofNat m=>cases m with
       | zero=>exact qd rfl
       | succ m=>exact qq
      | negSucc m=>exact qq
     | ptr o' s' hb'=>exact b6 hb hb'
     | ptrNil=>exact qq
     | _=>exact qq
    | ptrNil=>cases hy<;>exact qq
    | _=>cases hy<;>first | exact qh | exact qq
   | struct fs=>
    cases hx with
    | agg h1 h2=>
     cases hy with
     | agg h3 h4=>
      dsimp only;refine zE ?_;rw[qa2 hT];refine qC (λ_=>j4) λ_=>?_;rw[<- qlh,<- qlh];dsimp only at h;rw[qiA] at h;refine .bndE (zH (K:=λX=>Le O X) (λ_ _ l k=>k.trans l) _ (λf hf U b lu=>?_) O _ (.refl O)) λU r lu=>?_
      ·refine qC (λhne=>?_) λ_=>qd rfl;have b7:eqB Q n f.type=true:=by
        have:=h f (qjm.1 hf);simp only[qju,beq_iff_eq] at this;exact this.resolve_left hne
       exact .bnd (jC hT (AsR.mono lu ⟨h1,h2⟩) _) λω1 p p' l1 hp=>.bnd (jC hT (AsR.mono (lu.trans l1) ⟨h3,h4⟩) _) λω2 q q' l2 hq=>
        .bndE (ih d b7 (hp.mono l2) hq (hG.mono ((lu.trans l1).trans l2))) λω3 r _=>qC (λ_=>qd rfl) λ_=>qd rfl
      ·obtain⟨r,u⟩:=r;cases r<;>exact qd rfl
     | _=>exact qh
    | _=>exact qh
   | array len e=>
    cases hx with
    | agg h1 h2=>
     cases hy with
     | agg h3 h4=>
      dsimp only;refine .bndE (qR hT e) λV n l'=>?_;rw[qj2,qj2];refine .bndE (zH (K:=λX=>Le O X) (λ_ _ l k=>k.trans l) _ (λf hf U b lu=>?_) V _ l') λU r lu=>?_
      ·exact .bnd (jC hT (AsR.mono lu ⟨h1,h2⟩) _) λω1 p p' l1 hp=>.bnd (jC hT (AsR.mono (lu.trans l1) ⟨h3,h4⟩) _) λω2 q q' l2 hq=>
        .bndE (ih d h (hp.mono l2) hq (hG.mono ((lu.trans l1).trans l2))) λω3 r _=>qC (λ_=>qd rfl) λ_=>qd rfl
      ·obtain⟨r,u⟩:=r;cases r<;>exact qd rfl
     | _=>exact qh
    | _=>exact qh
   | _=>cases h
theorem YG:∀(n d:Nat) {Z:Ren} {t:qh8} {x x' y y':qgB},eqB Q n t=true->VR Z x x'->VR Z y y' ->SR Q P EqR (Op.eqGuardIn d t x y) Z (Op.eqGuardIn d t x' y'):=by
 intro n;induction n with
 | zero=>intro d Z t x x' y y' h;cases h
 | succ n ih=>
  intro d Z t x x' y y' h hx hy;cases d with
  | zero=>exact qq
  | succ d=>
   unfold Op.eqGuardIn;refine .bnd (qP hT t) λO ty a7 l a6=>?_;obtain⟨rfl,a6⟩:=a6;replace hx:=hx.mono l;replace hy:=hy.mono l;unfold eqB at h;rw[a6] at h;cases a7 with
   | struct fs=>
    cases hx with
    | agg h1 h2=>
     cases hy with
     | agg h3 h4=>
      dsimp only;rw[<- qlh,<- qlh];dsimp only at h;rw[qiA] at h;refine .bndE (zH (K:=λX=>Le O X) (λ_ _ l k=>k.trans l) _ (λf hf U b lu=>?_) O _ (.refl O)) λU r lu=>?_
      ·refine qC (λhne=>?_) λ_=>qd rfl;have a8:eqB Q n f.type=true:=by
        have:=h f (qjm.1 hf);simp only[qju,beq_iff_eq] at this;exact this.resolve_left hne
       exact .bnd (jC hT (AsR.mono lu ⟨h1,h2⟩) _) λω1 p p' l1 hp=>.bnd (jC hT (AsR.mono (lu.trans l1) ⟨h3,h4⟩) _) λω2 q q' l2 hq=>
        .bndE (ih d a8 (hp.mono l2) hq) λω3 r _=>qC (λ_=>qd rfl) λ_=>qd rfl
      ·obtain⟨r,u⟩:=r;cases r<;>exact qd rfl
     | wild _ hn=>cases y'<;>first | exact qd rfl | cases hn
     | _=>exact qd rfl
    | wild _ hn=>cases x'<;>first | exact qd rfl | cases hn
    | _=>exact qd rfl
   | array len e=>
    cases hx with
    | agg h1 h2=>
     cases hy with
     | agg h3 h4=>
      dsimp only;refine .bndE (qR hT e) λV n l'=>?_;rw[qj2,qj2];refine .bndE (zH (K:=λX=>Le O X) (λ_ _ l k=>k.trans l) _ (λf hf U b lu=>?_) V _ l') λU r lu=>?_
      ·exact .bnd (jC hT (AsR.mono lu ⟨h1,h2⟩) _) λω1 p p' l1 hp=>.bnd (jC hT (AsR.mono (lu.trans l1) ⟨h3,h4⟩) _) λω2 q q' l2 hq=>
        .bndE (ih d h (hp.mono l2) hq) λω3 r _=>qC (λ_=>qd rfl) λ_=>qd rfl
      ·obtain⟨r,u⟩:=r;cases r<;>exact qd rfl
     | wild _ hn=>cases y'<;>first | exact qd rfl | cases hn
     | _=>exact qd rfl
    | wild _ hn=>cases x'<;>first | exact qd rfl | cases hn
    | _=>exact qd rfl
   | interface ms=>cases h
   | _=>cases hx<;>first | exact qd rfl | (cases hy<;>exact qd rfl)
def kG:qhE->Bool
 | .const .nilIface=>true
 | _=>false
def q92(Q:qh2)(t:qh8)(x y:qhE):Bool:=eqB Q 6 t || (kG x || kG y) && (match Q.underlying t with | some (.interface _)=>true | _=>false)
theorem qeu{op:BinOp}(ho:q02 op=true){t:qh8}(ht:eqB Q 6 t=true){v v' x x':qgB}(h:VR Z v v')(hx:VR Z x x')(hG:Gl P Z) :SR Q P VR (binOp op t v x) Z (binOp op t v' x'):=by
 have e:SR Q P VR (do pure (.bool (<- Op.equal t v x))) Z (do pure (.bool (<- Op.equal t v' x'))):=.bndE (Zc hT 6 _ ht h hx hG) λO b _=>qd (.bool _);have n:SR Q P VR (do pure (.bool (!(<- Op.equal t v x)))) Z (do pure (.bool (!(<- Op.equal t v' x')))):=.bndE (Zc hT 6 _ ht h hx hG) λO b _=>qd (.bool _);cases op<;>first | exact absurd ho (by decide) | skip
 ·cases h<;>first | exact e | exact .bad (Bad.bind (zV (.inl rfl) _ (jZ ht) _) _) | exact .bad (Bad.bind (zV (.inr ⟨_,rfl⟩) _ (jZ ht) _) _) | (cases hx<;>first | exact e | exact .bad (Bad.bind (zU (.inl rfl) _ (jZ ht) _) _) | exact .bad (Bad.bind (zU (.inr ⟨_,rfl⟩) _ (jZ ht) _) _) | exact qd (.bool _) | exact qC (λ_=>qh) λ_=>qd (.bool _))
 ·cases h<;>first | exact n | exact .bad (Bad.bind (zV (.inl rfl) _ (jZ ht) _) _) | exact .bad (Bad.bind (zV (.inr ⟨_,rfl⟩) _ (jZ ht) _) _) | (cases hx<;>first | exact n | exact .bad (Bad.bind (zU (.inl rfl) _ (jZ ht) _) _) | exact .bad (Bad.bind (zU (.inr ⟨_,rfl⟩) _ (jZ ht) _) _) | exact qd (.bool _) | exact qC (λ_=>qh) λ_=>qd (.bool _))
end
end
section
section
variable[JunkSet]{Q P:qh2}(hT:P.toTables=Q.toTables){Z:Ren}{Y M W:Type}{R:Rel Y M}
include hT
theorem qad{op:BinOp}(ho:q02 op=true){t:qh8}(ht:∃ms,Q.underlying t=some (.interface ms)){v v' x x':qgB}(h:VR Z v v')(hx:VR Z x x')(hn:v=.nilIface\/x=.nilIface) :SR Q P VR (binOp op t v x) Z (binOp op t v' x'):=by
 obtain⟨ms,a8⟩:=ht;have a6:∀a b,Q.underlying t≠some (.chan a b):=λa b e=>by rw[a8] at e;cases e
 have key:SR Q P EqR (Op.equal t v x) Z (Op.equal t v' x'):=by
  refine .bnd (qP hT t) λO ty a9 l a7=>?_;obtain⟨rfl,a7⟩:=a7;rw[a8] at a7;cases a7;rcases hn with rfl | rfl
  ·cases h;cases hx<;>first | exact qd rfl | exact qh
  ·cases hx;cases h<;>first | exact qd rfl | exact qh
 have e:SR Q P VR (do pure (.bool (<- Op.equal t v x))) Z (do pure (.bool (<- Op.equal t v' x'))):=.bndE key λO b _=>qd (.bool _);have n:SR Q P VR (do pure (.bool (!(<- Op.equal t v x)))) Z (do pure (.bool (!(<- Op.equal t v' x')))):=.bndE key λO b _=>qd (.bool _);cases op<;>first | exact absurd ho (by decide) | skip
 ·rcases hn with rfl | rfl
  ·cases h;cases hx<;>first | exact e | exact .bad (Bad.bind (zU (.inl rfl) _ a6 _) _) | exact .bad (Bad.bind (zU (.inr ⟨_,rfl⟩) _ a6 _) _)
  ·cases hx;cases h<;>first | exact e | exact .bad (Bad.bind (zV (.inl rfl) _ a6 _) _) | exact .bad (Bad.bind (zV (.inr ⟨_,rfl⟩) _ a6 _) _)
 ·rcases hn with rfl | rfl
  ·cases h;cases hx<;>first | exact n | exact .bad (Bad.bind (zU (.inl rfl) _ a6 _) _) | exact .bad (Bad.bind (zU (.inr ⟨_,rfl⟩) _ a6 _) _)
  ·cases hx;cases h<;>first | exact n | exact .bad (Bad.bind (zV (.inl rfl) _ a6 _) _) | exact .bad (Bad.bind (zV (.inr ⟨_,rfl⟩) _ a6 _) _)
theorem YI{op:BinOp}{t:qh8}{x y:qhE}(ht:q02 op=true->q92 Q t x y=true){v v' u u':qgB}(h:VR Z v v')(hu:VR Z u u')(hx:kG x=true->v=.nilIface)(hy:kG y=true->u=.nilIface)(hw:q02 op=true->∀w,(w=v\/w=u)->w≠.chan none) :SR Q P (λ_ _ _=>True) (eqGuard op t x y v u) Z (eqGuard op t x y v' u'):=by
 have a7:q02 op=true->SR Q P (λ_ _ _=>True) (eqGuard .eql t x y v u) Z (eqGuard .eql t x y v' u'):=by
  intro ho;have ht:=ht ho;have a8:=hw ho v (.inl rfl);have a6:=hw ho u (.inr rfl);unfold q92 at ht;simp only[qju,qhh] at ht;cases h with
  | wild _ _=>exact absurd rfl a8
  | nilIface=>
   cases hu with
   | nilIface=>
    refine qC (λh=>absurd h (by decide)) λ_=>?_;refine qC (λ_=>qd trivial) λhc=>?_;rcases ht with ht | ⟨hn,_⟩
    ·refine .bndE (YG hT 6 _ ht .nilIface .nilIface) λO b _=>?_;exact qC (λ_=>qq) λ_=>qd trivial
    ·exfalso;apply hc;rcases hn with hn | hn
     ·cases x<;>first | rfl | (exact absurd hn (by simp[kG]))
     ·cases y<;>first | exact absurd hn Bool.false_ne_true | (simp;done)
   | wild _ _=>exact absurd rfl a6
   | _=>exact qd trivial
  | agg h1 h2=>
   cases hu with
   | agg h3 h4=>
    refine qC (λh=>absurd h (by decide)) λ_=>?_;refine zE (zE ?_);rw[q2i hT,Ql hT];refine qC (λ_=>qd trivial) λ_=>?_;rcases ht with ht | ⟨hn,_⟩
    ·refine .bndE (YG hT 6 _ ht (.agg h1 h2) (.agg h3 h4)) λO b _=>?_;exact qC (λ_=>qq) λ_=>qd trivial
    ·rcases hn with hn | hn
     ·have:=hx hn;cases this
     ·have:=hy hn;cases this
   | wild _ _=>exact absurd rfl a6
   | _=>exact qd trivial
  | _=>exact qd trivial
 cases op<;>first | exact a7 rfl | exact qd trivial
theorem qdD{op:BinOp}(ho:q02 op=true){t:qh8}(ht:∀a b,Q.underlying t≠some (.chan a b)){x y:qhE}{v u:qgB}(h:v=.chan none\/u=.chan none):Bad Q (do eqGuard op t x y v u;binOp op t v u):=by
 rcases h with rfl | rfl
 ·cases op<;>first | (cases ho;done) | exact Bad.bind (zV (.inr ⟨_,rfl⟩) _ ht _) _
 ·cases op<;>first | (cases ho;done) | (cases v<;>exact Bad.bind (zU (.inr ⟨_,rfl⟩) _ ht _) _)
omit hT in
theorem q5n{v v':qgB}(h:VR Z v v')(i:Nat):SR Q P VR (qpz v i) Z (qpz v' i):=by
 cases h with
 | @tuple a a' h1 h2=>
  have ha:AsR Z a a':=⟨h1,h2⟩;unfold qpz;dsimp only;cases hc:a[i]? with
  | none=>exact qh
  | some x=>
   obtain⟨y,hy,hv⟩:=ha.get hc;rw[hy];exact qd hv
 | _=>exact qh
theorem qac(t:qh8){v v':qgB}(h:VR Z v v')(i:Nat):SR Q P VR (Instr.field t v i) Z (Instr.field t v' i):=by
 refine .bndE (qB hT t) λO d l=>?_;cases d with
 | struct fs=>
  dsimp only;cases fs[i]? with
  | none=>exact qh
  | some f=>exact .bnd (qag (h.mono l)) λV a a' l' ha=>jC hT ha _
 | _=>exact qh
theorem qab(hG:Gl P Z)(t:qh8){v v' x x':qgB}(h:VR Z v v')(hx:VR Z x x'):SR Q P VR (qn5 t v x) Z (qn5 t v' x'):=by
 refine .bndE (xe hx) λO ki l=>?_;obtain⟨k,i⟩:=ki;refine .bndE (qB hT t) λV d l'=>?_;have h':=h.mono (l.trans l');have a6:=hG.mono (l.trans l');cases d with
 | array len e=>
  cases h' with
  | agg h1 h2=>
   dsimp only;refine qC (λ_=>?_) λ_=>je hT a6 _ _ _ _;exact .bndE (qR hT e) λU n lu=>jC hT (AsR.mono lu ⟨h1,h2⟩) _
  | _=>exact qh
 | string=>
  cases h' with
  | string s=>
   dsimp only;split
   ·exact qd (.int _ _)
   ·exact je hT a6 _ _ _ _
  | _=>exact qh
 | _=>exact qh
theorem J9(t:qh8){v v':qgB}(h:VR Z v v'):SR Q P VR (qps t v) Z (qps t v'):=by
 refine .bndE (qB hT t) λO d l=>?_;cases d<;>first | exact qd (.iface t (h.mono l)) | exact qh
theorem qa6{op:UnOp}{v v':qgB}(h:VR Z v v'):SR Q P VR (Op.unary op v) Z (Op.unary op v'):=by
 cases h<;>cases op<;>first | exact qh | exact qq | exact qd (.int _ _) | exact qd (.bool _)
theorem KM(hG:Gl P Z){t a:qh8}(hz:kS Q a=true)(c:Bool){v v':qgB}(h:VR Z v v'):SR Q P VR (qkz v t a c) Z (qkz v' t a c):=by
 have a7:∀{O:Ren} {u u':qgB},VR O u u'->SR Q P VR (pure (if c then .tuple #[u,.bool true] else u):Sem qgB) O (pure (if c then .tuple #[u',.bool true] else u')):=by
  intro O u u' hu;cases c with
  | true=>exact qd (AsR.tuple (ze.2 (.cons hu (.cons (.bool _) .nil))))
  | false=>exact qd hu
 have a6:∀{O:Ren} (s d:Option qh8) (m:String),Le Z O->SR Q P VR (if c then do pure (.tuple #[<- qlz a,.bool false]) else qkm (.typeAssertion s d a m):Sem qgB) O (if c then do pure (.tuple #[<- qlz a,.bool false]) else qkm (.typeAssertion s d a m)):=by
  intro O s d m l;cases c with
  | true=>exact .bnd (zk hT hz) λV z z' _ a8=>qd (AsR.tuple (ze.2 (.cons a8 (.cons (.bool _) .nil))))
  | false=>exact qw hT (hG.mono l) (.typeAssertion s d a m)
 unfold qkz;dsimp only;refine .bndE (qB hT a) λO d l=>?_;have h':=h.mono l;cases d with
 | interface ms=>
  cases h' with
  | nilIface=>exact a6 none none "" l
  | iface ty hv=>
   dsimp only;refine .bndE (zm hT ty) λV ti l'=>?_;split
   ·exact a7 (.iface ty (hv.mono l'))
   ·exact a6 none (some ty) _ (l.trans l')
  | _=>exact qh
 | _=>
  cases h' with
  | nilIface=>exact a6 (some t) none "" l
  | iface ty hv=>
   dsimp only;by_cases e:ty=a
   ·rw[if_pos e,if_pos e];exact a7 hv
   ·rw[if_neg e,if_neg e];exact a6 (some t) (some ty) "" l
  | _=>exact qh
def qak(Q:qh2)(t:qh8):Bool :=
 match Q.info? t with
 | some i=>i.size != 0
 | none=>true
theorem q5i{t:qh8}(h:qak Q t=true):SR Q P (λ_ a b=>b=a/\a≠0) (sizeOf t) Z (sizeOf t):=by
 refine .bnd (x9 hT t) λO i i' l hi=>?_;obtain⟨rfl,hi⟩:=hi;refine qd ⟨rfl,?_⟩;unfold qak at h;rw[hi] at h;simpa using h
def q2l(Q:qh2)(s:qh8)(f:Nat):Bool :=
 match Q.underlying s with
 | some (.struct fs)=>match fs[f]? with | some f=>qak Q f.type | none=>true
 | _=>true
theorem q5m{s:qh8}{f:Nat}(hf:q2l Q s f=true){v v':qgB}(h:VR Z v v'):SR Q P VR (qr9 s v f) Z (qr9 s v' f):=by
 refine .bnd (qP hT s) λO d d' l hd=>?_;obtain⟨rfl,hd⟩:=hd;unfold q2l at hf;rw[hd] at hf;cases d' with
 | struct fs=>
  dsimp only at hf ⊢;cases hfs:fs[f]? with
  | none=>exact qh
  | some fd=>
   rw[hfs] at hf;dsimp only at hf ⊢;refine .bnd (yL (h.mono l)) λV a b l' hab=>?_;obtain⟨i,j,o,sp,rfl,rfl,hb⟩:=hab;show SR Q P VR (fieldPlace ⟨i,o,sp⟩ fd>>=λp=>pure (.pointer (some p))) V (fieldPlace ⟨j,o,sp⟩ fd>>=λp=>pure (.pointer (some p)));refine .bnd (R:=AdR) ?_ λU p q _ a6=>by obtain⟨i',j',o',s',rfl,rfl,hb'⟩:=a6;exact qd (.ptr _ _ hb')
   refine .bnd (q5i hT hf) λU n n' lu hn=>?_;obtain⟨rfl,hn⟩:=hn;rw[if_neg hn,if_neg hn];obtain⟨o1,s1,e1,e2⟩:=yf i j o fd.offset sp;rw[e1,e2];exact qd ⟨_,_,_,_,rfl,rfl,hb.mono lu⟩
 | _=>exact qh
theorem q5l(hG:Gl P Z)(t:qh8){v v' x x':qgB}(h:VR Z v v')(hx:VR Z x x'):SR Q P VR (qpA t v x) Z (qpA t v' x'):=by
 unfold qpA;refine .bndE (xe hx) λO ki l=>?_;obtain⟨k,i⟩:=ki;dsimp only;refine .bndE (qB hT t) λV d l'=>?_;have h':=h.mono (l.trans l');have a7:=hG.mono (l.trans l');have fin:∀(U:Ren) (b b':Option qi5) (len:Nat) (e:qh8) (a6:Bool),Le V U->VR U (.pointer b) (.pointer b') ->
   SR Q P VR (match b with
    | some a=>if 0<=i/\i<len then do pure (.pointer (some (a.add (i.toNat*(<- sizeOf e))))) else if a6 then unsupported (.noEntry "op/indexAddr.an index out of range at an array of length 0 or 1 (ledger 616)") else ql9 k i len .index
    | none=>ql9 k i 0 .index) U (match b' with
    | some a=>if 0<=i/\i<len then do pure (.pointer (some (a.add (i.toNat*(<- sizeOf e))))) else if a6 then unsupported (.noEntry "op/indexAddr.an index out of range at an array of length 0 or 1 (ledger 616)") else ql9 k i len .index
    | none=>ql9 k i 0 .index):=by
  intro U b b' len e a6 lu hb;cases hb with
  | ptrNil=>exact je hT (a7.mono lu) _ _ _ _
  | @ptr i1 j1 o s hb=>
   dsimp only;refine qC (λ_=>?_) λ_=>qC (λ_=>qq) λ_=>je hT (a7.mono lu) _ _ _ _;refine .bndE (qR hT e) λX n l2=>?_;obtain⟨o1,s1,e1,e2⟩:=yf i1 j1 o (i.toNat*n) s;rw[e1,e2];exact qd (.ptr _ _ (hb.mono l2))
 have go:∀(U:Ren) (b b':Option qi5) (len:Nat) (e:qh8),Le V U->VR U (.pointer b) (.pointer b')->SR Q P VR (do
    let a6:=len<=1 && (match <- qkf t with | .array ..=>true | _=>false)
    match b with
    | some a=>if 0<=i/\i<len then do pure (.pointer (some (a.add (i.toNat*(<- sizeOf e))))) else if a6 then unsupported (.noEntry "op/indexAddr.an index out of range at an array of length 0 or 1 (ledger 616)") else ql9 k i len .index
    | none=>ql9 k i 0 .index) U (do
    let a6:=len<=1 && (match <- qkf t with | .array ..=>true | _=>false)
    match b' with
    | some a=>if 0<=i/\i<len then do pure (.pointer (some (a.add (i.toNat*(<- sizeOf e))))) else if a6 then unsupported (.noEntry "op/indexAddr.an index out of range at an array of length 0 or 1 (ledger 616)") else ql9 k i len .index
    | none=>ql9 k i 0 .index):=λU b b' len e lu hb=>
   .bndE (qB hT t) λX d l2=>fin X b b' len e _ (lu.trans l2) (hb.mono l2)
 cases d with
 | array len e=>
  refine .bnd (yL h') λU a b lu hab=>?_;obtain⟨i1,j1,o,s,rfl,rfl,hb⟩:=hab;exact go U _ _ len e lu (.ptr o s hb)
 | slice e=>
  cases h' with
  | sliceNil n c=>exact go V none none n e (.refl _) .ptrNil
  | slice o s n c hb=>exact go V _ _ n e (.refl _) (.ptr o s hb)
  | _=>exact zn
 | _=>exact zn
theorem yG(hG:Gl P Z){x x':qgB}(h:VR Z x x')(y:Nat)(c:qq2):SR Q P EqR (qkc x y c) Z (qkc x' y c):=by
 refine .bndE (xe h) λO ki l=>?_;obtain⟨k,i⟩:=ki;exact qC (λ_=>qd rfl) λ_=>je hT (hG.mono l) _ _ _ _
def Zt(Z:Ren)(a b:Option qgB):Prop:=(a=none/\b=none)\/∃x y,a=some x/\b=some y/\VR Z x y
theorem jc(hG:Gl P Z)(b:Bool)(len cap:Nat){lo lo' hi a8 mx a6:Option qgB}(h1:Zt Z lo lo')(h2:Zt Z hi a8)(h3:Zt Z mx a6) :SR Q P EqR (qol b len cap lo hi mx) Z (qol b len cap lo' a8 a6):=by
 have low:∀(O:Ren) (m h:Nat) (c:qq2),Le Z O->SR Q P EqR (do
   let l <- match lo with
    | some v=>qkc v h c
    | none=>pure 0
   pure (l,h,m)) O (do
   let l <- match lo' with
    | some v=>qkc v h c
    | none=>pure 0
   pure (l,h,m)):=by
  intro O m h c l;rcases h1 with⟨rfl,rfl⟩ | ⟨x,y,rfl,rfl,hv⟩
  ·exact qd rfl
  ·exact .bndE (yG hT (hG.mono l) (hv.mono l) _ _) λV a _=>qd rfl
 have a7:∀(O:Ren) (m:Nat) (c1 c2 c3:qq2),Le Z O->SR Q P EqR (do
   let h <- match hi,mx with
    | some v,some _=>qkc v m c1
    | some v,none=>qkc v m c2
    | none,none=>pure len
    | none,some _=>stuck "Slice: max without high"
   let l <- match lo with
    | some v=>qkc v h c3
    | none=>pure 0
   pure (l,h,m)) O (do
   let h <- match a8,a6 with
    | some v,some _=>qkc v m c1
    | some v,none=>qkc v m c2
    | none,none=>pure len
    | none,some _=>stuck "Slice: max without high"
   let l <- match lo' with
    | some v=>qkc v h c3
    | none=>pure 0
   pure (l,h,m)):=by
  intro O m c1 c2 c3 l;rcases h3 with⟨rfl,rfl⟩ | ⟨x,y,rfl,rfl,hv⟩
  ·rcases h2 with⟨rfl,rfl⟩ | ⟨x,y,rfl,rfl,hv⟩
   ·exact low O _ _ _ l
   ·exact .bndE (yG hT (hG.mono l) (hv.mono l) _ _) λU a l'=>low U _ _ _ (l.trans l')
  ·rcases h2 with⟨rfl,rfl⟩ | ⟨x,y,rfl,rfl,hv⟩
   ·exact zn
   ·exact .bndE (yG hT (hG.mono l) (hv.mono l) _ _) λU a l'=>low U _ _ _ (l.trans l')
 have es:a6.isSome=mx.isSome:=by rcases h3 with⟨rfl,rfl⟩ | ⟨x,y,rfl,rfl,_⟩<;>rfl
 unfold qol;rw[es];rcases h3':mx with _ | x
 ·have e2:a6=none:=by rcases h3 with⟨_,rfl⟩ | ⟨x,y,rfl,rfl,_⟩<;>first | rfl | cases h3'
  subst h3';subst e2;exact a7 Z cap _ _ _ (.refl Z)
 ·obtain⟨y,e2,hv⟩:∃y,a6=some y/\VR Z x y:=by
   rcases h3 with⟨rfl,_⟩ | ⟨x',y,rfl,e2,hv⟩
   ·cases h3'
   ·cases h3';exact⟨y,e2,hv⟩
  subst h3';subst e2;exact .bndE (yG hT hG hv _ _) λV a l=>a7 V a _ _ _ l
theorem qa9(hG:Gl P Z)(t:qh8){v v':qgB}(h:VR Z v v'){lo lo' hi a8 mx a7:Option qgB}(h1:Zt Z lo lo')(h2:Zt Z hi a8)(h3:Zt Z mx a7) :SR Q P VR (qpe t v lo hi mx) Z (qpe t v' lo' a8 a7):=by
 have a6:∀{O:Ren} {a b:Option qgB},Le Z O->Zt Z a b->Zt O a b:=λl h=>h.imp id λ⟨x,y,e1,e2,hv⟩=>⟨x,y,e1,e2,hv.mono l⟩;refine .bndE (qB hT t) λO d l=>?_;have h':=h.mono l;cases d with
 | string=>
  cases h' with
  | string s=>
   dsimp only;have e:a7.isSome=mx.isSome:=by rcases h3 with⟨rfl,rfl⟩ | ⟨x,y,rfl,rfl,_⟩<;>rfl
   rw[e];refine qC (λ_=>zn) λ_=>?_;exact .bndE (jc hT (hG.mono l) false _ _ (a6 l h1) (a6 l h2) (.inl ⟨rfl,rfl⟩)) λV r l'=>qd (.string _)
  | _=>exact qh
 | slice e=>
  cases h' with
  | sliceNil n c=>
   refine .bndE (jc hT (hG.mono l) true _ _ (a6 l h1) (a6 l h2) (a6 l h3)) λV r l'=>?_;obtain⟨a,b,c'⟩:=r;refine .bndE (qR hT e) λU z _=>?_;have e1:(if c'=a then(none:Option qi5) else Option.map (λ(x:qi5)=>x.add (a*z)) none)=none:=by split<;>rfl
   rw[e1];exact qd (.sliceNil _ _)
  | @slice i1 j1 o s n c hb=>
   refine .bndE (jc hT (hG.mono l) true _ _ (a6 l h1) (a6 l h2) (a6 l h3)) λV r l'=>?_;obtain⟨a,b,c'⟩:=r;refine .bndE (qR hT e) λU z l2=>?_;obtain⟨o1,s1,e1,e2⟩:=yf i1 j1 o (a*z) s;by_cases hc:c'=a
   ·rw[if_pos hc,if_pos hc];exact qd (.slice _ _ _ _ (hb.mono (l'.trans l2)))
   ·rw[if_neg hc,if_neg hc];simp only[qip,e1,e2];exact qd (.slice _ _ _ _ (hb.mono (l'.trans l2)))
  | _=>exact qh
 | pointer arr=>
  refine .bnd (q0B hT (hG.mono l) h') λV a b l' hab=>?_;obtain⟨i1,j1,o,s,rfl,rfl,hb⟩:=hab;refine .bndE (qB hT arr) λU d l2=>?_;cases d with
  | array n e=>
   dsimp only;have lu:=(l.trans l').trans l2;refine .bndE (jc hT (hG.mono lu) false _ _ (a6 lu h1) (a6 lu h2) (a6 lu h3)) λX r l3=>?_;obtain⟨a,b,c'⟩:=r;refine .bndE (qR hT e) λT z l4=>?_;dsimp only;obtain⟨o1,s1,e1,e2⟩:=yf i1 j1 o (a*z) s;by_cases hc:c'=a
   ·rw[if_pos hc,if_pos hc];exact qd (.slice _ _ _ _ (hb.mono ((l2.trans l3).trans l4)))
   ·rw[if_neg hc,if_neg hc,e1,e2];exact qd (.slice _ _ _ _ (hb.mono ((l2.trans l3).trans l4)))
  | _=>exact qh
 | _=>exact qh
theorem q5h(hG:Gl P Z)(t:qh8){v v':qgB}(h:VR Z v v'){lo lo' hi a8 mx a7:Option qgB}(h1:Zt Z lo lo')(h2:Zt Z hi a8)(h3:Zt Z mx a7) :SR Q P VR (qra t v lo hi mx) Z (qra t v' lo' a8 a7):=by
 have a6:∀{O:Ren} {a b:Option qgB},Le Z O->Zt Z a b->Zt O a b:=λl h=>h.imp id λ⟨x,y,e1,e2,hv⟩=>⟨x,y,e1,e2,hv.mono l⟩;refine .bndE (qB hT t) λO d l=>?_;have h':=h.mono l;have plain:SR Q P VR (qpe t v lo hi mx) O (qpe t v' lo' a8 a7):=qa9 hT (hG.mono l) t h' (a6 l h1) (a6 l h2) (a6 l h3);cases d with
 | array n e=>
  refine .bnd (yL h') λV a b l' hab=>?_;obtain⟨i1,j1,o,s,rfl,rfl,hb⟩:=hab;have lu:=l.trans l';refine .bndE (jc hT (hG.mono lu) false _ _ (a6 lu h1) (a6 lu h2) (a6 lu h3)) λX r l3=>?_;obtain⟨a,b,c'⟩:=r;refine .bndE (qR hT e) λT z l4=>?_;obtain⟨o1,s1,e1,e2⟩:=yf i1 j1 o (a*z) s;by_cases hc:c'=a
  ·rw[if_pos hc,if_pos hc];exact qd (.slice _ _ _ _ (hb.mono (l3.trans l4)))
  ·rw[if_neg hc,if_neg hc,e1,e2];exact qd (.slice _ _ _ _ (hb.mono (l3.trans l4)))
 | _=>exact plain
end
end
section
section
variable[JunkSet]{Q P:qh2}(hT:P.toTables=Q.toTables){Z:Ren}{Y M W:Type}{R:Rel Y M}
theorem YF{v v':qgB}(h:VR Z v v'):SR Q P EqR (qpB v) Z (qpB v'):=by
 cases h<;>first | exact qd rfl | exact qh
theorem zC(size n:Nat){v v':qgB}(h:VR Z v v'):SR Q P AsR (qoc size n v) Z (qoc size n v'):=by
 cases h with
 | sliceNil=>exact qd .nil
 | slice o s _ _ hb=>exact ZA _ hb
 | string s=>
  refine qd ⟨rfl,λi x y hx hy=>?_⟩;rw[hx] at hy;cases hy;rw[qmG] at hx;cases hb:(s.extract 0 n).data[i]? with
  | none=>rw[hb] at hx;cases hx
  | some b=>rw[hb] at hx;cases hx;exact .int _ _
 | _=>exact qh
theorem AsR.getBang{a b:Array qgB}(h:AsR Z a b)(i:Nat):VR Z a[i]! b[i]!:=by
 rw[qoD,qoD];exact h.getD i (.bool _)
theorem vk{n:Nat}{f g:Nat->qgB}(h:∀i,VR Z (f i) (g i)):AsR Z ((qkB n).map f) ((qkB n).map g):=by
 refine⟨by simp,λi x y hx hy=>?_⟩;simp only[qmG] at hx hy;cases hr:(qkB n)[i]? with
 | none=>rw[hr] at hx;cases hx
 | some k=>rw[hr] at hx hy;cases hx;cases hy;exact h k
theorem AsR.zeroCells{z z':Array qgB}(h:AsR Z z z')(n:Nat):AsR Z (qjf z n) (qjf z' n):=by
 unfold qjf;rw[<- h.1];exact vk λi=>h.getBang _
theorem Zd(n:Nat):SR Q P (λ_ _ _=>True) (askRoom n) Z (askRoom n):=by
 unfold askRoom;refine qC (λ_=>?_) λ_=>qd trivial;exact .inr ⟨rfl,_,rfl,(),rfl,trivial⟩
def NP(Q:qh2){Y:Type}:Sem Y->Prop
 | .pure _=>True
 | .load _ _ k=>∀v,NP Q (k v)
 | .store _ _ _ k=>NP Q k
 | .new o k=>zK o=false/\∀r,NP Q (k r)
 | .shape _ k=>∀x,NP Q (k x)
 | .freeze _ _ k=>NP Q k
 | .frozen _ k=>∀b,NP Q (k b)
 | .getObj _ k=>∀o,NP Q (k o)
 | .setObj _ o k=>zK o=false/\NP Q k
 | .choose _ k=>∀n,NP Q (k n)
 | .sys _ k=>∀r,NP Q (k r)
 | .program k=>NP Q (k Q)
 | .mark _ k=>NP Q k
 | .halt h=>odd h=false
theorem NP.bind{s:Sem Y}{f:Y->Sem W}(h:NP Q s)(hf:∀a,NP Q (f a)):NP Q (s>>=f):=by
 show NP Q (s.bind f);induction s with
 | pure a=>exact hf a
 | load m a k ih=>exact λv=>ih v (h v)
 | store m a v k ih=>exact ih h
 | new o k ih=>exact⟨h.1,λv=>ih v (h.2 v)⟩
 | shape r k ih=>exact λv=>ih v (h v)
 | freeze a n k ih=>exact ih h
 | frozen a k ih=>exact λv=>ih v (h v)
 | getObj r k ih=>exact λv=>ih v (h v)
 | setObj r o k ih=>exact⟨h.1,ih h.2⟩
 | choose q k ih=>exact λv=>ih v (h v)
 | sys c k ih=>exact λv=>ih v (h v)
 | program k ih=>exact ih Q h
 | mark m k ih=>exact ih h
 | halt x=>exact h
theorem Bad.of_np{s:Sem Y}{f:Y->Sem W}(h:NP Q s)(hf:∀a,Bad Q (f a)):Bad Q (s>>=f):=by
 show Bad Q (s.bind f);induction s with
 | pure a=>exact hf a
 | load m a k ih=>exact λv=>ih v (h v)
 | store m a v k ih=>exact ih h
 | new o k ih=>exact⟨h.1,λv=>ih v (h.2 v)⟩
 | shape r k ih=>exact λv=>ih v (h v)
 | freeze a n k ih=>exact ih h
 | frozen a k ih=>exact λv=>ih v (h v)
 | getObj r k ih=>exact λv=>ih v (h v)
 | setObj r o k ih=>exact⟨h.1,ih h.2⟩
 | choose q k ih=>exact λv=>ih v (h v)
 | sys c k ih=>exact λv=>ih v (h v)
 | program k ih=>exact ih Q h
 | mark m k ih=>exact ih h
 | halt x=>exact h
theorem np_holds(a:qi5)(c:Nat):NP Q (qq3 a c):=λx=>by
 cases x with
 | none=>trivial
 | some p=>trivial
theorem JD(size a6 n:Nat)(base:Option qi5)(x:qgB):NP Q (qqu size a6 n base x):=by
 have rest:∀b:Bool,NP Q (if(!b)=true then(pure true:Sem Bool) else match x with
   | .slice (some b) _ _=>do pure (!(<- qq3 b (n*size)) || base.any (·.block == b.block))
   | _=>pure false):=λb=>by
  split
  ·trivial
  ·split
   ·exact NP.bind (np_holds _ _) λ_=>trivial
   ·trivial
 unfold qqu;cases base with
 | none=>exact rest true
 | some a=>exact NP.bind (np_holds _ _) λp=>NP.bind (s:=frozen _) (λb=>trivial) λq=>rest _
theorem q3o{v v':qgB}(h:VR Z v v'):(∃b b' n c,v=.slice b n c/\v'=.slice b' n c/\VR Z (.pointer b) (.pointer b'))\/∀b n c,v≠.slice b n c:=by
 cases h with
 | sliceNil n c=>exact .inl ⟨none,none,n,c,rfl,rfl,.ptrNil⟩
 | slice o s n c hb=>exact .inl ⟨_,_,n,c,rfl,rfl,.ptr o s hb⟩
 | _=>exact .inr λb n c=>by simp
theorem VR.slice_of{b b':Option qi5}(hb:VR Z (.pointer b) (.pointer b'))(n c:Nat):VR Z (.slice b n c) (.slice b' n c):=by
 cases hb with
 | ptrNil=>exact .sliceNil n c
 | ptr o s hb=>exact .slice o s n c hb
def qfd(Q:qh2)(ts:Array qh8):Bool :=
 (match ts[0]? with
  | some st=>match Q.underlying st with | some (.slice e)=>kS Q e | _=>true
  | none=>true) &&
 (match ts[1]? with
  | some xt=>match Q.underlying xt with | some (.int _)=>false | _=>true
  | none=>true)
include hT in
theorem q7G(hG:Gl P Z){ts:Array qh8}{t:qh8}{a a':Array qgB}(h:AsR Z a a')(hB:qfd Q ts=true) :SR Q P VR (qku ts t a) Z (qku ts t a'):=by
 unfold qfd at hB;simp only[qhh] at hB;obtain⟨a7,a9⟩:=hB;unfold qku;cases ht0:ts[0]? with
 | none=>exact qh
 | some st=>
  rw[ht0] at a7;cases h0:a[0]? with
  | none=>exact qh
  | some s0=>
   obtain⟨d5,e0,hs⟩:=h.get h0;cases h1:a[1]? with
   | none=>exact qh
   | some x=>
    obtain⟨x',e1,hx⟩:=h.get h1;rw[e0,e1];dsimp only;refine .bnd (qP hT st) λO d d' l hd=>?_;obtain⟨rfl,hd⟩:=hd;dsimp only at a7;rw[hd] at a7;cases d' with
    | slice e=>
     dsimp only at a7 ⊢;rcases q3o (hs.mono l) with⟨b,b',a6,b0,rfl,rfl,hb⟩ | hns
     ·dsimp only;refine .bndE (qR hT e) λV size l1=>?_;cases ht1:ts[1]? with
      | none=>
       dsimp only;simp only[qhy,if_false,qmg,if_true,false_or,pure_bind];have LL:=l.trans l1;have LB:=l1;refine .bndE (YF (hx.mono LL)) λU n lu=>?_;have L2:=LL.trans lu;have a8:=hb.mono (LB.trans lu);refine qC (λ_=>?_) λ_=>?_
       ·refine .bnd (zC size n (hx.mono L2)) λX c c' l2 hc=>?_;have b8:=a8.mono l2;cases b8 with
        | ptrNil=>exact qd (.sliceNil _ _)
        | @ptr i j o s hbb=>
         dsimp only;obtain⟨o1,s1,e1,e2⟩:=yf i j o (a6*size) s;rw[e1,e2];exact .bnd (jy (ze.1 hc) 0 hbb) λT _ _ l3 _=>qd (.slice _ _ _ _ (hbb.mono l3))
       ·refine .bndE (zm hT e) λX ti l2=>?_;refine qC (λ_=>?_) λ_=>?_
        ·exact .bnd (R:=λ_ _ _=>False) (qw hT (hG.mono (L2.trans l2)) _) λ_ _ _ _ hf=>hf.elim
        ·refine .bndE (zm hT e) λω2 c3 l3=>?_;refine qC (λ_=>?_) λ_=>?_
         ·exact .bad (Bad.bind (Bad.of_np (JD _ _ _ _ _) λb=>by cases b<;>trivial) _)
         ·refine .bndE vH λω3 nc l4=>?_;refine .bndE (zm hT e) λω4 b9 l5=>?_;refine .bnd (Zd _) λω5 _ _ l6 _=>?_;have L6:=((((l2.trans l3).trans l4).trans l5).trans l6);refine .bnd (zC size a6 ((a8.mono L6).slice_of a6 b0)) λω6 c c' l7 hc=>?_;refine .bnd (zC size n (hx.mono ((L2.trans L6).trans l7))) λω7 d d' l8 b7=>?_;refine .bnd (zk hT a7) λω8 z z' l9 hz=>?_;refine .bnd (vF ((((hc.mono l8).append b7).mono l9).append (hz.cells.zeroCells _))) λω9 a b c8 hab=>?_;obtain⟨i,j,rfl,rfl,hij⟩:=hab;exact qd (.slice _ _ _ _ hij)
      | some xt=>
       rw[ht1] at a9;dsimp only at a9 ⊢;refine .bnd (qP hT xt) λU dx c9 l2 b6=>?_;obtain⟨rfl,b6⟩:=b6;rw[b6] at a9;cases c9 with
       | int k=>cases a9
       | _=>
        simp only[qhy,if_false,qmg,if_true,false_or,pure_bind];have LL:=(l.trans l1).trans l2;have LB:=l1.trans l2;refine .bndE (YF (hx.mono LL)) λU n lu=>?_;have L2:=LL.trans lu;have a8:=hb.mono (LB.trans lu);refine qC (λ_=>?_) λ_=>?_
        ·refine .bnd (zC size n (hx.mono L2)) λX c c' l2 hc=>?_;have b8:=a8.mono l2;cases b8 with
         | ptrNil=>exact qd (.sliceNil _ _)
         | @ptr i j o s hbb=>
          dsimp only;obtain⟨o1,s1,e1,e2⟩:=yf i j o (a6*size) s;rw[e1,e2];exact .bnd (jy (ze.1 hc) 0 hbb) λT _ _ l3 _=>qd (.slice _ _ _ _ (hbb.mono l3))
        ·refine .bndE (zm hT e) λX ti l2=>?_;refine qC (λ_=>?_) λ_=>?_
         ·exact .bnd (R:=λ_ _ _=>False) (qw hT (hG.mono (L2.trans l2)) _) λ_ _ _ _ hf=>hf.elim
         ·refine .bndE (zm hT e) λω2 c3 l3=>?_;refine qC (λ_=>?_) λ_=>?_
          ·exact .bad (Bad.bind (Bad.of_np (JD _ _ _ _ _) λb=>by cases b<;>trivial) _)
          ·refine .bndE vH λω3 nc l4=>?_;refine .bndE (zm hT e) λω4 b9 l5=>?_;refine .bnd (Zd _) λω5 _ _ l6 _=>?_;have L6:=((((l2.trans l3).trans l4).trans l5).trans l6);refine .bnd (zC size a6 ((a8.mono L6).slice_of a6 b0)) λω6 c c' l7 hc=>?_;refine .bnd (zC size n (hx.mono ((L2.trans L6).trans l7))) λω7 d d' l8 b7=>?_;refine .bnd (zk hT a7) λω8 z z' l9 hz=>?_;refine .bnd (vF ((((hc.mono l8).append b7).mono l9).append (hz.cells.zeroCells _))) λω9 a b c8 hab=>?_;obtain⟨i,j,rfl,rfl,hij⟩:=hab;exact qd (.slice _ _ _ _ hij)
     ·split
      ·exact absurd rfl (hns _ _ _)
      ·exact qh
    | _=>exact qh
end
end
section
def qb7(Q:qh2)(ts:Array qh8):Bool:=match ts[0]? with | some t=>(match Q.underlying t with | some (.chan _ _)=>false | _=>true) | none=>true
section
variable[JunkSet]{Q P:qh2}(hT:P.toTables=Q.toTables){Z:Ren}{Y M W:Type}{R:Rel Y M}
include hT
theorem qcA{ts:Array qh8}{t:qh8}{a a':Array qgB}(h:AsR Z a a'):SR Q P VR (qoo ts t a) Z (qoo ts t a'):=by
 unfold qoo;cases ht0:ts[0]? with
 | none=>exact qh
 | some dt=>
  cases h0:a[0]? with
  | none=>exact qh
  | some d=>
   obtain⟨d',e0,hd⟩:=h.get h0;cases h1:a[1]? with
   | none=>exact qh
   | some x=>
    obtain⟨x',e1,hx⟩:=h.get h1;rw[e0,e1];dsimp only;refine .bndE (qB hT dt) λO u l=>?_;cases u with
    | slice e=>
     dsimp only;rcases q3o (hd.mono l) with⟨b,b',a7,a8,rfl,rfl,hb⟩ | hns
     ·dsimp only;refine .bndE (YF (hx.mono l)) λV n l1=>.bndE (qR hT e) λU size l2=>?_;refine .bnd (zC size _ (hx.mono ((l.trans l1).trans l2))) λX c c' l3 hc=>?_;have a6:=hb.mono ((l1.trans l2).trans l3);cases a6 with
      | ptrNil=>exact qd (.int _ _)
      | ptr o s hbb=>exact .bnd (jy (ze.1 hc) 0 hbb) λT _ _ l3 _=>qd (.int _ _)
     ·split
      ·exact absurd rfl (hns _ _ _)
      ·exact qh
    | _=>exact qh
theorem qet{ts:Array qh8}{t:qh8}{a a':Array qgB}(hB:qb7 Q ts=true)(h:AsR Z a a'):SR Q P VR (qqc ts t a) Z (qqc ts t a'):=by
 unfold qqc;cases ht0:ts[0]? with
 | none=>exact qh
 | some dt=>
  cases h0:a[0]? with
  | none=>exact qh
  | some d=>
   obtain⟨d',e0,hd⟩:=h.get h0;rw[e0];dsimp only;refine .bnd (qP hT dt) λO u u' l hu=>?_;obtain⟨rfl,hu⟩:=hu;have a6:=hd.mono l;cases u' with
   | array n e=>exact qd (.int _ _)
   | pointer arr=>
    refine .bndE (qB hT arr) λV u l=>?_;cases u with
    | array n e=>exact qd (.int _ _)
    | _=>exact qh
   | string=>cases a6<;>first | exact qh | exact qd (.int _ _)
   | slice e=>cases a6<;>first | exact qh | exact qd (.int _ _)
   | map k e=>
    cases a6 with
    | mapNil=>exact qd (.int _ _)
    | map hb=>
     refine .bnd (jJ hb) λV o o' l' ho=>?_;cases ho with
     | @map es es' c he=>
      dsimp only;have:es.size=es'.size:=he.length;rw[this];exact qd (.int _ _)
     | _=>exact qh
    | _=>exact qh
   | chan a b=>
    unfold qb7 at hB;rw[ht0] at hB;dsimp only at hB;rw[hu] at hB;cases hB
   | _=>exact qh
theorem qew{ts:Array qh8}{t:qh8}{a a':Array qgB}(hB:qb7 Q ts=true)(h:AsR Z a a'):SR Q P VR (qqd ts t a) Z (qqd ts t a'):=by
 unfold qqd;cases ht0:ts[0]? with
 | none=>exact qh
 | some dt=>
  cases h0:a[0]? with
  | none=>exact qh
  | some d=>
   obtain⟨d',e0,hd⟩:=h.get h0;rw[e0];dsimp only;refine .bnd (qP hT dt) λO u u' l hu=>?_;obtain⟨rfl,hu⟩:=hu;have a6:=hd.mono l;cases u' with
   | array n e=>exact qd (.int _ _)
   | pointer arr=>
    refine .bndE (qB hT arr) λV u l=>?_;cases u with
    | array n e=>exact qd (.int _ _)
    | _=>exact qh
   | slice e=>cases a6<;>first | exact qh | exact qd (.int _ _)
   | chan a b=>
    unfold qb7 at hB;rw[ht0] at hB;dsimp only at hB;rw[hu] at hB;cases hB
   | _=>exact qh
omit hT in
theorem qcx{v v' x x':qgB}(h:VR Z v v')(hx:VR Z x x'):SR Q P VR (Builtin.min2 v x) Z (Builtin.min2 v' x'):=by
 cases h with
 | int k n=>cases hx<;>first | exact qd (.int _ _) | exact qh | exact qq
 | string s=>
  cases hx with
  | string u=>exact(qd (VR.string _):SR Q P VR (pure (Value.string _)) Z (pure (Value.string _)))
  | _=>first | exact qh | exact qq
 | ptr o s hb=>exact qq
 | _=>cases hx<;>first | exact qh | exact qq
omit hT in
theorem qcy{v v' x x':qgB}(h:VR Z v v')(hx:VR Z x x'):SR Q P VR (qrf v x) Z (qrf v' x'):=by
 cases h with
 | int k n=>cases hx<;>first | exact qd (.int _ _) | exact qh | exact qq
 | string s=>
  cases hx with
  | string u=>exact(qd (VR.string _):SR Q P VR (pure (Value.string _)) Z (pure (Value.string _)))
  | _=>first | exact qh | exact qq
 | ptr o s hb=>exact qq
 | _=>cases hx<;>first | exact qh | exact qq
omit hT in
theorem q3n{f f':qgB->qgB->Sem qgB}(hf:∀{O:Ren} {v v' x x':qgB},VR O v v'->VR O x x'->SR Q P VR (f v x) O (f' v' x')):∀{l l':List qgB} {Z:Ren} {v v':qgB},LsR (VR Z) l l'->VR Z v v' ->SR Q P VR (l.foldlM f v) Z (l'.foldlM f' v'):=by
 intro l;induction l with
 | nil=>intro l' Z v v' h hv;cases h;exact qd hv
 | cons a l ih=>
  intro l' Z v v' h hv;cases h with
  | cons ha hl=>
   rw[qqv,qqv];exact .bnd (hf hv ha) λO x x' lσ hx=>ih (hl.imp λ_ _ k=>k.mono lσ) hx
omit hT in
theorem qer{ts:Array qh8}{t:qh8}{a a':Array qgB}(h:AsR Z a a'):SR Q P VR (qo6 ts t a) Z (qo6 ts t a'):=by
 have hl:=ze.1 h;unfold qo6;generalize a.toList=l at hl ⊢;generalize a'.toList=l' at hl ⊢;cases hl with
 | nil=>exact qh
 | cons hx hr=>exact q3n (λh hx=>qcx h hx) hr hx
omit hT in
theorem qes{ts:Array qh8}{t:qh8}{a a':Array qgB}(h:AsR Z a a'):SR Q P VR (qqe ts t a) Z (qqe ts t a'):=by
 have hl:=ze.1 h;unfold qqe;generalize a.toList=l at hl ⊢;generalize a'.toList=l' at hl ⊢;cases hl with
 | nil=>exact qh
 | cons hx hr=>exact q3n (λh hx=>qcy h hx) hr hx
def Qi(Q:qh2)(t:qh8):Bool:=match Q.underlying t with | some (.slice e)=>kS Q e | _=>true
theorem qae{ts:Array qh8}{t:qh8}{a a':Array qgB}(h:AsR Z a a')(hB:(match ts[0]? with | some st=>Qi Q st | none=>true)=true):SR Q P VR (qna ts t a) Z (qna ts t a'):=by
 unfold qna;cases ht0:ts[0]? with
 | none=>exact qh
 | some dt=>
  rw[ht0] at hB;cases h0:a[0]? with
  | none=>exact qh
  | some d=>
   obtain⟨d',e0,hd⟩:=h.get h0;rw[e0];dsimp only at hB ⊢;refine .bnd (qP hT dt) λO u u' l hu=>?_;obtain⟨rfl,hu⟩:=hu;unfold Qi at hB;rw[hu] at hB;have a6:=hd.mono l;have fin:∀U,SR Q P VR (pure (.tuple #[]):Sem qgB) U (pure (.tuple #[])):=λU=>qd (AsR.tuple .nil);cases a6 with
   | mapNil=>cases u'<;>exact fin _
   | sliceNil n c=>cases u'<;>exact fin _
   | @map i j hb=>
    have go:SR Q P VR (do
      let .map _ clock <- getObj i | stuck "clear: map expected"
      setObj i (.map #[] clock)
      pure (.tuple #[])) O (do
      let .map _ clock <- getObj j | stuck "clear: map expected"
      setObj j (.map #[] clock)
      pure (.tuple #[])):=by
     refine .bnd (jJ hb) λV o o' l' ho=>?_;cases ho with
     | map c he=>exact .bnd (jI (hb.mono l') (.map c .nil)) λU _ _ _ _=>fin U
     | _=>exact qh
    cases u'<;>exact go
   | slice o s n c hb=>
    cases n with
    | zero=>cases u'<;>exact fin _
    | succ n=>
     cases u' with
     | slice e=>
      refine .bnd (zk hT hB) λV z z' l' hz=>?_;exact .bnd (jy (ze.1 (hz.cells.zeroCells _)) 0 (hb.mono l')) λU _ _ _ _=>fin U
     | _=>exact qh
   | _=>cases u'<;>exact qh
theorem q22(hG:Gl P Z){t:qh8}(hB:Qi Q t=true){v v' x x':qgB}(h:VR Z v v')(hx:VR Z x x'):SR Q P VR (qo0 t v x) Z (qo0 t v' x'):=by
 refine .bnd (qP hT t) λO d d' l hd=>?_;obtain⟨rfl,hd⟩:=hd;unfold Qi at hB;rw[hd] at hB;cases d' with
 | slice e=>
  dsimp only at hB ⊢;refine .bndE (ZC (h.mono l)) λV len l1=>.bndE (ZC (hx.mono (l.trans l1))) λU cap l2=>?_;refine .bndE (zm hT e) λX ti l3=>?_;have L:=((l.trans l1).trans l2).trans l3;have HG:=hG.mono L;have a6:∀(O:Ren) (m:String) {f f':PUnit->Sem qgB},Le X O->SR Q P VR ((qkm (.error m):Sem PUnit)>>=f) O ((qkm (.error m):Sem PUnit)>>=f'):=λO m f f' lσ=>.bnd (R:=λ_ _ _=>False) (qw hT (HG.mono lσ) _) λ_ _ _ _ hf=>hf.elim;have a7:∀(O:Ren) (n:Nat) {z z':Array qgB} (ln cp:Nat),AsR O z z'->SR Q P VR (do
    let a <- newRow e ((qkB n).map λx=>z[x % z.size]!)
    pure (.slice (some a) ln cp)) O (do
    let a <- newRow e ((qkB n).map λx=>z'[x % z'.size]!)
    pure (.slice (some a) ln cp)):=λO n z z' ln cp hz=>by
   refine .bnd (vF (by rw[<- hz.1];exact vk λi=>hz.getBang _)) λω9 a b a8 hab=>?_;obtain⟨i,j,rfl,rfl,hij⟩:=hab;exact qd (.slice _ _ _ _ hij)
  refine qC (λ_=>?_) λ_=>?_
  ·refine qC (λ_=>a6 X _ (.refl X)) λ_=>qC (λ_=>a6 X _ (.refl X)) λ_=>?_;exact .bndE vH λω1 n l4=>a6 ω1 _ l4
  ·refine .bnd (Zd _) λω1 _ _ l4 _=>.bndE (qR hT e) λω2 size l5=>?_;refine qC (λ_=>a7 ω2 _ _ _ .nil) λ_=>?_;exact .bnd (zk hT hB) λω4 z z' _ hz=>a7 ω4 _ _ _ hz.cells
 | _=>exact qh
theorem KQ{t:qh8}(hB:Qi Q t=true)(n:Nat){ps a6:Array (Nat × qgB)}(h:LsR (q1w Z) ps.toList a6.toList):SR Q P VR (qqw t n ps) Z (qqw t n a6):=by
 refine .bnd (qP hT t) λO d d' l hd=>?_;obtain⟨rfl,hd⟩:=hd;unfold Qi at hB;rw[hd] at hB;cases d' with
 | slice e=>
  dsimp only at hB ⊢;refine .bndE (qR hT e) λV size l1=>?_;refine qC (λ_=>j4) λ_=>?_;have fin:∀(U:Ren) {z z':Array qgB},Le V U->AsR U z z'->SR Q P VR (do
    let some cells:=qmf (λi=>some (i*size,size)) ((qkB (n*size)).map (λx=>z[x % z.size]!)) ps.toList | stuck "buildSlice: a part of the wrong size"
    pure (.slice (some (<- newRow e cells)) n n)) U (do
    let some cells:=qmf (λi=>some (i*size,size)) ((qkB (n*size)).map (λx=>z'[x % z'.size]!)) a6.toList | stuck "buildSlice: a part of the wrong size"
    pure (.slice (some (<- newRow e cells)) n n)):=by
   intro U z z' lu hz;have hp:LsR (q1w U) ps.toList a6.toList:=h.imp λ_ _ x=>⟨x.1,x.2.mono ((l.trans l1).trans lu)⟩;have hc:AsR U ((qkB (n*size)).map (λx=>z[x % z.size]!)) ((qkB (n*size)).map (λx=>z'[x % z'.size]!)):=by rw[<- hz.1];exact vk λi=>hz.getBang _
   rcases q4l (λi=>some (i*size,size)) _ _ _ _ hp hc with⟨e1,e2⟩ | ⟨r,r',e1,e2,hr⟩
   ·rw[e1,e2];exact qh
   ·rw[e1,e2];refine .bnd (vF hr) λX a b _ hab=>?_;obtain⟨i,j,rfl,rfl,hij⟩:=hab;exact qd (.slice _ _ _ _ hij)
  refine qC (λ_=>fin V (.refl V) .nil) λ_=>?_;exact .bnd (zk hT hB) λU z z' lu hz=>fin U lu hz.cells
 | _=>exact qh
theorem q5k(t:qh8){r r':Option qgB}(h:Zt Z r r'):SR Q P VR (qop t r) Z (qop t r'):=by
 have fin:∀O,SR Q P VR (do pure (.map (some (<- newObj (.map #[] 0))))) O (do pure (.map (some (<- newObj (.map #[] 0))))):=λO=>.bnd (YC (.map 0 .nil)) λV i j _ hij=>qd (.map hij);unfold qop;rcases h with⟨rfl,rfl⟩ | ⟨x,y,rfl,rfl,hv⟩
 ·exact fin Z
 ·refine .bndE (qB hT t) λO d l=>?_;cases d with
  | map k e=>exact .bndE (ZC (hv.mono l)) λV n _=>fin V
  | _=>exact qh
theorem Jw(em:Bool):∀(n d:Nat) {Z:Ren} {t:qh8} {x x':qgB},eqB Q n t=true->VR Z x x'->SR Q P (λ_ _ _=>True) (qkC em d t x) Z (qkC em d t x'):=by
 intro n;induction n with
 | zero=>intro d Z t x x' h;cases h
 | succ n ih=>
  intro d Z t x x' h hx;cases d with
  | zero=>exact qq
  | succ d=>
   unfold qkC;refine .bnd (qP hT t) λO ty a7 l a6=>?_;obtain⟨rfl,a6⟩:=a6;replace hx:=hx.mono l;unfold eqB at h;rw[a6] at h;cases a7 with
   | interface ms=>cases h
   | struct fs=>
    cases hx with
    | agg h1 h2=>
     dsimp only;rw[<- qlh,<- qlh];dsimp only at h;rw[qiA] at h;refine .bndE (zH (K:=λX=>Le O X) (λ_ _ l k=>k.trans l) _ (λf hf U b lu=>?_) O _ (.refl O)) λU r lu=>qd trivial;refine qC (λhne=>?_) λ_=>qd rfl;have a8:eqB Q n f.type=true:=by
      have:=h f (qjm.1 hf);simp only[qju,beq_iff_eq] at this;exact this.resolve_left hne
     exact .bnd (jC hT (AsR.mono lu ⟨h1,h2⟩) _) λω1 p p' l1 hp=>.bnd (ih d a8 hp) λω3 _ _ _ _=>qd rfl
    | _=>exact qh
   | array len e=>
    cases hx with
    | agg h1 h2=>
     dsimp only;rw[qj2,qj2];refine .bndE (zH (K:=λX=>Le O X) (λ_ _ l k=>k.trans l) _ (λf hf U b lu=>?_) O _ (.refl O)) λU r lu=>qd trivial;exact .bndE (qR hT e) λω0 n l0=>.bnd (jC hT (AsR.mono (lu.trans l0) ⟨h1,h2⟩) _) λω1 p p' l1 hp=>.bnd (ih d h hp) λω3 _ _ _ _=>qd rfl
    | _=>exact qh
   | _=>cases hx<;>exact qd trivial
def q2E(Z:Ren)(a b:Option (Nat × qgB)):Prop:=(a=none/\b=none)\/∃i x y,a=some (i,x)/\b=some (i,y)/\VR Z x y
omit hT in
theorem q5x(d:TypeDesc){x x' y y':qgB}(hx:VR Z x x')(hy:VR Z y y'):qnx d x' y'=qnx d x y:=by
 have out:∀{u:qgB},qbq u=true->∀d v,qnx d u v=none/\qnx d v u=none:=by
  intro u hu d v;cases u<;>first | (cases hu;done) | (cases d<;>cases v<;>exact⟨rfl,rfl⟩)
 cases hx with
 | wild _ h=>rw[(out h d _).1,(out (u:=.chan none) rfl d _).1]
 | _=>first
  | (cases d<;>rfl)
  | (
    cases hy with
   | wild _ h=>rw[(out h d _).2,(out (u:=.chan none) rfl d _).2]
   | _=>cases d<;>rfl)
omit hT in
theorem q4j(d:TypeDesc){k k':qgB}(hk:VR Z k k'):∀{es es':List qkk} (i:Nat),LsR (kq Z) es es' ->(qny d k es i=none/\qny d k' es' i=none)\/∃r r',qny d k es i=some r/\qny d k' es' i=some r'/\q2E Z r r':=by
 intro es;induction es with
 | nil=>intro es' i h;cases h;exact .inr ⟨none,none,rfl,rfl,.inl ⟨rfl,rfl⟩⟩
 | cons e es ih=>
  intro es' i h;cases h with
  | cons he hes=>
   simp only[qny,q5x d hk he.key];cases qnx d k e.key with
   | none=>exact .inl ⟨rfl,rfl⟩
   | some b=>
    cases b with
    | true=>exact .inr ⟨_,_,rfl,rfl,.inr ⟨i,_,_,rfl,rfl,he.val⟩⟩
    | false=>exact ih (i+1) hes
theorem KN{t:qh8}(ht:eqB Q 6 t=true){k k':qgB}:∀{es es':List qkk} {Z:Ren} (i:Nat),VR Z k k'->Gl P Z->LsR (kq Z) es es' ->SR Q P q2E (qlb t k es i) Z (qlb t k' es' i):=by
 intro es;induction es with
 | nil=>intro es' Z i hk hG h;cases h;exact qd (.inl ⟨rfl,rfl⟩)
 | cons e es ih=>
  intro es' Z i hk hG h;cases h with
  | cons he hes=>
   refine .bndE (Zc hT 6 _ ht hk he.key hG) λO b l=>?_;refine qC (λ_=>qd (.inr ⟨i,_,_,rfl,rfl,he.val.mono l⟩)) λ_=>?_;exact ih (i+1) (hk.mono l) (hG.mono l) (hes.imp λ_ _ x=>x.mono l)
theorem YH{t:qh8}(ht:eqB Q 6 t=true){k k':qgB}{es es':List qkk}(hk:VR Z k k')(hG:Gl P Z)(h:LsR (kq Z) es es') :SR Q P q2E (qlu t k es) Z (qlu t k' es'):=by
 refine .bndE (qB hT t) λO d l=>?_;have h':LsR (kq O) es es':=h.imp λ_ _ x=>x.mono l;rcases q4j d (hk.mono l) 0 h' with⟨e1,e2⟩ | ⟨r,r',e1,e2,hr⟩
 ·rw[e1,e2];exact KN hT ht 0 (hk.mono l) (hG.mono l) h'
 ·rw[e1,e2];exact qd hr
end
end
section
section
variable[JunkSet]{Q P:qh2}(hT:P.toTables=Q.toTables){Z:Ren}{Y M W:Type}{R:Rel Y M}
include hT
def K3(Q:qh2)(t:qh8):Bool:=match Q.underlying t with | some (.map k e)=>eqB Q 6 k && kS Q e | _=>true
theorem q7D(hG:Gl P Z){t:qh8}(hB:K3 Q t=true)(c:Bool){m m' k k':qgB}(hm:VR Z m m')(hk:VR Z k k'):SR Q P VR (qmp t m k c) Z (qmp t m' k' c):=by
 refine .bnd (qP hT t) λO d d' l hd=>?_;obtain⟨rfl,hd⟩:=hd;unfold K3 at hB;rw[hd] at hB;cases d' with
 | map kt et=>
  dsimp only at hB ⊢;simp only[qhh] at hB;have fin:∀(V:Ren) {es es':Array qkk},Le Z V->LsR (kq V) es.toList es'.toList->SR Q P VR (do
    qkC es.isEmpty 10000 kt k
    let (v,ok) <- match <- qlu kt k es.toList with
     | some (_,v)=>pure (v,true)
     | none=>pure (<- qlz et,false)
    pure (if c then .tuple #[v,.bool ok] else v)) V (do
    qkC es'.isEmpty 10000 kt k'
    let (v,ok) <- match <- qlu kt k' es'.toList with
     | some (_,v)=>pure (v,true)
     | none=>pure (<- qlz et,false)
    pure (if c then .tuple #[v,.bool ok] else v)):=by
   intro V es es' lτ he;have a6:es'.isEmpty=es.isEmpty:=by
    have:=he.length;simp only[qpt] at this;simp[Array.isEmpty,this]
   rw[a6];refine .bnd (Jw hT _ 6 _ hB.1 (hk.mono lτ)) λU _ _ l1 _=>?_;refine .bnd (YH hT hB.1 (hk.mono (lτ.trans l1)) (hG.mono (lτ.trans l1)) (he.imp λ_ _ x=>x.mono l1)) λX r r' l2 hr=>?_;have last:∀(T:Ren) {v v':qgB} (ok:Bool),VR T v v'->SR Q P VR (pure (if c then .tuple #[v,.bool ok] else v):Sem qgB) T (pure (if c then .tuple #[v',.bool ok] else v')):=by
    intro T v v' ok hv;cases c with
    | true=>exact qd (AsR.tuple (ze.2 (.cons hv (.cons (.bool _) .nil))))
    | false=>exact qd hv
   rcases hr with⟨rfl,rfl⟩ | ⟨i,x,y,rfl,rfl,hv⟩
   ·exact .bnd (zk hT hB.2) λT z z' _ hz=>last T false hz
   ·exact last X true hv
  cases(hm.mono l) with
  | mapNil=>exact fin O l .nil
  | map hb=>
   refine .bnd (jJ hb) λV o o' l' ho=>?_;cases ho with
   | map c he=>exact fin V (l.trans l') he
   | _=>exact zn
  | _=>exact zn
 | _=>exact qh
omit hT in
theorem LsR.get{Y M:Type}{R:Y->M->Prop}{l:List Y}{m:List M}(h:LsR R l m)(i:Nat):(l[i]?=none/\m[i]?=none)\/∃x y,l[i]?=some x/\m[i]?=some y/\R x y:=by
 induction h generalizing i with
 | nil=>exact .inl ⟨by simp,by simp⟩
 | cons hx hl ih=>
  cases i with
  | zero=>exact .inr ⟨_,_,rfl,rfl,hx⟩
  | succ i=>simpa using ih i
omit hT in
theorem q4r{es es':Array qkk}(h:LsR (kq Z) es.toList es'.toList)(i:Nat){f g:qkk->qkk}(hf:∀e e',kq Z e e'->kq Z (f e) (g e')):LsR (kq Z) (es.modify i f).toList (es'.modify i g).toList:=by
 rw[q77] at h ⊢;simp only[qpt,qnm] at h ⊢;refine⟨by simpa using h.1,λj x y hx hy=>?_⟩;rw[qll] at hx hy;by_cases e:i=j
 ·rw[if_pos e] at hx hy;cases hx':es[j]? with
  | none=>rw[hx'] at hx;cases hx
  | some a=>
   cases hy':es'[j]? with
   | none=>rw[hy'] at hy;cases hy
   | some b=>
    rw[hx'] at hx;rw[hy'] at hy;cases hx;cases hy;exact hf _ _ (h.2 j a b hx' hy')
 ·rw[if_neg e] at hx hy;exact h.2 j x y hx hy
def q7f(Q:qh2)(s d:qh8):Bool:=match Q.underlying s,Q.underlying d with | some (.int _),some (.int _)=>true | _,_=>false
theorem q5o{s d:qh8}(hB:q7f Q s d=true){v v':qgB}(h:VR Z v v'):SR Q P VR (convert s d v) Z (convert s d v'):=by
 refine .bnd (qP hT s) λO a a' l ha=>.bnd (qP hT d) λV b b' l' hb=>?_;obtain⟨rfl,ha⟩:=ha;obtain⟨rfl,hb⟩:=hb;unfold q7f at hB;rw[ha,hb] at hB;cases a' with
 | int k1=>
  cases b' with
  | int k2=>
   cases h with
   | int k n=>exact qd (.int _ _)
   | _=>first | exact qq | exact qh
  | _=>cases hB
 | _=>cases b'<;>cases hB
end
end
section
inductive zQ [JunkSet] (Z:Ren):qlo->qlo->Prop
 | value {v v':qgB}:VR Z v v'->zQ Z (.value v) (.value v')
 | skip:zQ Z .skip .skip
 | enter {f:qib} {a a':Array qgB}:JunkSet.okf f->AsR Z a a'->zQ Z (.enter f a) (.enter f a')
 | round {l l':Nat} (f:qib) {t t':Array qgB} {a b:qje}:BR Z l l'->AsR Z t t'->JunkSet.okg f->JunkSet.okc a->JunkSet.okc b->zQ Z (.round l f t a b) (.round l' f t' a b)
 | defer {d d':qiG}:yT Z d d'->zQ Z (.defer d) (.defer d')
 | recover:zQ Z .recover .recover
def biB(Q:qh2)(b:Builtin)(ts:Array qh8):Bool :=
 match b with
 | .append=>qfd Q ts
 | .len | .cap=>qb7 Q ts
 | .copy | .min | .max | .recover | .panic=>true
 | .clear=>match ts[0]? with | some st=>Qi Q st | none=>true
 | _=>false
structure Pair[JunkSet](Q P:qh2):Prop where
 bis:∀b ts,JunkSet.okb b ts->biB Q b ts=true
 tables:P.toTables=Q.toTables
 funcs:∀f,JunkSet.okf f->∃fq fp,Q.funcs[f]?=some fq/\P.funcs[f]?=some fp/\fq.body.isNone=false/\fp.body.isNone=false/\(fq.name == "runtime.NumGoroutine")=false/\(fp.name == "runtime.NumGoroutine")=false
 meths:∀n,JunkSet.okm n->∀t i m,Q.info? t=some i->i.methods.find? (·.name == n)=some m->m.path=#[]/\∃f b,m.func=some (f,b)/\JunkSet.okf f/\∀e,Q.underlying t=some (.pointer e)->b=true
 nometh:∀i,Q.info? 0=some i->(i.methods.find? (·.name == "")).isNone=true
section
variable[JunkSet]{Q P:qh2}(H:Pair Q P){Z:Ren}{Y M W:Type}{R:Rel Y M}
theorem yu{l l':Nat}(h:BR Z l l'):SR Q P Z0 (qpC l) Z (qpC l') :=
 .bnd (jJ h) λO o o' _ ho=>by
  cases ho with
  | loop h=>exact qd h
  | _=>exact qh
theorem q04:∀{ps:List (Tmp × qgB)} {a6:List (Tmp × qgB)} {t t':Array qgB},LsR (λa b=>b.1=a.1/\VR Z a.2 b.2) ps a6->AsR Z t t' ->AsR Z (ps.foldl (λtmps (x:Tmp × qgB)=>tmps.setIfInBounds x.1 x.2) t) (a6.foldl (λtmps (x:Tmp × qgB)=>tmps.setIfInBounds x.1 x.2) t'):=by
 intro ps;induction ps with
 | nil=>intro a6 t t' h ht;cases h;exact ht
 | cons p ps ih=>
  intro a6 t t' h ht;cases h with
  | @cons _ q _ qs hp hps=>
   obtain⟨a,x⟩:=p;obtain⟨b,y⟩:=q;obtain⟨rfl,hv⟩:=hp;simp only[List.foldl_cons];exact ih hps (ht.set _ hv)
theorem qch{ps:List Tmp}:∀{a a':List qgB},LsR (VR Z) a a'->LsR (λ(a b:Tmp × qgB)=>b.1=a.1/\VR Z a.2 b.2) (ps.zip a) (ps.zip a'):=by
 induction ps with
 | nil=>intro a a' h;exact .nil
 | cons p ps ih=>
  intro a a' h;cases h with
  | nil=>exact .nil
  | cons hx hl=>exact .cons ⟨rfl,hx⟩ (ih hl)
theorem qa5{l l':Nat}(h:BR Z l l'){a a':Array qgB}(ha:AsR Z a a'):SR Q P zQ (Instr.yield l a) Z (Instr.yield l' a'):=by
 refine .bnd (yu h) λO r r' lσ hr=>?_;dsimp only;rw[hr.params,<- ha.1,hr.fn,hr.assign,hr.body];refine qC (λ_=>zn) λ_=>q3j ?_;refine qd (.round _ (h.mono lσ) ?_ hr.okF hr.okA hr.okB);rw[<- qmF,<- qmF,qqx,qqx];exact q04 (qch (ze.1 (ha.mono lσ))) hr.tmps
include H
theorem Jy{f:qib}(hf:JunkSet.okf f){a a':Array qgB}(ha:AsR Z a a'):SR Q P zQ (callFunc f a) Z (callFunc f a'):=by
 obtain⟨fq,fp,h1,h2,h3,h4,h5,h6⟩:=H.funcs f hf;refine zE ?_;rw[h1,h2];dsimp only;rw[h5,h6,h3,h4];exact qd (.enter hf ha)
theorem q7C(n:String)(hn:JunkSet.okm n)(fuel a6:Nat)(hff:(fuel=0↔a6=0)){t:qh8}{v v':qgB}(h:VR Z v v') :SR Q P (λO a b=>b.1=a.1/\JunkSet.okf a.1/\VR O a.2 b.2) (method fuel t v n) Z (method a6 t v' n):=by
 cases fuel with
 | zero=>exact qq
 | succ k=>
  cases a6 with
  | zero=>omega
  | succ k'=>
   unfold method;refine .bnd (x9 H.tables t) λO i i' l hi=>?_;obtain⟨rfl,hi⟩:=hi;cases hm:i'.methods.find? (·.name == n) with
   | none=>exact qh
   | some m=>
    obtain⟨hp,f,b,hf,hok,a7⟩:=H.meths n hn t i' m hi hm;dsimp only;rw[hp,hf];have e:(follow (#[]:Array qqy).toList t (.val v))=pure (t,.val v):=rfl;have e':(follow (#[]:Array qqy).toList t (.val v'))=pure (t,.val v'):=rfl;rw[e,e'];have key:SR Q P VR (receiverAt t (.val v) b (if(#[]:Array qqy).isEmpty=true then some ((n.splitOn ".").getLastD n) else none)) O (receiverAt t (.val v') b (if(#[]:Array qqy).isEmpty=true then some ((n.splitOn ".").getLastD n) else none)):=by
     refine .bnd (qP H.tables t) λV d d' l' hd=>?_;obtain⟨rfl,hd⟩:=hd;have hv:=h.mono (l.trans l');cases d' with
     | pointer e=>
      have:=a7 e hd;subst this;exact qd hv
     | _=>
      cases b with
      | true=>exact qh
      | false=>exact qd hv
    exact SR.bnd (S:=λO a b=>b.1=a.1/\JunkSet.okf a.1/\VR O a.2 b.2) (f:=λr=>pure (f,r)) (f':=λr=>pure (f,r)) key λV r r' _ hr=>qd ⟨rfl,hok,hr⟩
theorem KP(hG:Gl P Z)(n:String)(hn:JunkSet.okm n){v v':qgB}(h:VR Z v v'){a a':Array qgB}(ha:AsR Z a a'):SR Q P zQ (callMethod v n a) Z (callMethod v' n a'):=by
 cases h with
 | iface t hv=>
  refine zE ?_;have:P.types.size=Q.types.size:=by rw[H.tables]
  rw[this];refine .bnd (q7C H n hn _ _ Iff.rfl hv) λO a b l hab=>?_;obtain⟨f,r⟩:=a;obtain⟨f',r'⟩:=b;obtain⟨rfl,hok,hr⟩:=hab;exact Jy H hok ((AsR.one hr).append (ha.mono l))
 | nilIface=>exact(qw H.tables hG .nilDeref:SR Q P zQ (qkm .nilDeref) Z (qkm .nilDeref))
 | _=>exact qh
omit [JunkSet] H in
theorem QT{Y:Type}(hn:∀i,Q.info? 0=some i->(i.methods.find? (·.name == "")).isNone=true)(f:ql2->Sem Y)(hf:∀i,i.methods.find? (·.name == "")=none->Bad Q (f i)):Bad Q (qkA 0>>=f):=by
 show Bad Q ((match Q.info? 0 with | some i=>(pure i:Sem ql2) | none=>stuck "no such type").bind f);cases h:Q.info? 0 with
 | none=>exact rfl
 | some i=>exact hf i (by simpa using hn i h)
theorem KC(a:Array qgB):Bad Q (callMethod (.iface 0 .nilIface) "" a):=by
 show Bad Q ((method (Q.types.size+_) 0 .nilIface "").bind _);refine Bad.bind ?_ _;generalize Q.types.size+_=n;cases n with
 | zero=>exact rfl
 | succ n=>
  unfold method;refine QT H.nometh _ λi hi=>?_;rw[hi];exact rfl
theorem q9c:Bad Q (do
  if(<- nilAhead ((<- program).types.size+Made.depth) 0 .nilIface "") != some false then
   unsupported (.noEntry "op/nilCheck.the method's receiver behind this interface value is a nil pointer, or cannot be seen to be none, and the arguments act or may panic (ledger 612)")
  pure (Next.value (.func (.method "") #[.iface 0 .nilIface] #[]))):=by
 show Bad Q ((nilAhead (Q.types.size+Made.depth) 0 .nilIface "").bind _);cases hn:Q.types.size+Made.depth with
 | zero=>exact rfl
 | succ n=>
  refine Bad.bind ?_ _;unfold nilAhead;refine QT H.nometh _ λi hi=>?_;rw[hi];exact rfl
omit H in
theorem qev:SR Q P EqR (sys .env) Z (sys .env):=.inr ⟨rfl,_,rfl,λr=>⟨r,rfl,rfl⟩⟩
theorem q3k:SR Q P EqR qnb Z qnb:=by
 unfold qnb;refine .bndE qev λO r l=>?_;cases r with
 | strings e=>
  dsimp only;refine zE ?_;have:P.godebug=Q.godebug:=by rw[H.tables]
  rw[this];exact qd rfl
 | _=>exact qh
theorem YA{R:Rel qgB qgB}{v v':qgB}(hG:Gl P Z)(h:VR Z v v'):SR Q P R (Instr.panic v) Z (Instr.panic v'):=by
 cases h with
 | iface t hv=>exact(jT (.iface t hv):SR Q P R (goPanic _) Z (goPanic _))
 | nilIface=>
  show SR Q P R (qnb>>=_) Z (qnb>>=_);refine .bndE (q3k H) λO n l=>?_;exact qC (λ_=>jT .nilIface) λ_=>qw H.tables (hG.mono l) _
 | _=>exact qh
theorem jS{s s':Sem qgB}(h:SR Q P VR s Z s'):SR Q P zQ (do pure (.value (<- s))) Z (do pure (.value (<- s'))):=.bnd h λO a b _ hab=>qd (.value hab)
theorem sr_u{s s':Sem Unit}(h:SR Q P (λ_ _ _=>True) s Z s'):SR Q P zQ (do s;pure .skip) Z (do s';pure .skip):=.bnd h λO a b _ _=>qd .skip
theorem q5q(hG:Gl P Z){b:Builtin}{ts:Array qh8}{t:qh8}{cs:Array Bool}(hB:biB Q b ts=true){a a':Array qgB}(ha:AsR Z a a') :SR Q P zQ (builtin b ts t cs a) Z (builtin b ts t cs a'):=by
 cases b<;>first | (cases hB;done) | skip
 ·exact jS H (q7G H.tables hG ha hB)
 ·exact jS H (qew H.tables hB ha)
 ·exact jS H (qae H.tables ha hB)
 ·exact jS H (qcA H.tables ha)
 ·exact jS H (qet H.tables hB ha)
 ·exact jS H (qes ha)
 ·exact jS H (qer ha)
 ·exact jS H (YA H hG (ha.getD 0 .nilIface))
 ·exact qd .recover
theorem Zb{v v':qgB}(h:VR Z v v'){a a':Array qgB}(ha:AsR Z a a'):SR Q P yT (Deferred.ofValue v a) Z (Deferred.ofValue v' a'):=by
 cases h with
 | func hf h1 h2 h3 h4=>exact qd (.mk (.fn hf ⟨h3,h4⟩) (AsR.append ⟨h1,h2⟩ ha))
 | nilFunc=>exact qd (.mk .nil ha)
 | meth n b c=>exact qd (.bound rfl (by simp[qki]) ⟨_,_,rfl⟩)
 | _=>exact qh
theorem vG(hG:Gl P Z){d d':qiG}(h:yT Z d d'):SR Q P zQ (invoke d.target d.args) Z (invoke d'.target d'.args):=by
 obtain⟨t,a⟩:=d;obtain⟨t',a'⟩:=d';rcases h with⟨ht,ha⟩ | ⟨h1,h2,_⟩
 case bound=>
  dsimp only at h1 h2 ⊢;subst h1;unfold invoke;dsimp only;rw[h2];exact .bad (KC H _)
 dsimp only at ht ha ⊢;cases ht with
 | fn hf hc=>
  cases hf with
  | func f hok=>exact Jy H hok (ha.append hc)
  | yield hb=>exact qa5 hb ha
 | meth n hn=>
  unfold invoke;dsimp only;cases h0:a[0]? with
  | none=>exact qh
  | some r=>
   obtain⟨r',e,hr⟩:=ha.get h0;rw[e,<- ha.1];exact KP H hG n hn hr (ha.extract _ _)
 | nil=>exact(qw H.tables hG .nilDeref:SR Q P zQ (qkm .nilDeref) Z (qkm .nilDeref))
 | builtin b ts t cs hB=>exact q5q H hG (H.bis _ _ hB) ha
 | collected hb=>exact qh
end
end
section
inductive qF [JunkSet] (Q:qh2):qhE->Prop
 | tmp (t:Tmp):qF Q (.tmp t)
 | const {v:qgB}:vp v->qF Q (.const v)
 | global {g:Nat}:g<Q.globals.size->qF Q (.global g)
 | func {f:qib}:JunkSet.okf f->qF Q (.func f)
def jm[JunkSet](Q:qh2)(l:List qhE):Prop:=∀x∈l,qF Q x
inductive yZ [JunkSet] (Q:qh2):Call->Prop
 | value {f:qhE} {a:Array qhE} {ts:Array qh8}:qF Q f->jm Q a.toList->yZ Q ⟨.value f,a,ts⟩
 | invoke {r:qhE} {n:String} {a:Array qhE} {ts:Array qh8}:qF Q r->JunkSet.okm n->jm Q a.toList->yZ Q ⟨.invoke r n,a,ts⟩
 | builtin {b:Builtin} {a:Array qhE} {ts:Array qh8}:JunkSet.okb b ts->jm Q a.toList->yZ Q ⟨.builtin b,a,ts⟩
inductive qN [JunkSet] (Q:qh2):Op->Prop
 | move {x:qhE}:qF Q x->qN Q (.move x)
 | assign {x:qhE}:qF Q x->qN Q (.assign x)
 | pick {c a b:qhE}:qF Q c->qF Q a->qF Q b->qN Q (.pick c a b)
 | alloc {t:qh8}:kS Q t=true->qN Q (.alloc t)
 | box {t:qh8} {x:qhE}:qF Q x->qN Q (.box t x)
 | build {t:qh8} {ps:Array (Nat × qhE)}:kS Q t=true->jm Q (ps.toList.map (·.2))->qN Q (.build t ps)
 | buildSlice {t:qh8} {n:Nat} {ps:Array (Nat × qhE)}:Qi Q t=true->jm Q (ps.toList.map (·.2))->qN Q (.buildSlice t n ps)
 | load {t:qh8} {x:qhE}:qF Q x->qN Q (.load t x)
 | store {t:qh8} {a x:qhE}:qF Q a->qF Q x->qN Q (.store t a x)
 | nilCheck {x:qhE}:qF Q x->qN Q (.nilCheck x)
 | arith {op:BinOp} {t u:qh8} {x y:qhE}:q02 op=false->q28 Q t=true->qF Q x->qF Q y->qN Q (.binOp op t x y u)
 | eql {op:BinOp} {t u:qh8} {x y:qhE}:q02 op=true->q92 Q t x y=true->qF Q x->qF Q y->qN Q (.binOp op t x y u)
 | unOp {op:UnOp} {t:qh8} {x:qhE}:qF Q x->qN Q (.unOp op t x)
 | convert {s d:qh8} {x:qhE}:q7f Q s d=true->qF Q x->qN Q (.convert s d x)
 | makeInterface {t:qh8} {x:qhE}:qF Q x->qN Q (.makeInterface t x)
 | makeFunc {f:qib} {a b:Array qhE}:JunkSet.okf f->jm Q a.toList->jm Q b.toList->qN Q (.makeFunc (.func f) a b)
 | makeMap {t:qh8} {r:Option qhE}:jm Q r.toList->qN Q (.makeMap t r)
 | makeSlice {t:qh8} {l c:qhE}:Qi Q t=true->qF Q l->qF Q c->qN Q (.makeSlice t l c)
 | slice {t:qh8} {x:qhE} {l h m:Option qhE}:qF Q x->jm Q l.toList->jm Q h.toList->jm Q m.toList->qN Q (.slice t x l h m)
 | fieldAddr {t:qh8} {x:qhE} {f:Nat}:q2l Q t f=true->qF Q x->qN Q (.fieldAddr t x f)
 | field {t:qh8} {x:qhE} {f:Nat}:qF Q x->qN Q (.field t x f)
 | indexAddr {t:qh8} {x i:qhE}:qF Q x->qF Q i->qN Q (.indexAddr t x i)
 | index {t:qh8} {x i:qhE}:qF Q x->qF Q i->qN Q (.index t x i)
 | lookup {t:qh8} {x i:qhE} {c:Bool}:K3 Q t=true->qF Q x->qF Q i->qN Q (.lookup t x i c)
 | mapUpdate {t:qh8} {m k x:qhE}:K3 Q t=true->qF Q m->qF Q k->qF Q x->qN Q (.mapUpdate t m k x)
 | insert {t:qh8} {m k x:qhE}:K3 Q t=true->qF Q m->qF Q k->qF Q x->qN Q (.insert t m k x)
 | typeAssert {x:qhE} {t a:qh8} {c:Bool}:kS Q a=true->qF Q x->qN Q (.typeAssert x t a c)
 | extract {x:qhE} {i:Nat}:qF Q x->qN Q (.extract x i)
 | call {c:Call}:yZ Q c->qN Q (.call c)
 | defer {c:Call}:yZ Q c->qN Q (.defer c)
 | panic {x:qhE}:qF Q x->qN Q (.panic x)
section
variable[JunkSet]{Q P:qh2}(H:Pair Q P){Z:Ren}{e e':qhE->qgB}
theorem xn(he:∀x,qF Q x->VR Z (e x) (e' x)){a:Array qhE}(ha:jm Q a.toList):AsR Z (a.map e) (a.map e'):=by
 refine⟨by simp,λi x y hx hy=>?_⟩;rw[qmG] at hx hy;cases h:a[i]? with
 | none=>rw[h] at hx;cases hx
 | some o=>
  rw[h] at hx hy;cases hx;cases hy;exact he o (ha o (by rw[qjm];exact qiE h))
theorem q11(he:∀x,qF Q x->VR Z (e x) (e' x)){ps:Array (Nat × qhE)}(ha:jm Q (ps.toList.map (·.2))) :LsR (q1w Z) (ps.map λ(x:Nat × qhE)=>(x.1,e x.2)).toList (ps.map λ(x:Nat × qhE)=>(x.1,e' x.2)).toList:=by
 simp only[Array.toList_map];generalize ps.toList=l at ha;induction l with
 | nil=>exact .nil
 | cons p l ih=>exact .cons ⟨rfl,he _ (ha _ (qob ..))⟩ (ih λx hx=>ha x (qnA _ hx))
theorem Yi(he:∀x,qF Q x->VR Z (e x) (e' x)){o:Option qhE}(ho:jm Q o.toList):Zt Z (o.map e) (o.map e'):=by
 cases o with
 | none=>exact .inl ⟨rfl,rfl⟩
 | some x=>exact .inr ⟨_,_,rfl,rfl,he x (ho x (by simp))⟩
theorem Ji(hc:∀v,e (.const v)=v){x:qhE}(h:kG x=true):e x=.nilIface:=by
 unfold kG at h;split at h
 ·exact hc _
 ·cases h
include H
theorem xd(he:∀x,qF Q x->VR Z (e x) (e' x)){c:Call}(hc:yZ Q c)(t:qh8):SR Q P yT (resolve e c t) Z (resolve e' c t):=by
 cases hc with
 | value hf ha=>exact Zb H (he _ hf) (xn he ha)
 | invoke hr hn ha=>exact qd (.mk (.meth _ hn) ((AsR.one (he _ hr)).append (xn he ha)))
 | builtin hb ha=>exact qd (.mk (.builtin _ _ _ _ hb) (xn he ha))
def qba:Op->Bool
 | .mapUpdate .. | .insert ..=>true
 | _=>false
theorem q0z(he:∀x,qF Q x->VR Z (e x) (e' x))(hG:Gl P Z)(hn:Inj Z)(hc:∀v,e (.const v)=v){o:qiu}(ho:qN Q o.op)(hmu:qba o.op=false):SR Q P zQ (qk3 e o) Z (qk3 e' o):=by
 have T:=H.tables;obtain⟨dst,op,ty,pos,after,guard⟩:=o;dsimp only at ho hmu;cases ho with
 | move h=>exact qd (.value (he _ h))
 | assign h=>exact qd (.value (he _ h))
 | pick h1 h2 h3=>
  refine .bndE (q7F (he _ h1)) λO b l=>?_;refine qd (.value ?_);cases b with
  | true=>exact(he _ h2).mono l
  | false=>exact(he _ h3).mono l
 | alloc h=>exact jS H (qai T h)
 | box h=>exact jS H (qex _ (he _ h))
 | build h1 h2=>exact jS H (qaf T h1 (q11 he h2))
 | buildSlice h1 h2=>exact jS H (KQ T h1 _ (q11 he h2))
 | load h=>exact jS H (q7E T _ (he _ h))
 | store h1 h2=>exact sr_u H (q5g T _ (he _ h1) (he _ h2))
 | @nilCheck x h=>
  have hv:=he _ h;unfold qk3;dsimp only;generalize e x=v at hv ⊢;generalize e' x=v' at hv ⊢;have a6:SR Q P zQ (pure (.value v)) Z (pure (.value v')):=qd (.value hv);cases hv with
  | ptrNil=>exact qw T hG .nilDeref
  | nilIface=>exact qw T hG .nilDeref
  | nilFunc=>exact qw T hG .nilDeref
  | func hf h1 h2 h3 h4=>
   cases hf with
   | func f hok=>exact a6
   | yield hb=>exact a6
  | wild _ h=>cases v'<;>first | exact a6 | (cases h;done) | (rename_i p;cases p<;>first | exact a6 | (cases h;done)) | (rename_i p _ _;cases p<;>first | exact a6 | (cases h;done))
  | meth n a c=>exact .bad (q9c H)
  | _=>exact a6
 | arith h1 h2 h3 h4=>
  refine jS H (.bnd (YI T (λh=>by rw[h1] at h;cases h) (he _ h3) (he _ h4) ?_ ?_ ?_) λO _ _ l _=>qah T h1 h2 ((he _ h3).mono l) ((he _ h4).mono l) (hG.mono l))
  ·exact λhx=>Ji hc hx
  ·exact λhx=>Ji hc hx
  ·exact λh=>by rw[h1] at h;cases h
 | @eql op t u x y h1 h2 h3 h4=>
  have a8:∀a b,Q.underlying t≠some (.chan a b):=by
   unfold q92 at h2;simp only[qju,qhh] at h2;rcases h2 with h2 | ⟨_,h5⟩
   ·exact jZ h2
   ·intro a b e;rw[e] at h5;cases h5
  by_cases hw:e x=.chan none\/e y=.chan none
  ·exact .bad (Bad.bind (qdD T h1 a8 hw) _)
  have a7:∀w,(w=e x\/w=e y)->w≠.chan none:=λw h e'=>hw (by rcases h with rfl | rfl;exact .inl e';exact .inr e');refine jS H (.bnd (YI T (λ_=>h2) (he _ h3) (he _ h4) (λhx=>Ji hc hx) (λhx=>Ji hc hx) (λ_=>a7)) λO _ _ l _=>?_);unfold q92 at h2;simp only[qju,qhh] at h2;rcases h2 with h2 | ⟨h2,h5⟩
  ·exact qeu T h1 h2 ((he _ h3).mono l) ((he _ h4).mono l) (hG.mono l)
  ·refine qad T h1 ?_ ((he _ h3).mono l) ((he _ h4).mono l) (h2.imp (Ji hc) (Ji hc));split at h5
   ·exact⟨_,‹_›⟩
   ·cases h5
 | unOp h=>exact jS H (qa6 T (he _ h))
 | convert h1 h2=>exact jS H (q5o T h1 (he _ h2))
 | makeInterface h=>exact jS H (J9 T _ (he _ h))
 | makeFunc h1 h2 h3=>exact qd (.value (.func (.func _ h1) (xn he h2).1 (xn he h2).2 (xn he h3).1 (xn he h3).2))
 | makeMap h=>exact jS H (q5k T _ (Yi he h))
 | makeSlice h1 h2 h3=>exact jS H (q22 T hG h1 (he _ h2) (he _ h3))
 | slice h1 h2 h3 h4=>exact jS H (q5h T hG _ (he _ h1) (Yi he h2) (Yi he h3) (Yi he h4))
 | fieldAddr h1 h2=>exact jS H (q5m T h1 (he _ h2))
 | field h=>exact jS H (qac T _ (he _ h) _)
 | indexAddr h1 h2=>exact jS H (q5l T hG _ (he _ h1) (he _ h2))
 | index h1 h2=>exact jS H (qab T hG _ (he _ h1) (he _ h2))
 | lookup h1 h2 h3=>exact jS H (q7D T hG h1 _ (he _ h2) (he _ h3))
 | mapUpdate h1 h2 h3 h4=>cases hmu
 | insert h1 h2 h3 h4=>cases hmu
 | typeAssert h1 h2=>exact jS H (KM T hG h1 _ (he _ h2))
 | extract h=>exact jS H (q5n (he _ h) _)
 | call h=>exact .bnd (xd H he h _) λO d d' l hd=>vG H (hG.mono l) hd
 | defer h=>exact .bnd (xd H he h _) λO d d' l hd=>qd (.defer hd)
 | panic h=>exact jS H (YA H hG (he _ h))
end
end
section
inductive qy [JunkSet] (Q:qh2):qje->Prop
 | skip:qy Q .skip
 | region {id:Nat} {ops:Array qiu} {d:Bool}:(∀o∈ops.toList,qN Q o.op)->qy Q (.region id ops d)
 | seq {a b:qje}:qy Q a->qy Q b->qy Q (.seq a b)
 | cond {c:qhE} {a b:qje}:qF Q c->qy Q a->qy Q b->qy Q (.cond c a b)
 | block {id:Nat} {c:qje}:qy Q c->qy Q (.block id c)
 | loop {c:qje}:qy Q c->qy Q (.loop c)
 | rangeFunc {f:qhE} {ps:Array Tmp} {a c:qje}:qF Q f->qy Q a->qy Q c->qy Q (.rangeFunc f ps a c)
 | exit (id:Nat):qy Q (.exit id)
 | scope {c:qje}:qy Q c->qy Q (.scope c)
 | label (l:Nat):qy Q (.label l)
 | goto (l:Nat):qy Q (.goto l)
 | ret:qy Q .ret
inductive zh [JunkSet] (Q:qh2) (Z:Ren):qkD->qkD->Prop
 | code {c:qje}:qy Q c->zh Q Z (.code c) (.code c)
 | inBlock (id:Nat):zh Q Z (.inBlock id) (.inBlock id)
 | inLoop {c:qje}:qy Q c->zh Q Z (.inLoop c) (.inLoop c)
 | inScope {c:qje}:qy Q c->zh Q Z (.inScope c) (.inScope c)
 | inRegion {ops:Array qiu} (l:List Nat):(∀o∈ops.toList,qN Q o.op)->zh Q Z (.inRegion ops l) (.inRegion ops l)
 | inRangeFunc {l l':Nat}:BR Z l l'->zh Q Z (.inRangeFunc l) (.inRangeFunc l')
 | endRangeFunc {l l':Nat}:BR Z l l'->zh Q Z (.endRangeFunc l) (.endRangeFunc l')
 | beginRound:zh Q Z .beginRound .beginRound
structure J0[JunkSet](Z:Ren)(a b:qlG):Prop where
 v:VR Z a.v b.v
 rcv:b.recovered=a.recovered
 goexit:b.goexit=a.goexit
inductive kN [JunkSet] (Z:Ren):FrameMode->FrameMode->Prop
 | run:kN Z .run .run
 | returning:kN Z .returning .returning
 | panicking {l l':List qlG}:LsR (J0 Z) l l'->kN Z (.panicking l) (.panicking l')
def OBR(Z:Ren)(a b:Option Nat):Prop:=(a=none/\b=none)\/∃i j,a=some i/\b=some j/\BR Z i j
structure qr[JunkSet](Q P:qh2)(Z:Ren)(f f':qh4):Prop where
 fn:f'.fn=f.fn
 same:∃g,Q.funcs[f.fn]?=some g/\P.funcs[f.fn]?=some g
 okf:Q.inits.idxOf? f.fn=none
 tmps:AsR Z f.tmps f'.tmps
 todo:LsR (zh Q Z) f.todo f'.todo
 defers:LsR (yT Z) f.defers f'.defers
 mode:kN Z f.mode f'.mode
 kind:f'.kind=f.kind
 round:OBR Z f.roundOf f'.roundOf
section
variable[JunkSet]{Q P:qh2}{Z O:Ren}
theorem zh.mono(l:Le Z O){a b:qkD}(h:zh Q Z a b):zh Q O a b:=by
 cases h with
 | code h=>exact .code h
 | inBlock id=>exact .inBlock id
 | inLoop h=>exact .inLoop h
 | inScope h=>exact .inScope h
 | inRegion l h=>exact .inRegion l h
 | inRangeFunc h=>exact .inRangeFunc (h.mono l)
 | endRangeFunc h=>exact .endRangeFunc (h.mono l)
 | beginRound=>exact .beginRound
theorem J0.mono(l:Le Z O){a b:qlG}(h:J0 Z a b):J0 O a b:=⟨h.v.mono l,h.rcv,h.goexit⟩
theorem kN.mono(l:Le Z O){a b:FrameMode}(h:kN Z a b):kN O a b:=by
 cases h with
 | run=>exact .run
 | returning=>exact .returning
 | panicking h=>exact .panicking (h.imp λ_ _ k=>k.mono l)
theorem OBR.mono(l:Le Z O){a b:Option Nat}(h:OBR Z a b):OBR O a b:=h.imp id λ⟨i,j,e1,e2,hb⟩=>⟨i,j,e1,e2,hb.mono l⟩
theorem qr.mono(l:Le Z O){f f':qh4}(h:qr Q P Z f f'):qr Q P O f f' :=
 ⟨h.fn,h.same,h.okf,h.tmps.mono l,h.todo.imp λ_ _ k=>k.mono l,h.defers.imp λ_ _ k=>k.mono l,h.mode.mono l,h.kind,h.round.mono l⟩
structure kO[JunkSet](Q P:qh2)(Z:Ren)(g g':qgC):Prop where
 frame:qr Q P Z g.frame g'.frame
 callers:LsR (qr Q P Z) g.callers g'.callers
 st:g.status=.running
 st':g'.status=.running
 dy:g.dying=none
 dy':g'.dying=none
theorem kz(Z:Ren):VR Z qgD undef:=AsR.tuple .nil
theorem qr.eval(hG:Gl P Z)(hg:P.globals.size=Q.globals.size){f f':qh4}(h:qr Q P Z f f'){x:qhE}(hx:qF Q x):VR Z (f.eval x) (f'.eval x):=by
 cases hx with
 | tmp t=>exact h.tmps.getD t (kz Z)
 | const hv=>exact hv.vr Z
 | @global g hl=>exact .ptr 0 none (hG g (by omega))
 | func hf=>exact .func (.func _ hf) rfl (λi x y hx=>by simp at hx) rfl (λi x y hx=>by simp at hx)
theorem qr.finish{f f':qh4}(h:qr Q P Z f f'){v v':qgB}(hv:VR Z v v'):qr Q P Z (f.finish v) (f'.finish v'):=by
 obtain⟨fn,tmps,todo,defers,mode,kind,ro⟩:=f;obtain⟨b7,a8,a7,a6,a9,b0,b6⟩:=f';have ht:=h.todo;dsimp only at ht;unfold qoE;dsimp only;cases ht with
 | nil=>exact h
 | cons hx hl=>
  cases hx with
  | @inRegion ops l hops=>
   cases l with
   | nil=>exact h
   | cons i l=>
    dsimp only;refine⟨h.fn,h.same,h.okf,?_,.cons (.inRegion l hops) hl,h.defers,h.mode,h.kind,h.round⟩;dsimp only;split
    ·exact h.tmps.set _ hv
    ·exact h.tmps
  | inRangeFunc hb=>exact⟨h.fn,h.same,h.okf,h.tmps,.cons (.endRangeFunc hb) hl,h.defers,h.mode,h.kind,h.round⟩
  | beginRound=>exact⟨h.fn,h.same,h.okf,h.tmps,hl,h.defers,h.mode,h.kind,h.round⟩
  | _=>exact h
theorem qr.raise{f f':qh4}(h:qr Q P Z f f'){l l':List qlG}(hl:LsR (J0 Z) l l'):qr Q P Z (f.raise l) (f'.raise l'):=by
 obtain⟨fn,tmps,todo,defers,mode,kind,ro⟩:=f;obtain⟨b7,a8,a7,a6,a9,b0,b6⟩:=f';have hm:=h.mode;dsimp only at hm;unfold qpf;cases hm with
 | run=>exact⟨h.fn,h.same,h.okf,h.tmps,h.todo,h.defers,.panicking hl,h.kind,h.round⟩
 | returning=>exact⟨h.fn,h.same,h.okf,h.tmps,h.todo,h.defers,.panicking hl,h.kind,h.round⟩
 | panicking hc=>exact⟨h.fn,h.same,h.okf,h.tmps,h.todo,h.defers,.panicking (hl.append hc),h.kind,h.round⟩
theorem q6c{id:Nat}:∀{l l':List qkD},LsR (zh Q Z) l l'->(qmh id l=none/\qmh id l'=none)\/∃k k',qmh id l=some k/\qmh id l'=some k'/\LsR (zh Q Z) k k':=by
 intro l l' h;induction h with
 | nil=>exact .inl ⟨rfl,rfl⟩
 | cons hx hl ih=>
  cases hx with
  | inBlock j=>
   simp only[qmh];split
   ·exact .inr ⟨_,_,rfl,rfl,hl⟩
   ·exact ih
  | _=>exact ih
theorem q2k{l:Nat}:∀{c r:qje},qy Q c->findLabel c l=some r->qy Q r:=by
 intro c;induction c with
 | seq a b iha ihb=>
  intro r h hr;cases h with
  | seq ha hb=>
   simp only[findLabel] at hr;split at hr
   ·rename_i rest e
    cases hr;exact .seq (iha ha e) hb
   ·exact ihb hb hr
 | label j=>
  intro r h hr;simp only[findLabel] at hr;split at hr
  ·cases hr;exact .skip
  ·cases hr
 | _=>intro r h hr;cases hr
theorem q67{j:Nat}:∀{l l':List qkD},LsR (zh Q Z) l l'->(qmH j l=none/\qmH j l'=none)\/∃k k',qmH j l=some k/\qmH j l'=some k'/\LsR (zh Q Z) k k':=by
 intro l l' h;induction h with
 | nil=>exact .inl ⟨rfl,rfl⟩
 | cons hx hl ih=>
  cases hx with
  | @inScope c hc=>
   simp only[qmH];cases hf:findLabel c j with
   | none=>exact ih
   | some r=>exact .inr ⟨_,_,rfl,rfl,.cons (.code (q2k hc hf)) (.cons (.inScope hc) hl)⟩
  | _=>exact ih
theorem q54(ops:Array qiu){t t':Array qgB}(h:AsR Z t t')(j:Nat):qj4 ops t' j=qj4 ops t j:=by
 unfold qj4;cases((ops[j]?).bind (·.dst)) with
 | none=>rfl
 | some d=>
  simp only[qmo];cases ht:t[d]? with
  | none=>rw[h.get_none ht]
  | some v=>
   obtain⟨v',a6,hr⟩:=h.get ht;rw[a6];cases hr<;>first | rfl | (rename_i h;cases v'<;>first | rfl | cases h)
theorem kC(P:qh2)(fn:qib)(es:Array qiq):∀e∈seen P fn es,e∈es:=by
 have key:∀(l:List qiq) (x:Bool × Array qiq) (all:List qiq),(∀e∈x.2,e∈all)->(∀e∈l,e∈all) ->
   ∀e∈(l.foldl (λ(y:Bool × Array qiq) (e:qiq)=>match e.loc with
    | .mark (.extern f)=>((P.funcs[f]?).any (·.norace),y.2)
    | _=>(y.1,if y.1 && !e.sync then y.2 else y.2.push e)) x).2,e∈all:=by
  intro l;induction l with
  | nil=>intro x all hx _;exact hx
  | cons a l ih=>
   intro x all hx hl;rw[List.foldl_cons];refine ih _ all ?_ λe he=>hl e (qnA _ he);intro e he;split at he
   ·exact hx e he
   ·dsimp only at he;split at he
    ·exact hx e he
    ·rcases Array.mem_push.1 he with he | rfl
     ·exact hx e he
     ·exact hl _ (qob ..)
 intro e he;have:=key es.toList ((P.funcs[fn]?).any (·.norace),#[]) es.toList (by simp) (λe he=>he) e;rw[qjm] at this;apply this;unfold seen at he;dsimp only at he;rw[<- qmF] at he;exact he
end
end
section
section
variable[JunkSet]{Q P:qh2}{Z:Ren}{Y M:Type}{R:Rel Y M}
def SM(Q P:qh2)[JunkSet]{Y M:Type}(R:Rel Y M)(s:Sem Y)(Z:Ren)(s':Sem M):Prop :=
 ∀{base D:Nat} {wq w:qgx},base<=Z.length->WR Q base Z wq w->zx D wq w->(rwR (s.run Q wq)).drawn<=D->vX (s.run Q wq) ->
  ∃O wq' w' es',q6q R O (s.run Q wq) wq' (s'.run P w) w'/\s'.events P w #[]=es'/\(∀e∈es',kR base O e)/\WR Q base O wq' w'/\Eff base Z O w w'
theorem SR.sm{s:Sem Y}{s':Sem M}(h:SR Q P R s Z s'):SM Q P R s Z s':=λhb hw ht hd hf=>by
 obtain⟨O,wq',w',es',h1,h2,h3,h4,_,h5,_⟩:=SR.runs (es:=#[]) h hb hw ht hd hf;exact⟨O,wq',w',es',h1,by show(s'.runT P _ #[]).2=es';rw[h2];simp,h3,h4,h5⟩
def wk:qj1:=.extern "map.whichKeyStays" 2
def qgz(kt:qh8)(k v:qgB)(r:Nat)(es:Array qkk)(clock:Nat)(a6:Nat->Sem qgB):Sem Unit:=do
 qkC false 10000 kt k
 match <- qlu kt k es.toList with
 | some (i,_)=>do
  let key <- a6 i
  setObj r (.map (es.modify i λe=>{ e with key,val:=v }) clock)
 | none=>setObj r (.map (es.push { key:=k,val:=v,born:=clock }) (clock+1))
def qZ(es:Array qkk)(i:Nat)(k:qgB):qgB:=((es[i]?).map (·.key)).getD k
def kI(kt:qh8)(k:qgB)(es:Array qkk):Sem (Option (Nat × qgB)):=do
 qkC false 10000 kt k
 qlu kt k es.toList
def jE(k v:qgB)(r:Nat)(es:Array qkk)(clock:Nat)(a6:Nat->Sem qgB):Option (Nat × qgB)->Sem Unit
 | some (i,_)=>do
  let key <- a6 i
  setObj r (.map (es.modify i λe=>{ e with key,val:=v }) clock)
 | none=>setObj r (.map (es.push { key:=k,val:=v,born:=clock }) (clock+1))
theorem yH{t:qh8}{k v:qgB}{w:qgx}{kt et:qh8}(ht:P.underlying t=some (.map kt et)){r:Nat}{es:Array qkk}{clock:Nat}(hr:w.heap[r]?=some (.map es clock)) :(qiB t (.map (some r)) k v).run P w=(kI kt k es>>=jE k v r es clock (λi=>qij (qZ es i k) k)).run P w /\(qiB t (.map (some r)) k v).events P w #[]=(kI kt k es>>=jE k v r es clock (λi=>qij (qZ es i k) k)).events P w #[⟨.obj r,false,false⟩]:=by
 have e:qiB t (.map (some r)) k v=(qkf t).bind λd=>(match d with
   | .map kt _=>(getObj r).bind λo=>(match o with
    | .map es clock=>(kI kt k es>>=jE k v r es clock (λi=>qij (qZ es i k) k))
    | _=>stuck "MapUpdate: map expected")
   | _=>stuck "MapUpdate: map type expected"):=by
  unfold qiB;show(qkf t).bind _=_
  congr 1
  funext d
  cases d<;>try rfl
  show(getObj r).bind _=(getObj r).bind _
  congr 1
  funext o
  cases o<;>try rfl
  exact(Sem.bind_assoc' _ _ _).symm
 have hu:∀es,(qkf t).runT P w es=(.ok (.map kt et) w,es):=λes=>by
  show(match P.underlying t with | some i=>(pure i:Sem TypeDesc) | none=>stuck "no such type").runT P w es=_;rw[ht];rfl
 have ho:∀es',(getObj r).runT P w es'=(.ok (.map es clock) w,es'.push ⟨.obj r,false,false⟩):=λes'=>by
  simp only[getObj,qly,hr];rfl
 have key:∀es',(qiB t (.map (some r)) k v).runT P w es'=(kI kt k es>>=jE k v r es clock (λi=>qij (qZ es i k) k)).runT P w (es'.push ⟨.obj r,false,false⟩):=λes'=>by
  rw[e,Sem.runT_bind',hu];dsimp only;rw[Sem.runT_bind',ho]
 refine⟨?_,?_⟩
 ·rw[<- Sem.runT_fst P _ w #[],key,Sem.runT_fst]
 ·show((qiB t (.map (some r)) k v).runT P w #[]).2=_;rw[key];rfl
omit [JunkSet] in
theorem qea(a b:ByteArray)(h:(a == b)=true):a=b:=by
 obtain⟨a⟩:=a;obtain⟨b⟩:=b;have h2:(a == b)=true:=h;rw[eq_of_beq h2]
omit [JunkSet] in
theorem q7k:∀(n:Nat) {x y:qgB},qjw n x y=true->x=y:=by
 intro n;induction n with
 | zero=>
  intro x y h;cases x<;>cases y<;>first | (cases h;done) | rfl | (rw[qea _ _ h];done) | (simp only[qjw,qhh,beq_iff_eq] at h;simp[h];done) | (simp only[qjw,qhh,beq_iff_eq] at h;obtain⟨h1,h2⟩:=h;subst h1 h2;rfl)
 | succ n ih=>
  intro x y h;cases x<;>cases y<;>first | (cases h;done) | rfl | (rw[qea _ _ h];done) | skip
  all_goals simp only[qjw,qhh,beq_iff_eq] at h
  case agg.agg a b=>
   obtain⟨h1,h2⟩:=h
   congr 1
   refine Array.ext h1 λi a7 a6=>?_;rw[qid] at h2;have:(a[i],b[i])∈a.toList.zip b.toList:=by
    rw[List.mem_iff_getElem];refine⟨i,by simp;omega,by simp⟩
   exact ih (h2 _ this)
  case iface.iface t v u w=>
   rw[h.1,ih h.2]
  all_goals first | (simp[h];done) | (obtain⟨h1,h2⟩:=h;subst h1 h2;rfl) | (obtain⟨⟨h1,h2⟩,h3⟩:=h;subst h1 h2 h3;rfl)
def kD(s:Bool)(n0:Nat)(old new:qgB):Sem qgB :=
 if s then pure (if qjw 10000 old new then new else if n0=0 then new else old)
 else choose wk>>=λn=>pure (if qjw 10000 old new then new else if n=0 then new else old)
theorem qcw{x x' y y':qgB}(hx:VR Z x x')(hy:VR Z y y')(n0:Nat):SR Q P VR (qij x y) Z (kD (qjw 10000 x y) n0 x' y'):=by
 unfold qij kD;by_cases hs:qjw 10000 x y=true
 ·rw[if_pos hs,if_pos hs];refine qd ?_;split
  ·exact hy
  ·split
   ·exact hy
   ·rw[<- q7k _ hs];exact hx
 ·rw[if_neg hs,if_neg hs];refine .bndE vH λO n l=>?_;refine qd ?_;by_cases a6:qjw 10000 x' y'=true
  ·rw[if_pos a6];split
   ·exact hy.mono l
   ·rw[<- q7k _ a6];exact hx.mono l
  ·rw[if_neg a6];split
   ·exact hy.mono l
   ·exact hx.mono l
def But(d:Nat):qlg Y->qlg Y
 | .ok a u=>.ok a { u with drawn:=d }
 | .halt h u=>.halt h { u with drawn:=d }
omit [JunkSet] in
theorem Kx(r:qlg Y):But (rwR r).drawn r=r:=by cases r<;>rfl
omit [JunkSet] in
theorem YM(r:Nat)(o:Obj)(u:qgx)(d:Nat):(setObj r o).run P { u with drawn:=d }=But d ((setObj r o).run P u)/\∀es,(setObj r o).events P { u with drawn:=d } es=(setObj r o).events P u es:=by
 have e:setObj r o=qr3 r o (.pure ()):=rfl;rw[e];refine⟨?_,λes=>?_⟩
 ·simp only[qih];show(match u.heap[r]? with | some (.cells ..)=>_ | some _=>_ | none=>_)=But d (match u.heap[r]? with | some (.cells ..)=>_ | some _=>_ | none=>_);cases u.heap[r]? with
  | none=>rfl
  | some x=>cases x<;>rfl
 ·unfold Sem.events;simp only[qly];cases hh:u.heap[r]? with
  | none=>rfl
  | some x=>cases x<;>rfl
omit [JunkSet] in
theorem qax{k v:qgB}{r:Nat}{es:Array qkk}{clock:Nat}{s:Nat->Bool}{u:qgx}(x:Option (Nat × qgB)) :∃d,(jE k v r es clock (λi=>qij (qZ es i k) k) x).run P u=But d ((jE k v r es clock (λi=>kD (s i) (wk.cut (u.tape u.drawn wk)) (qZ es i k) k) x).run P u) /\∀es',(jE k v r es clock (λi=>qij (qZ es i k) k) x).events P u es'=(jE k v r es clock (λi=>kD (s i) (wk.cut (u.tape u.drawn wk)) (qZ es i k) k) x).events P u es':=by
 cases x with
 | none=>exact⟨_,(Kx _).symm,λ_=>rfl⟩
 | some x=>
  obtain⟨i,y⟩:=x;simp only[jE,qiy,qm3];have a6:(choose wk).run P u=.ok (wk.cut (u.tape u.drawn wk)) { u with drawn:=u.drawn+1 }:=rfl;have a7:∀es',(choose wk).events P u es'=es':=λes'=>rfl;by_cases hb:qjw 10000 (qZ es i k) k=true
  ·have h1:(qij (qZ es i k) k).run P u=.ok k u:=by unfold qij;rw[if_pos hb];rfl
   have h2:∀es',(qij (qZ es i k) k).events P u es'=es':=λes'=>by unfold qij;rw[if_pos hb];rfl
   rw[h1];simp only[h2];cases hs:s i with
   | true=>
    have h3:(kD true (wk.cut (u.tape u.drawn wk)) (qZ es i k) k).run P u=.ok k u:=by unfold kD;rw[if_pos rfl,if_pos hb];rfl
    have h4:∀es',(kD true (wk.cut (u.tape u.drawn wk)) (qZ es i k) k).events P u es'=es':=λes'=>by unfold kD;rw[if_pos rfl];rfl
    rw[h3];refine⟨_,(Kx _).symm,λes'=>?_⟩;rw[h4]
   | false=>
    have h3:(kD false (wk.cut (u.tape u.drawn wk)) (qZ es i k) k).run P u=.ok k { u with drawn:=u.drawn+1 }:=by
     unfold kD;rw[if_neg (by simp),qiy,a6];simp only[qiv,if_pos hb];rfl
    have h4:∀es',(kD false (wk.cut (u.tape u.drawn wk)) (qZ es i k) k).events P u es'=es':=λes'=>by
     unfold kD;rw[if_neg (by simp),qm3,a6,a7];rfl
    rw[h3];simp only[h4,qiv,qov];have:=YM (P:=P) r (.map (es.modify i λe=>{ e with key:=k,val:=v }) clock) { u with drawn:=u.drawn+1 } u.drawn;exact⟨u.drawn,this.1,λes'=>this.2 es'⟩
  ·have h1:(qij (qZ es i k) k).run P u=.ok (if wk.cut (u.tape u.drawn wk)=0 then k else qZ es i k) { u with drawn:=u.drawn+1 }:=by
    unfold qij;rw[if_neg hb,qiy];show((choose wk).run P u).andThen _=_;rw[a6];rfl
   have h2:∀es',(qij (qZ es i k) k).events P u es'=es':=λes'=>by
    unfold qij;rw[if_neg hb,qm3];show((choose wk).run P u).evThen _ _=_;rw[a6,show(choose (.extern "map.whichKeyStays" 2)).events P u es'=es' from rfl];rfl
   rw[h1];simp only[h2];cases hs:s i with
   | true=>
    have h3:(kD true (wk.cut (u.tape u.drawn wk)) (qZ es i k) k).run P u=.ok (if wk.cut (u.tape u.drawn wk)=0 then k else qZ es i k) u:=by unfold kD;rw[if_pos rfl,if_neg hb];rfl
    have h4:∀es',(kD true (wk.cut (u.tape u.drawn wk)) (qZ es i k) k).events P u es'=es':=λes'=>by unfold kD;rw[if_pos rfl];rfl
    rw[h3];simp only[h4,qiv,qov];have:=YM (P:=P) r (.map (es.modify i λe=>{ e with key:=if wk.cut (u.tape u.drawn wk)=0 then k else qZ es i k,val:=v }) clock) u (u.drawn+1);exact⟨u.drawn+1,this.1,λes'=>this.2 es'⟩
   | false=>
    have h3:(kD false (wk.cut (u.tape u.drawn wk)) (qZ es i k) k).run P u=.ok (if wk.cut (u.tape u.drawn wk)=0 then k else qZ es i k) { u with drawn:=u.drawn+1 }:=by
     unfold kD;rw[if_neg (by simp),qiy,a6];simp only[qiv,if_neg hb];rfl
    have h4:∀es',(kD false (wk.cut (u.tape u.drawn wk)) (qZ es i k) k).events P u es'=es':=λes'=>by
     unfold kD;rw[if_neg (by simp),qm3,a6,a7];rfl
    rw[h3];refine⟨_,(Kx _).symm,λes'=>?_⟩;rw[h4]
theorem q0y(hT:P.toTables=Q.toTables)(hG:Gl P Z){kt:qh8}(hB:eqB Q 6 kt=true){k k' v v':qgB}(hk:VR Z k k')(hv:VR Z v v'){r j:Nat}(hb:BR Z r j){es es':Array qkk}(he:LsR (kq Z) es.toList es'.toList)(clock n0:Nat) :SR Q P (λ_ _ _=>True) (kI kt k es>>=jE k v r es clock (λi=>qij (qZ es i k) k)) Z (kI kt k' es'>>=jE k' v' j es' clock (λi=>kD (qjw 10000 (qZ es i k) k) n0 (qZ es' i k') k')):=by
 have a7:SR Q P q2E (kI kt k es) Z (kI kt k' es') :=
  .bnd (Jw hT _ 6 _ hB hk) λU _ _ l1 _=>YH hT hB (hk.mono l1) (hG.mono l1) (he.imp λ_ _ x=>x.mono l1)
 refine .bnd a7 λX x x' l2 hr=>?_;have a6:=he.imp λ_ _ x=>kq.mono l2 x;rcases hr with⟨rfl,rfl⟩ | ⟨i,y,y',rfl,rfl,hv2⟩
 ·refine jI (hb.mono l2) (.map _ ?_);simp only[Array.toList_push];exact a6.append (.cons ⟨hk.mono l2,hv.mono l2,rfl⟩ .nil)
 ·have a8:VR X (qZ es i k) (qZ es' i k'):=by
   have:=a6.get i;simp only[qnm] at this;unfold qZ;rcases this with⟨e1,e2⟩ | ⟨a,b,e1,e2,hab⟩
   ·rw[e1,e2];exact hk.mono l2
   ·rw[e1,e2];exact hab.key
  refine .bnd (qcw a8 (hk.mono l2) n0) λT key b6 l3 a9=>?_;exact jI (hb.mono (l2.trans l3)) (.map _ (q4r (a6.imp λ_ _ x=>x.mono l3) i λe e' b0=>⟨a9,hv.mono (l2.trans l3),b0.born⟩))
theorem q40(hT:P.toTables=Q.toTables)(hG:Gl P Z){t:qh8}{base:Nat}{wq w:qgx}(hw:WR Q base Z wq w){m m' k k' v v':qgB}(hm:VR Z m m')(hf:vX ((qiB t m k v).run Q wq)) :SR Q P (λ_ _ _=>True) (qiB t m k v) Z (qiB t m' k' v') \/∃r j kt et es es' clock,m=.map (some r)/\m'=.map (some j)/\BR Z r j/\Q.underlying t=some (.map kt et)/\wq.heap[r]?=some (.map es clock)/\w.heap[j]?=some (.map es' clock)/\LsR (kq Z) es.toList es'.toList:=by
 by_cases a6:∃r j,m=.map (some r)/\m'=.map (some j)/\BR Z r j
 ·obtain⟨r,j,rfl,rfl,hb⟩:=a6;by_cases hu:∃kt et,Q.underlying t=some (.map kt et)
  ·obtain⟨kt,et,hu⟩:=hu;right;have hlt:r<wq.heap.size:=by rw[<- hw.len];exact(qh9.1 hb).1
   have hbad:∀o,wq.heap[r]?=some o->(∀es c,o≠.map es c)->False:=λo ho hn=>by
    have h1:(qkf t).run Q wq=.ok (.map kt et) wq:=by
     show(match Q.underlying t with | some i=>(pure i:Sem TypeDesc) | none=>stuck "no such type").run Q wq=_;rw[hu];rfl
    unfold qiB at hf;rw[qiy,h1] at hf;simp only[qiv,qiy] at hf;have h2:(getObj r).run Q wq=.ok o wq\/∃s,(getObj r).run Q wq=.halt (.stuck s) wq:=by
     simp only[getObj,qih,ho];cases o<;>first | exact .inl rfl | exact .inr ⟨_,rfl⟩
    rcases h2 with h2 | ⟨s,h2⟩
    ·rw[h2] at hf;simp only[qiv] at hf;cases o<;>first | exact hn _ _ rfl | exact absurd hf (by intro h;cases h)
    ·rw[h2] at hf;exact absurd hf (by intro h;cases h)
   cases ho:wq.heap[r]? with
   | none=>rw[qoa] at ho;omega
   | some o=>
    by_cases hn:∃es c,o=.map es c
    ·obtain⟨es,c,rfl⟩:=hn;rcases hw.obj r j _ hb ho with⟨_,h2,_⟩ | ⟨_,o',h2,h3⟩
     ·cases h2
     ·cases h3 with
      | @map _ es' _ he=>exact⟨r,j,kt,et,es,es',c,rfl,rfl,hb,hu,ho,h2,he⟩
    ·exact(hbad o ho λes c e=>hn ⟨es,c,e⟩).elim
  ·left;refine .bnd (qP hT t) λO d d' l hd=>?_;obtain⟨rfl,hd⟩:=hd;cases d' with
   | map kt et=>exact absurd ⟨kt,et,hd⟩ hu
   | _=>exact qh
 ·left;refine .bnd (qP hT t) λO d d' l hd=>?_;obtain⟨rfl,hd⟩:=hd;cases d' with
  | map kt et=>
   cases hm with
   | mapNil=>exact qw hT (hG.mono l) _
   | map hb=>exact absurd ⟨_,_,rfl,rfl,hb⟩ a6
   | _=>exact qh
  | _=>exact qh
theorem q42{t kt et:qh8}(hB:K3 Q t=true)(hu:Q.underlying t=some (.map kt et)):eqB Q 6 kt=true:=by
 unfold K3 at hB;rw[hu] at hB;simp only[qhh] at hB;exact hB.1
theorem ZD(hT:P.toTables=Q.toTables)(hG:Gl P Z){t:qh8}(hB:K3 Q t=true){m m' k k' v v':qgB}(hm:VR Z m m')(hk:VR Z k k')(hv:VR Z v v') :SM Q P (λ_ _ _=>True) (qiB t m k v) Z (qiB t m' k' v'):=by
 intro base D wq w hb hw ht hd hf;rcases q40 hT hG hw hm hf with h | ⟨r,j,kt,et,es,es',clock,rfl,rfl,hbr,hu,hq,hp,he⟩
 ·exact h.sm hb hw ht hd hf
 ·have a9:P.underlying t=some (.map kt et):=by rw[kx hT];exact hu
  obtain⟨r1,_⟩:=yH (P:=Q) (t:=t) (k:=k) (v:=v) hu hq;obtain⟨r2,e2⟩:=yH (P:=P) (t:=t) (k:=k') (v:=v') a9 hp;rw[r1] at hd hf ⊢;rw[r2,e2]
  let n0:Nat:=match (kI kt k' es').run P w with | .ok _ u=>wk.cut (u.tape u.drawn wk) | .halt _ _=>0
  obtain⟨O,wq1,w1,ev,h1,h2,h3,h4,_,h5,_⟩:=SR.runs (es:=#[⟨.obj j,false,false⟩]) (q0y hT hG (q42 hB hu) hk hv hbr he clock n0) hb hw ht hd hf;have a6:∃d,(kI kt k' es'>>=jE k' v' j es' clock (λi=>qij (qZ es' i k') k')).run P w=But d ((kI kt k' es'>>=jE k' v' j es' clock (λi=>kD (qjw 10000 (qZ es i k) k) n0 (qZ es' i k') k')).run P w) /\
    ∀a7,(kI kt k' es'>>=jE k' v' j es' clock (λi=>qij (qZ es' i k') k')).events P w a7=(kI kt k' es'>>=jE k' v' j es' clock (λi=>kD (qjw 10000 (qZ es i k) k) n0 (qZ es' i k') k')).events P w a7:=by
   simp only[qiy,qm3];have a8:n0=match (kI kt k' es').run P w with | .ok _ u=>wk.cut (u.tape u.drawn wk) | .halt _ _=>0:=rfl
   generalize (kI kt k' es').run P w=res at a8;cases res with
   | ok x u=>
    simp only[qiv,qov];rw[a8];obtain⟨d,g1,g2⟩:=qax (P:=P) (k:=k') (v:=v') (r:=j) (es:=es') (clock:=clock) (s:=λi=>qjw 10000 (qZ es i k) k) (u:=u) x;exact⟨d,g1,λa7=>g2 _⟩
   | halt x u=>exact⟨u.drawn,rfl,λ_=>rfl⟩
  obtain⟨d,b6,b0⟩:=a6;rw[b6,b0];refine⟨O,wq1,{ w1 with drawn:=d },#[⟨.obj j,false,false⟩]++ev,?_,by unfold Sem.events;exact h2,?_,?_,?_⟩
  ·generalize qih Q _ wq=x at h1;generalize qih P _ w=y at h1;cases h1 with
   | ok _ _ h=>exact .ok _ _ h
   | panic _ _ h=>exact .panic _ _ h
  ·intro e he;rcases qkb.1 he with he | he
   ·simp only[qkd,qjC] at he;subst he;refine .obj false (hbr.mono h5.le) (Nat.le_of_not_lt λhlt=>?_);obtain⟨c,e,f,h6,_⟩:=hw.low r hlt;rw[hq] at h6;cases h6
   ·exact h3 e he
  ·exact⟨h4.len,h4.nodup,h4.lt,h4.obj,h4.low,h4.env,h4.below,h4.gar⟩
  ·exact⟨h5.le,h5.tape,h5.os,h5.output,h5.size,h5.keep,h5.fresh,h5.mine⟩
theorem SM.u{s s':Sem Unit}(h:SM Q P (λ_ _ _=>True) s Z s'):SM Q P zQ (do s;pure .skip) Z (do s';pure .skip):=by
 intro base D wq w hb hw ht hd hf;have e1:∀(p:qh2) (x:Sem Unit) (u:qgx),((do x;pure Next.skip:Sem qlo)).run p u=match x.run p u with | .ok _ u'=>.ok .skip u' | .halt h u'=>.halt h u':=λp x u=>by
  rw[qiy];cases x.run p u<;>rfl
 have e2:∀(p:qh2) (x:Sem Unit) (u:qgx),((do x;pure Next.skip:Sem qlo)).events p u #[]=x.events p u #[]:=λp x u=>by
  rw[qm3];cases x.run p u<;>rfl
 rw[e1] at hd hf ⊢;have a7:(rwR (s.run Q wq)).drawn<=D:=by cases hx:s.run Q wq<;>(rw[hx] at hd;exact hd)
 have a6:vX (s.run Q wq):=by cases hx:s.run Q wq<;>(rw[hx] at hf;exact hf)
 obtain⟨O,wq1,w1,ev,h1,h2,h3,h4,h5⟩:=h hb hw ht a7 a6;refine⟨O,wq1,w1,ev,?_,by rw[e2];exact h2,h3,h4,h5⟩;rw[e1];generalize qih Q _ wq=x at h1;generalize qih P _ w=y at h1;cases h1 with
 | ok _ _ h=>exact .ok _ _ .skip
 | panic _ _ h=>exact .panic _ _ h
theorem q0D(H:Pair Q P){e e':qhE->qgB}(he:∀x,qF Q x->VR Z (e x) (e' x))(hG:Gl P Z)(hn:Inj Z)(hc:∀v,e (.const v)=v){o:qiu}(ho:qN Q o.op):SM Q P zQ (qk3 e o) Z (qk3 e' o):=by
 cases hmu:qba o.op with
 | false=>exact(q0z H he hG hn hc ho hmu).sm
 | true=>
  obtain⟨dst,op,ty,pos,after,guard⟩:=o;dsimp only at ho hmu;cases ho with
  | mapUpdate h1 h2 h3 h4=>exact SM.u (ZD H.tables hG h1 (he _ h2) (he _ h3) (he _ h4))
  | insert h1 h2 h3 h4=>exact SM.u (ZD H.tables hG h1 (he _ h2) (he _ h3) (he _ h4))
  | _=>cases hmu
end
end
section
structure Duo[JunkSet](Q P:qh2):Prop extends Pair Q P where
 codes:∀c,JunkSet.okc c↔qy Q c
 rfr:Q.follows .rangeFuncRecover=true
 bodies:∀f g,JunkSet.okf f->Q.funcs[f]?=some g->P.funcs[f]?=some g->∀c,g.body=some c->qy Q c
 inits:∀f,JunkSet.okf f->Q.inits.idxOf? f=none
 same:∀f,JunkSet.okg f↔(∃g,Q.funcs[f]?=some g/\P.funcs[f]?=some g)/\Q.inits.idxOf? f=none
def KG[JunkSet](Q P:qh2)(Z:Ren)(g g':qgC):Prop :=
 (Q.funcs[g.frame.fn]?=P.funcs[g.frame.fn]?/\kO Q P Z g g') \/
 ∃f k a a' c c' cs cs',Q.funcs[f]?≠P.funcs[f]?/\JunkSet.okf f/\g={ frame:=qhD Q f a k,callers:=c::cs,status:=.running,dying:=none }/\g'={ frame:=qhD P f a' k,callers:=c'::cs',status:=.running,dying:=none } /\
  AsR Z a a'/\qr Q P Z c c'/\LsR (qr Q P Z) cs cs'/\(c.mode≠.run\/∀x l,c.todo≠.code x::l)
theorem KG.k[JunkSet]{Q P:qh2}{Z:Ren}{g g':qgC}(h:kO Q P Z g g'):KG Q P Z g g' :=
 .inl ⟨by obtain⟨x,h1,h2⟩:=h.frame.same;rw[h1,h2],h⟩
def vd[JunkSet](Q P:qh2)(base D:Nat)(Z:Ren)(wq w:qgx)(r r':qjo):Prop :=
 ∀gq' wq' esq,r=.go gq' wq' esq->wq'.drawn<=D->gq'.status=.running->gq'.dying=none ->
  ∃O g' w' es,r'=.go g' w' es/\KG Q P O gq' g'/\WR Q base O wq' w'/\True/\Eff base Z O w w'/\(∀e∈es,kR base O e)/\True/\wq.drawn<=wq'.drawn
section
variable[JunkSet]{Q P:qh2}(H:Duo Q P){Z:Ren}{base D:Nat}{wq w:qgx}
theorem Duo.gsize(H:Duo Q P):P.globals.size=Q.globals.size:=by rw[H.tables]
theorem qbw(H:Duo Q P){f:qib}(hf:JunkSet.okf f)(hs:Q.funcs[f]?=P.funcs[f]?){a a':Array qgB}(ha:AsR Z a a')(k:CallKind):qr Q P Z (qhD Q f a k) (qhD P f a' k):=by
 obtain⟨fq,fp,h1,h2,h3,_⟩:=H.funcs f hf;have e:fp=fq:=by rw[h1,h2] at hs;exact(qjF hs).symm
 subst e;refine⟨rfl,⟨fp,h1,h2⟩,H.inits f hf,?_,?_,.nil,.run,rfl,.inl ⟨rfl,rfl⟩⟩
 ·unfold qhD;dsimp only;rw[h1,h2,<- ha.1];refine ha.append ⟨rfl,λi x y hx hy=>?_⟩;rw[Array.getElem?_replicate] at hx hy;split at hx
  ·rename_i hlt
   rw[if_pos hlt] at hy;cases hx;cases hy;exact kz Z
  ·cases hx
 ·unfold qhD;dsimp only;rw[h1,h2];cases hb:fp.body with
  | none=>rw[hb] at h3;cases h3
  | some c=>simp only[qmo,hb,qgH];exact .cons (.code (H.bodies f fp hf h1 h2 c hb)) .nil
theorem enterK(H:Duo Q P){f:qib}(hf:JunkSet.okf f){a a':Array qgB}(ha:AsR Z a a'){c c':qh4}(hc:qr Q P Z c c'){cs cs':List qh4}(hcs:LsR (qr Q P Z) cs cs')(hm:c.mode≠.run\/∀x l,c.todo≠.code x::l)(k:CallKind):KG Q P Z { frame:=qhD Q f a k,callers:=c::cs,status:=.running,dying:=none } { frame:=qhD P f a' k,callers:=c'::cs',status:=.running,dying:=none }:=by
 by_cases hs:Q.funcs[f]?=P.funcs[f]?
 ·exact .k ⟨qbw H hf hs ha k,.cons hc hcs,rfl,rfl,rfl,rfl⟩
 ·exact .inr ⟨f,k,a,a',c,c',cs,cs',hs,hf,rfl,rfl,ha,hc,hcs,hm⟩
theorem qau(H:Duo Q P){l l':Nat}{f:qib}(hs:∃g,Q.funcs[f]?=some g/\P.funcs[f]?=some g)(hi:Q.inits.idxOf? f=none){t t':Array qgB}{a b:qje}(hb:BR Z l l')(ht:AsR Z t t')(ha:qy Q a)(hc:qy Q b)(k:CallKind) :qr Q P Z (Frame.round l f t a b k) (Frame.round l' f t' a b k) :=
 ⟨rfl,hs,hi,ht,.cons (.code ha) (.cons .beginRound (.cons (.code hc) .nil)),.nil,.run,rfl,.inr ⟨l,l',rfl,rfl,hb⟩⟩
theorem q6q.world{Y M:Type}{R:Rel Y M}{r:qlg Y}{a6:qgx}{r':qlg M}{w2:qgx}(h:q6q R Z r a6 r' w2):rwR r=a6:=by
 cases h<;>rfl
theorem zd(hw:WR Q base Z wq w)(ht:zx D wq w){g g':qgC}(h:g.status=.running->g.dying=none->kO Q P Z g g'):vd Q P base D Z wq w (.go g wq) (.go g' w):=by
 intro gq' wq' esq e hD hs hd;cases e;exact⟨Z,g',w,#[],rfl,.k (h hs hd),hw,trivial,.refl base w,by simp,trivial,qgA _⟩
theorem zz{o:Outcome}{u:qgx}{es:Array qiq}{r':qjo}:vd Q P base D Z wq w (.ended o u es) r':=by
 intro _ _ _ e;cases e
theorem xQ{f f':qh4}(hf:qr Q P Z f f'):∀{cs cs':List qh4},LsR (qr Q P Z) cs cs' ->(qhm f cs=none/\qhm f' cs'=none)\/∃v v' k k',qhm f cs=some (v,k)/\qhm f' cs'=some (v',k')/\VR Z v v'/\LsR (qr Q P Z) k k':=by
 intro cs cs' h;induction h generalizing f f' with
 | nil=>exact .inl ⟨by unfold qhm;split<;>simp_all,by unfold qhm;split<;>simp_all⟩
 | @cons c c' cs cs' hc hcs ih=>
  unfold qhm;rw[hf.kind];cases hk:f.kind with
  | deferred=>
   dsimp only;have hm:=hc.mode;cases hmc:c.mode with
   | run=>rw[hmc] at hm;cases hm':c'.mode<;>rw[hm'] at hm<;>cases hm;exact .inl ⟨rfl,rfl⟩
   | returning=>rw[hmc] at hm;cases hm':c'.mode<;>rw[hm'] at hm<;>cases hm;exact .inl ⟨rfl,rfl⟩
   | panicking l=>
    rw[hmc] at hm;cases hm':c'.mode with
    | run=>rw[hm'] at hm;cases hm
    | returning=>rw[hm'] at hm;cases hm
    | panicking l'=>
     rw[hm'] at hm;cases hm with
     | panicking hl=>
      cases hl with
      | nil=>exact .inl ⟨rfl,rfl⟩
      | @cons p p' l l' hp hl=>
       obtain⟨v,r,g⟩:=p;obtain⟨v',r',g'⟩:=p';obtain⟨h1,h2,h3⟩:=hp;dsimp only at h1 h2 h3;subst h2;subst h3;cases r'<;>cases g'<;>first
        | exact .inl ⟨rfl,rfl⟩
        | exact .inr ⟨v,v',_,_,rfl,rfl,h1,.cons ⟨hc.fn,hc.same,hc.okf,hc.tmps,hc.todo,hc.defers,.panicking (.cons ⟨h1,rfl,rfl⟩ hl),hc.kind,hc.round⟩ hcs⟩
  | wrapped=>
   dsimp only;rcases ih hc with⟨e1,e2⟩ | ⟨v,v',k,k',e1,e2,hv,hks⟩
   ·rw[e1,e2];exact .inl ⟨rfl,rfl⟩
   ·rw[e1,e2];exact .inr ⟨v,v',_,_,rfl,rfl,hv,.cons hc hks⟩
  | _=>exact .inl ⟨rfl,rfl⟩
theorem qY{p:qh2}{fr:qh4}{cs:List qh4}{m:String}{u u':qgx}{g:qgC}{es:Array qiq}(h:qnB p fr cs none m u=.go g u' es):g.dying≠none:=by
 unfold qnB at h;dsimp only at h;generalize (qih p _ u:qlg (List (ByteArray × String) × List ByteArray))=r at h;cases r with
 | ok a w1=>
  obtain⟨t,a6⟩:=a;simp only[dieOf,qkE] at h;rw[<- h.1];simp
 | halt x w1=>cases x<;>simp at h
theorem j3{es:Array qiq}{s:qjo}{g:qgC}{u:qgx}{e:Array qiq}(h:qic es s=.go g u e):∃e0,s=.go g u e0/\e=es++e0:=by
 cases s<;>simp only[qic,qkE] at h<;>first | (obtain⟨rfl,rfl,rfl⟩:=h;exact⟨_,rfl,rfl⟩) | cases h
theorem SR.ends{Y M:Type}{R:Rel Y M}{s:Sem Y}{s':Sem M}(hs:SR Q P R s Z s')(hb:base<=Z.length)(hw:WR Q base Z wq w)(hf:vX (s.run Q wq)) :(∃a u,s.run Q wq=.ok a u)\/∃v u,s.run Q wq=.halt (.panic v) u:=by
 have a7:WR Q base Z wq { w with tape:=λn q=>wq.tape (n - w.drawn+wq.drawn) q }:=⟨hw.len,hw.nodup,hw.lt,hw.obj,hw.low,hw.env,hw.below,hw.gar⟩;obtain⟨O,a8,w2,a9,a6,_⟩:=SR.runs (es:=#[]) (D:=(rwR (s.run Q wq)).drawn) hs hb a7 (λn q _=>by
  show wq.tape (wq.drawn+n) q=wq.tape (w.drawn+n - w.drawn+wq.drawn) q;rw[show w.drawn+n - w.drawn+wq.drawn=wq.drawn+n by omega]) (qgA _) hf
 generalize s.run Q wq=r at a6;generalize (qih P s' _)=r' at a6;cases a6 with
 | ok _ _ _=>exact .inl ⟨_,_,rfl⟩
 | panic _ _ _=>exact .inr ⟨_,_,rfl⟩
theorem SM.ends{Y M:Type}{R:Rel Y M}{s:Sem Y}{s':Sem M}(hs:SM Q P R s Z s')(hb:base<=Z.length)(hw:WR Q base Z wq w)(hf:vX (s.run Q wq)) :(∃a u,s.run Q wq=.ok a u)\/∃v u,s.run Q wq=.halt (.panic v) u:=by
 have a7:WR Q base Z wq { w with tape:=λn q=>wq.tape (n - w.drawn+wq.drawn) q }:=⟨hw.len,hw.nodup,hw.lt,hw.obj,hw.low,hw.env,hw.below,hw.gar⟩;obtain⟨O,a8,w2,a9,a6,_⟩:=hs (D:=(rwR (s.run Q wq)).drawn) hb a7 (λn q _=>by
  show wq.tape (wq.drawn+n) q=wq.tape (w.drawn+n - w.drawn+wq.drawn) q;rw[show w.drawn+n - w.drawn+wq.drawn=wq.drawn+n by omega]) (qgA _) hf
 generalize s.run Q wq=r at a6;generalize (qih P s' _)=r' at a6;cases a6 with
 | ok _ _ _=>exact .inl ⟨_,_,rfl⟩
 | panic _ _ _=>exact .inr ⟨_,_,rfl⟩
theorem Qt(H:Duo Q P)(hb:base<=Z.length)(hw:WR Q base Z wq w)(ht:zx D wq w){f f':qh4}(hf:qr Q P Z f f'){cs cs':List qh4}(hcs:LsR (qr Q P Z) cs cs')(c3:∀x l,f.todo≠.code x::l){s s':Sem qlo}(hs:SM Q P zQ s Z s'):vd Q P base D Z wq w (qil Q true f cs none s wq) (qil P true f' cs' none s' w):=by
 intro gq' wq' esq a7 hD hst b9;have d9:(∀d r s k,f.todo≠.call d true r s::k)/\∀d r s k,f'.todo≠.call d true r s::k:=by
  have:=hf.todo;generalize f.todo=l at this;generalize f'.todo=l' at this;cases this with
  | nil=>exact⟨by simp,by simp⟩
  | cons hx _=>cases hx<;>exact⟨by simp,by simp⟩
 obtain⟨e8,e7⟩:=d9;unfold qil at a7;simp only[if_true,qhA] at a7;have b8:vX (s.run Q wq):=by
  cases hr:s.run Q wq with
  | ok a w1=>trivial
  | halt h w1=>
   rw[hr] at a7;cases h with
   | panic v=>rfl
   | goexit=>rfl
   | unsupported u=>cases u<;>first | rfl | (simp[qic] at a7;done)
   | blocked=>simp only[qic,qkE] at a7;rw[<- a7.1] at hst;cases hst
   | waiting=>simp only[qic,qkE] at a7;rw[<- a7.1] at hst;cases hst
   | throw m=>simp only[qic,qnc,dieOf,qkE] at a7;rw[<- a7.1] at b9;cases b9
   | fatal m=>
    obtain⟨e0,h0,_⟩:=j3 a7;exact absurd b9 (qY h0)
   | _=>(simp[qic] at a7;done)
 obtain⟨e0,h0,_⟩:=j3 a7;have e9:∀{fr:qh4} {u:qgx},(qpg { frame:=fr,callers:=cs,status:=.running,dying:=none } u:qjo)=.go gq' wq' e0->u=wq':=λh=>by cases h;rfl
 have e6:(rwR (s.run Q wq)).drawn<=D:=by
  cases hr:s.run Q wq with
  | ok a w1=>
   rw[hr] at h0;have:w1=wq':=by
    cases a with
    | recover=>
     dsimp only at h0
     repeat' split at h0
     all_goals(cases h0;rfl)
    | callThen d r v b=>
     dsimp only at h0
     repeat' split at h0
     all_goals(cases h0;rfl)
    | row r a=>
     dsimp only at h0
     repeat' split at h0
     all_goals(cases h0;rfl)
    | stack r a=>
     dsimp only at h0
     repeat' split at h0
     all_goals(cases h0;rfl)
    | spawn d=>
     exfalso;dsimp only at h0
     repeat' split at h0
     all_goals first
      | (simp only[qnc,dieOf,qkE] at h0;rw[<- h0.1] at b9;cases b9;done)
      | (cases h0;done)
    | _=>first | (cases h0;rfl) | cases h0
   subst this;exact hD
  | halt h w1=>
   rcases hs.ends hb hw b8 with⟨a,u,e⟩ | ⟨v,u,e⟩
   ·rw[hr] at e;cases e
   ·rw[hr] at e;cases e;rw[hr] at h0;cases h0;exact hD
 obtain⟨O,b7,w2,a8,b6,hes,e5,d8,d5⟩:=hs hb hw ht e6 b8;have hL:=d5.le;have e4:wq.drawn<=b7.drawn:=b6.world ▸ vJ Q s wq;have b0:LsR (qr Q P O) cs cs':=hcs.imp λ_ _ k=>k.mono hL;have a6:=hf.mono hL;have c8:s'.events P w #[]=a8:=hes;have d7:(f'.kind == CallKind.early)=(f.kind == CallKind.early):=by rw[hf.kind]
 have a9:∀(es:Array qiq),(es=#[]\/es=a8)->∀e∈seen P f'.fn (if(f'.kind == CallKind.early)=true then #[] else es),e∈a8:=by
  intro es he e hx;have:=kC _ _ _ e hx;split at this
  ·simp at this
  ·rcases he with rfl | rfl
   ·simp at this
   ·exact this
 have fin:∀{g g':qgC} {es:Array qiq} {r':qjo},r'=.go g' w2 es->(∀e∈es,e∈a8)->g=gq'->b7=wq'->(gq'.status=.running->KG Q P O g g') ->
   ∃O g'' w' es',r'=.go g'' w' es'/\KG Q P O gq' g''/\WR Q base O wq' w'/\True/\Eff base Z O w w'/\(∀e∈es',kR base O e)/\True/\wq.drawn<=wq'.drawn:=by
  intro g g' es r' e0 c9 e1 e2 hg;subst e1;subst e2;exact⟨O,g',w2,es,e0,hg hst,d8,trivial,d5,λe he=>e5 e (c9 e he),trivial,e4⟩
 unfold qil;simp only[if_true,qhA];rw[c8];generalize hr:s.run Q wq=r at h0 b6;generalize hr':s'.run P w=r' at b6;cases b6 with
 | ok b7 w2 hN=>
  cases hN with
  | value hv=>
   cases h0;exact fin rfl (by simpa using a9 a8 (.inr rfl)) rfl rfl λ_=>.k ⟨a6.finish hv,b0,rfl,rfl,rfl,rfl⟩
  | skip=>
   cases h0;exact fin rfl (by simpa using a9 a8 (.inr rfl)) rfl rfl λ_=>.k ⟨a6.finish (kz O),b0,rfl,rfl,rfl,rfl⟩
  | @enter fn a a' hok ha=>
   cases h0;refine fin rfl (by simpa using a9 a8 (.inr rfl)) rfl rfl λ_=>enterK H hok ha a6 b0 (.inr c3) _
  | round fn hb1 ht1 hsm ha hc=>
   cases h0;refine fin rfl (by simpa using a9 a8 (.inr rfl)) rfl rfl λ_=>.k ⟨?_,.cons a6 b0,rfl,rfl,rfl,rfl⟩;exact qau H ((H.same _).1 hsm).1 ((H.same _).1 hsm).2 hb1 ht1 ((H.codes _).1 ha) ((H.codes _).1 hc) _
  | defer hd=>
   cases h0;exact fin rfl (by simpa using a9 a8 (.inr rfl)) rfl rfl λ_=>.k ⟨qr.finish (f:={ f with defers:=_::f.defers }) (f':={ f' with defers:=_::f'.defers }) ⟨a6.fn,a6.same,a6.okf,a6.tmps,a6.todo,.cons hd a6.defers,a6.mode,a6.kind,a6.round⟩ (kz O),b0,rfl,rfl,rfl,rfl⟩
  | recover=>
   have hrf:P.follows .rangeFuncRecover=true:=by
    have:P.toTables.follows .rangeFuncRecover=Q.toTables.follows .rangeFuncRecover:=by rw[H.tables]
    exact this.trans H.rfr
   have key:∀{X X':Option (qgB × List qh4)},X=qhm f cs->X'=qhm f' cs' ->
     (match X with
      | some (v,callers)=>qpg { frame:=f.finish v,callers,status:=.running,dying:=none } b7
      | none=>.go { frame:=f.finish .nilIface,callers:=cs,status:=.running,dying:=none } b7)=.go gq' wq' e0 ->
     ∃O g'' w' es',qic (seen P f'.fn (if(f'.kind == CallKind.early)=true then #[] else a8)) (match X' with
      | some (v,callers)=>qpg { frame:=f'.finish v,callers,status:=.running,dying:=none } w2
      | none=>.go { frame:=f'.finish .nilIface,callers:=cs',status:=.running,dying:=none } w2)=.go g'' w' es'/\KG Q P O gq' g''/\WR Q base O wq' w'/\True/\Eff base Z O w w'/\(∀e∈es',kR base O e)/\True/\wq.drawn<=wq'.drawn:=by
    intro X X' hX d6 h0;rcases xQ a6 b0 with⟨t1,t2⟩ | ⟨v,v',k,k',t1,t2,hv,hks⟩
    ·rw[hX,t1] at h0;rw[d6,t2];cases h0;exact fin rfl (by simpa using a9 a8 (.inr rfl)) rfl rfl λ_=>.k ⟨a6.finish .nilIface,b0,rfl,rfl,rfl,rfl⟩
    ·rw[hX,t1] at h0;rw[d6,t2];cases h0;exact fin rfl (by simpa using a9 a8 (.inr rfl)) rfl rfl λ_=>.k ⟨a6.finish hv,hks,rfl,rfl,rfl,rfl⟩
   dsimp only at h0 ⊢;rcases a6.round with⟨r1,r2⟩ | ⟨i,j,r1,r2,_⟩
   ·rw[r1] at h0;rw[r2];exact key rfl rfl h0
   ·rw[r1] at h0;rw[r2];exact key (by simp[H.rfr]) (by simp[hrf]) h0
 | panic b7 w2 hv=>
  cases h0;exact fin rfl (by simpa using a9 a8 (.inr rfl)) rfl rfl λ_=>.k ⟨a6.raise (.cons ⟨hv,rfl,rfl⟩ .nil),b0,rfl,rfl,rfl,rfl⟩
end
end
section
section
variable[JunkSet]{Q P:qh2}{Z:Ren}{base D:Nat}{wq w:qgx}
def kF:Target->Bool
 | .nil=>true
 | _=>false
def kE:FrameMode->Bool
 | .panicking _=>true
 | _=>false
theorem q23(H:Duo Q P)(hb:base<=Z.length)(hw:WR Q base Z wq w)(hG:Gl P Z)(ht:zx D wq w){f f':qh4}(hf:qr Q P Z f f'){cs cs':List qh4}(hcs:LsR (qr Q P Z) cs cs')(d5:f.mode≠.run){d d':qiG}(hd:yT Z d d'):vd Q P base D Z wq w (qj0 Q f cs none d wq) (qj0 P f' cs' none d' w):=by
 intro gq' wq' esq a9 hD hst c8;have hs:SR Q P zQ (invoke d.target d.args) Z (invoke d'.target d'.args):=vG H.toPair hG hd;unfold qj0 at a9 ⊢;have c9:(kF d'.target && kE f'.mode)=(kF d.target && kE f.mode):=by
  have h2:=hf.mode;rcases hd with⟨h1,_⟩ | ⟨h1,_,n,c,h3⟩
  case bound=>rw[h1,h3];rfl
  generalize d.target=t at h1;generalize d'.target=t' at h1;generalize f.mode=m at h2;generalize f'.mode=m' at h2;cases h1<;>cases h2<;>rfl
 generalize invoke d.target d.args=s at hs a9;generalize invoke d'.target d'.args=s' at hs ⊢;change (if(kF d.target && kE f.mode)=true then _ else _)=_ at a9;show ∃O g' w' es,(if(kF d'.target && kE f'.mode)=true then _ else _)=qpg g' w' es/\_;by_cases hc:(kF d.target && kE f.mode)=true
 ·rw[if_pos hc] at a9;cases a9
 ·rw[if_neg hc] at a9;rw[if_neg (by rw[c9];exact hc)];simp only[qhA] at a9 ⊢;obtain⟨e0,h0,_⟩:=j3 a9;have b9:vX (s.run Q wq):=by
   cases hr:s.run Q wq with
   | ok a w1=>trivial
   | halt h w1=>
    rw[hr] at h0;cases h with
    | panic v=>rfl
    | goexit=>rfl
    | unsupported u=>cases u<;>first | rfl | (cases h0;done)
    | blocked=>cases h0;cases hst
    | waiting=>cases h0;cases hst
    | throw m=>simp only[qnc,dieOf,qkE] at h0;rw[<- h0.1] at c8;cases c8
    | fatal m=>exact absurd c8 (qY h0)
    | _=>(cases h0;done)
  have e6:(rwR (s.run Q wq)).drawn<=D:=by
   cases hr:s.run Q wq with
   | ok a w1=>
    rw[hr] at h0;have:w1=wq':=by
     cases a with
     | recover=>
      dsimp only at h0
      repeat' split at h0
      all_goals(cases h0;rfl)
     | coroswitch c e=>cases e<;>cases h0
     | alone on v=>cases on<;>cases h0
     | _=>first | (cases h0;rfl) | cases h0
    subst this;exact hD
   | halt h w1=>
    rcases hs.ends hb hw b9 with⟨a,u,e⟩ | ⟨v,u,e⟩
    ·rw[hr] at e;cases e
    ·rw[hr] at e;cases e;rw[hr] at h0;cases h0;exact hD
  obtain⟨O,b8,w2,b7,b6,hes,e5,d9,e8,d8,e9⟩:=SR.runs (es:=#[]) hs hb hw ht e6 b9;have hL:=d8.le;have e4:wq.drawn<=b8.drawn:=b6.world ▸ vJ Q s wq;have a7:LsR (qr Q P O) cs cs':=hcs.imp λ_ _ k=>k.mono hL;have a8:=hf.mono hL;have d6:s'.events P w #[]=b7:=by
   show(s'.runT P w #[]).2=b7;rw[hes];simp
  have a6:∀e∈seen P f'.fn b7,e∈b7:=λe he=>kC _ _ _ e he;have fin:∀{g g':qgC} {es:Array qiq} {r':qjo},r'=.go g' w2 es->(∀e∈es,e∈b7)->g=gq'->b8=wq'->(gq'.status=.running->KG Q P O g g') ->
    ∃O g'' w' es',r'=.go g'' w' es'/\KG Q P O gq' g''/\WR Q base O wq' w'/\True/\Eff base Z O w w'/\(∀e∈es',kR base O e)/\True/\wq.drawn<=wq'.drawn:=by
   intro g g' es r' e0 d7 e1 e2 hg;subst e1;subst e2;exact⟨O,g',w2,es,e0,hg hst,d9,trivial,d8,λe he=>e5 e (d7 e he),trivial,e4⟩
  rw[d6];generalize hr:s.run Q wq=r at h0 b6;generalize hr':s'.run P w=r' at b6;cases b6 with
  | ok b8 w2 hN=>
   cases hN with
   | value hv=>
    cases h0;exact fin rfl (by simpa using a6) rfl rfl λ_=>.k ⟨a8,a7,rfl,rfl,rfl,rfl⟩
   | skip=>
    cases h0;exact fin rfl (by simpa using a6) rfl rfl λ_=>.k ⟨a8,a7,rfl,rfl,rfl,rfl⟩
   | @enter fn a a' hok ha=>
    cases h0;exact fin rfl (by simpa using a6) rfl rfl λ_=>enterK H hok ha a8 a7 (.inl d5) _
   | round fn hb1 ht1 hsm ha hc=>
    cases h0;exact fin rfl (by simpa using a6) rfl rfl λ_=>.k ⟨qau H ((H.same _).1 hsm).1 ((H.same _).1 hsm).2 hb1 ht1 ((H.codes _).1 ha) ((H.codes _).1 hc) _,.cons a8 a7,rfl,rfl,rfl,rfl⟩
   | defer hd=>
    cases h0;exact fin rfl (by simpa using a6) rfl rfl λ_=>.k ⟨a8,a7,rfl,rfl,rfl,rfl⟩
   | recover=>
    have hm:=a8.mode;have c3:=xQ a8 a7;dsimp only at h0 ⊢;generalize qhm f cs=X at h0 c3;generalize qhm f' cs'=X' at c3 ⊢;generalize hmm:f.mode=m at h0 hm;generalize e7:f'.mode=m' at hm ⊢;have b0:qpg { frame:=f,callers:=cs,status:=.running,dying:=none } b8=.go gq' wq' e0->∀{r':qjo},r'=qic (seen P f'.fn b7) (.go { frame:=f',callers:=cs',status:=.running,dying:=none } w2) ->
      ∃O g'' w' es',r'=.go g'' w' es'/\KG Q P O gq' g''/\WR Q base O wq' w'/\True/\Eff base Z O w w'/\(∀e∈es',kR base O e)/\True/\wq.drawn<=wq'.drawn:=by
     intro h r' hr';cases h;exact fin hr' (by simpa using a6) rfl rfl λ_=>.k ⟨a8,a7,rfl,rfl,rfl,rfl⟩
    cases hm with
    | returning=>
     rcases c3 with⟨rfl,rfl⟩ | ⟨v,v',k,k',rfl,rfl,hv,hks⟩
     ·exact b0 h0 rfl
     ·cases h0;exact fin rfl (by simpa using a6) rfl rfl λ_=>.k ⟨a8,hks,rfl,rfl,rfl,rfl⟩
    | run=>exact b0 h0 rfl
    | panicking hl=>exact b0 h0 rfl
  | panic b8 w2 hv=>
   cases h0;exact fin rfl (by simpa using a6) rfl rfl λ_=>.k ⟨a8.raise (.cons ⟨hv,rfl,rfl⟩ .nil),a7,rfl,rfl,rfl,rfl⟩
theorem ZE{Y M:Type}{R:Rel Y M}(hb:base<=Z.length)(hw:WR Q base Z wq w)(ht:zx D wq w)(d9:wq.drawn<=D){s:Sem Y}{s':Sem M}(hs:SR Q P R s Z s')(b6:(rwR (s.run Q wq)).drawn=wq.drawn){K:qlg Y->qjo}{K':qlg M->qjo}{fn c8:qib}(hbad:∀h u g u' e,odd h=false->K (.halt h u)=.go g u' e->g.status=.running->g.dying=none->False)(hK:∀O r wq1 r' w1,q6q R O r wq1 r' w1->Le Z O->base<=O.length->WR Q base O wq1 w1->zx D wq1 w1->wq1.drawn<=D->vd Q P base D O wq1 w1 (K r) (K' r')) :vd Q P base D Z wq w (qic (seen Q fn (s.events Q wq #[])) (K (s.run Q wq))) (qic (seen P c8 (s'.events P w #[])) (K' (s'.run P w))):=by
 intro gq' wq' esq d7 hD hst c3;obtain⟨e0,h0,_⟩:=j3 d7;have a8:vX (s.run Q wq):=by
  cases hr:s.run Q wq with
  | ok a w1=>trivial
  | halt h w1=>
   rw[hr] at h0;cases ho:odd h with
   | true=>exact ho
   | false=>exact(hbad h w1 _ _ _ ho h0 hst c3).elim
 obtain⟨O,b0,w2,a9,a6,hes,d8,d5,d6,b9,e8⟩:=SR.runs (es:=#[]) hs hb hw ht (by rw[b6];exact d9) a8;have hL:=b9.le;have e6:b0.drawn=wq.drawn:=by rw[<- a6.world];exact b6
 have b8:s'.events P w #[]=a9:=by
  show(s'.runT P w #[]).2=a9;rw[hes];simp
 obtain⟨V,g',w',es',e1,hg,c9,e7,a7,b7,e5,e4⟩:=hK O _ b0 _ w2 a6 hL (qh0 hb hL.len) d5 d6 (by omega) gq' wq' e0 h0 hD hst c3;refine⟨V,g',w',seen P c8 a9++es',?_,hg,c9,trivial,b9.trans hb a7,?_,trivial,by omega⟩
 ·rw[b8,e1];rfl
 ·intro e he;rcases qkb.1 he with he | he
  ·exact(d8 e (kC _ _ _ e he)).mono a7.le
  ·exact b7 e he
theorem ZF(hw:WR Q base Z wq w)(ht:zx D wq w){f f':qh4}(hf:qr Q P Z f f'){cs cs':List qh4}(hcs:LsR (qr Q P Z) cs cs'){v v':qgB}(hv:VR Z v v')(b:Bool) :vd Q P base D Z wq w (qj5 Q true f cs none v wq) (qj5 P b f' cs' none v' w):=by
 cases hcs with
 | nil=>
  intro gq' wq' esq a7 hD hst a8;unfold qj5 at a7;simp only[hf.okf] at a7;cases hk:f.kind<;>rw[hk] at a7<;>cases a7
 | @cons c c' cs cs' hc hcs=>
  unfold qj5;dsimp only;rw[hf.kind];have plain:vd Q P base D Z wq w (.go { frame:=c.finish v,callers:=cs,status:=.running,dying:=none } wq) (.go { frame:=c'.finish v',callers:=cs',status:=.running,dying:=none } w) :=
   zd hw ht λ_ _=>⟨hc.finish hv,hcs,rfl,rfl,rfl,rfl⟩
  cases f.kind with
  | normal=>exact plain
  | wrapped=>exact plain
  | early=>exact zd hw ht λ_ _=>⟨hc,hcs,rfl,rfl,rfl,rfl⟩
  | deferred=>
   refine zd hw ht λ_ _=>⟨?_,hcs,rfl,rfl,rfl,rfl⟩;dsimp only;have hm:=hc.mode;have a6:∀{l l':List qlG},LsR (J0 Z) l l'->LsR (J0 Z) (l.dropWhile (!·.goexit)) (l'.dropWhile (!·.goexit)):=by
    intro l l' h;induction h with
    | nil=>exact .nil
    | @cons p p' l l' hp hl ih=>
     simp only[qpu];rw[hp.goexit];split
     ·exact ih
     ·exact .cons hp hl
   cases hmc:c.mode with
   | run=>rw[hmc] at hm;cases hm':c'.mode<;>rw[hm'] at hm<;>cases hm;exact hc
   | returning=>rw[hmc] at hm;cases hm':c'.mode<;>rw[hm'] at hm<;>cases hm;exact hc
   | panicking l=>
    rw[hmc] at hm;cases hm':c'.mode with
    | run=>rw[hm'] at hm;cases hm
    | returning=>rw[hm'] at hm;cases hm
    | panicking l'=>
     rw[hm'] at hm;cases hm with
     | panicking hl=>
      cases hl with
      | nil=>exact hc
      | @cons p p' l l' hp hl=>
       obtain⟨v,r,g⟩:=p;obtain⟨v',r',g'⟩:=p';obtain⟨h1,h2,h3⟩:=hp;dsimp only at h1 h2 h3;subst h2;cases r' with
       | false=>exact hc
       | true=>
        dsimp only;have:=a6 hl;generalize l.dropWhile (!·.goexit)=k at this;generalize l'.dropWhile (!·.goexit)=k' at this;cases this with
        | nil=>exact⟨hc.fn,hc.same,hc.okf,hc.tmps,hc.todo,hc.defers,.returning,hc.kind,hc.round⟩
        | cons hp hl=>exact⟨hc.fn,hc.same,hc.okf,hc.tmps,hc.todo,hc.defers,.panicking (.cons hp hl),hc.kind,hc.round⟩
  | report=>
   refine zd hw ht λ_ _=>⟨?_,hcs,rfl,rfl,rfl,rfl⟩;dsimp only;have hm:=hc.mode;have a6:∀{l l':List qlG},LsR (J0 Z) l l'->LsR (J0 Z) (l.dropWhile (!·.goexit)) (l'.dropWhile (!·.goexit)):=by
    intro l l' h;induction h with
    | nil=>exact .nil
    | @cons p p' l l' hp hl ih=>
     simp only[qpu];rw[hp.goexit];split
     ·exact ih
     ·exact .cons hp hl
   cases hmc:c.mode with
   | run=>rw[hmc] at hm;cases hm':c'.mode<;>rw[hm'] at hm<;>cases hm;exact hc
   | returning=>rw[hmc] at hm;cases hm':c'.mode<;>rw[hm'] at hm<;>cases hm;exact hc
   | panicking l=>
    rw[hmc] at hm;cases hm':c'.mode with
    | run=>rw[hm'] at hm;cases hm
    | returning=>rw[hm'] at hm;cases hm
    | panicking l'=>
     rw[hm'] at hm;cases hm with
     | panicking hl=>
      cases hl with
      | nil=>exact hc
      | @cons p p' l l' hp hl=>
       obtain⟨v,r,g⟩:=p;obtain⟨v',r',g'⟩:=p';obtain⟨h1,h2,h3⟩:=hp;dsimp only at h1 h2 h3;subst h2;cases r' with
       | false=>exact hc
       | true=>
        dsimp only;have:=a6 hl;generalize l.dropWhile (!·.goexit)=k at this;generalize l'.dropWhile (!·.goexit)=k' at this;cases this with
        | nil=>exact⟨hc.fn,hc.same,hc.okf,hc.tmps,hc.todo,hc.defers,.returning,hc.kind,hc.round⟩
        | cons hp hl=>exact⟨hc.fn,hc.same,hc.okf,hc.tmps,hc.todo,hc.defers,.panicking (.cons hp hl),hc.kind,hc.round⟩
theorem Za(H:Duo Q P)(hG:Gl P Z)(fn:Func){t t':Array qgB}(h:AsR Z t t'):SR Q P VR (qjb fn t) Z (qjb fn t'):=by
 unfold qjb;refine .bnd (R:=AsR) ?_ λO a b l hab=>?_
 ·rw[qkx,qkx];have a6:∀(rs:List ResultVar) (O:Ren),Le Z O->SR Q P (λV=>LsR (VR V)) (rs.mapM fun
    | .tmp x=>pure (t.getD x qgD)
    | .cell a ty=>do qqb ty (<- qqt (t.getD a qgD))) O (rs.mapM fun
    | .tmp x=>pure (t'.getD x qgD)
    | .cell a ty=>do qqb ty (<- qqt (t'.getD a qgD))):=by
   intro rs;induction rs with
   | nil=>intro O l;exact qd .nil
   | cons r rs ih=>
    intro O l;rw[qn9,qn9];refine .bnd (R:=VR) ?_ λV x y l' hxy=>.bnd (ih V (l.trans l')) λU a b l2 hab=>qd (.cons (hxy.mono l2) hab);cases r with
    | tmp x=>exact qd ((h.mono l).getD x (kz O))
    | cell a ty=>exact .bnd (q0B H.tables (hG.mono l) ((h.mono l).getD a (kz O))) λU x y _ hxy=>by obtain⟨i,j,o,s,rfl,rfl,hb⟩:=hxy;exact YE H.tables hb
  exact SR.bnd (S:=AsR) (f:=λl=>pure l.toArray) (f':=λl=>pure l.toArray) (a6 fn.results.toList Z (.refl Z)) λO a b l hab=>qd (ze.2 (by simpa using hab))
 ·refine qd ?_;have hs:=hab.1;split
  ·rename_i h1
   rw[dif_pos (by omega)];exact hab.2 0 _ _ (qhi _) (qhi _)
  ·rename_i h1
   rw[dif_neg (by omega)];exact hab.tuple
def Dry{Y:Type}:Sem Y->Prop
 | .pure _=>True
 | .load _ _ k=>∀v,Dry (k v)
 | .store _ _ _ k=>Dry k
 | .new _ k=>∀r,Dry (k r)
 | .shape _ k=>∀x,Dry (k x)
 | .freeze _ _ k=>Dry k
 | .frozen _ k=>∀b,Dry (k b)
 | .getObj _ k=>∀o,Dry (k o)
 | .setObj _ _ k=>Dry k
 | .choose _ _=>False
 | .sys _ _=>False
 | .program k=>∀p,Dry (k p)
 | .mark _ k=>Dry k
 | .halt _=>True
theorem Dry.bind{Y W:Type}{s:Sem Y}{f:Y->Sem W}(h:Dry s)(hf:∀a,Dry (f a)):Dry (s>>=f):=by
 show Dry (s.bind f);induction s with
 | pure a=>exact hf a
 | load m a k ih=>exact λv=>ih v (h v)
 | store m a v k ih=>exact ih h
 | new o k ih=>exact λv=>ih v (h v)
 | shape r k ih=>exact λv=>ih v (h v)
 | freeze a n k ih=>exact ih h
 | frozen a k ih=>exact λv=>ih v (h v)
 | getObj r k ih=>exact λv=>ih v (h v)
 | setObj r o k ih=>exact ih h
 | choose q k ih=>exact h.elim
 | sys c k ih=>exact h.elim
 | program k ih=>exact λp=>ih p (h p)
 | mark m k ih=>exact ih h
 | halt x=>trivial
theorem Dry.run{Y:Type}(p:qh2){s:Sem Y}:∀{w:qgx},Dry s->(rwR (s.run p w)).drawn=w.drawn:=by
 induction s with
 | pure a=>intro w h;rfl
 | load m a k ih=>
  intro w h;simp only[qih];split
  ·exact ih _ (h _)
  ·split
   ·exact ih _ (h _)
   ·rfl
 | store m a v k ih=>
  intro w h;have key:(rwR (match w.cell? a with
     | some _=>if w.frozen? a then(.halt (.unsupported (.unsafePointer "a write to bytes that a string shares")) w:qlg Y) else k.run p (w.setCell a v)
     | none=>match w.farStore p a v (m == .atomic) with
      | .ok (w,_)=>k.run p w
      | .error h=>.halt h w)).drawn=w.drawn:=by
   split
   ·split
    ·rfl
    ·exact ih (w:=w.setCell a v) h
   ·split
    ·rename_i w' t e
     rw[ih h];unfold qme at e;split at e
     ·split at e
      ·rename_i r hr
       cases e;exact xD _ _ _ _ _ _ _ hr
      ·cases e
     ·cases e
    ·rfl
  cases v<;>first | exact key | rfl
 | new o k ih=>intro w h;exact ih _ (w:={ w with heap:=w.heap.push o }) (h _)
 | shape r k ih=>intro w h;exact ih _ (h _)
 | freeze a n k ih=>
  intro w h;refine(ih (w:=w.freeze a n) h).trans ?_;unfold qqa;split<;>rfl
 | frozen a k ih=>intro w h;exact ih _ (h _)
 | getObj r k ih=>
  intro w h;simp only[qih];cases ho:w.heap[r]? with
  | none=>rfl
  | some o=>cases o<;>first | exact ih _ (h _) | rfl
 | setObj r o k ih=>
  intro w h;simp only[qih];cases ho:w.heap[r]? with
  | none=>rfl
  | some ob=>cases ob<;>first | exact ih (w:={ w with heap:=w.heap.setIfInBounds r o }) h | rfl
 | choose q k ih=>intro w h;exact h.elim
 | sys c k ih=>intro w h;exact h.elim
 | program k ih=>intro w h;exact ih _ (h _)
 | mark m k ih=>intro w h;exact ih h
 | halt x=>intro w h;rfl
end
end
section
section
variable[JunkSet]{Q P:qh2}{Z:Ren}{base D:Nat}{wq w:qgx}
theorem Ko(t:qh8):Dry (qkf t):=λp=>by
 show Dry (match p.underlying t with | some d=>pure d | none=>stuck "no such type");split<;>trivial
theorem q2o(t:qh8):Dry (qkA t):=λp=>by
 show Dry (match p.info? t with | some d=>pure d | none=>stuck "no such type");split<;>trivial
theorem ZV(a:qi5):∀(n i:Nat) (a6:Array qgB),Dry (qnw a i n a6):=by
 intro n;induction n with
 | zero=>intro i a6;trivial
 | succ n ih=>intro i a6;exact λv=>ih _ _
theorem q4s(t:qh8)(a:qi5):Dry (qqb t a):=by
 refine Dry.bind (Dry.bind (Ko t) λd=>?_) λb=>?_
 ·split<;>trivial
 ·split
  ·exact Dry.bind (Dry.bind (q2o t) λi=>trivial) λn=>Dry.bind (ZV _ _ _ _) λ_=>trivial
  ·exact λv=>trivial
theorem q6f(v:qgB):Dry (qqt v):=by
 unfold qqt;split
 ·trivial
 ·exact λp=>trivial
 ·trivial
theorem JN(fn:Func)(t:Array qgB):Dry (qjb fn t):=by
 unfold qjb;refine Dry.bind ?_ λvs=>trivial;rw[qkx];have a6:∀rs:List ResultVar,Dry (rs.mapM fun
    | .tmp x=>pure (t.getD x qgD)
    | .cell a ty=>do qqb ty (<- qqt (t.getD a qgD))):=by
  intro rs;induction rs with
  | nil=>trivial
  | cons r rs ih=>
   rw[qn9];refine Dry.bind ?_ λv=>Dry.bind ih λvs=>trivial;cases r with
   | tmp x=>trivial
   | cell a ty=>exact Dry.bind (q6f _) λa=>q4s _ _
 exact Dry.bind (f:=λl=>pure l.toArray) (a6 _) λl=>trivial
theorem Qj(l:Nat):Dry (qpC l):=λo=>by cases o<;>trivial
theorem qby(b:Nat):Dry (qod b):=λo=>by
 cases o with
 | deferred c=>cases c<;>trivial
 | _=>trivial
theorem q2p(l:Nat)(j:Option qje):Dry (qjG l j):=Dry.bind (Qj l) λr=>trivial
theorem q4t(l:Nat):Dry (qpD l):=Dry.bind (Qj l) λr=>by
 dsimp only;split
 ·exact Dry.bind (s:=qkm _) (λp=>trivial) λ_=>trivial
 ·trivial
theorem q06(f:qib)(t:Array qgB)(ps:Array Tmp)(a b:qje)(r:Option Nat):Dry (qmB f t ps a b r):=by
 unfold qmB;cases r with
 | none=>exact λ_ _=>trivial
 | some l=>exact Dry.bind (Qj l) λr _=>trivial
theorem q6A{i j:Nat}(h:BR Z i j):SR Q P (λO=>LsR (yT O)) (qod i) Z (qod j):=by
 refine .bnd (jJ h) λO o o' l ho=>?_;cases ho with
 | deferred hl=>exact .bnd (jI (h.mono l) .deferredNone) λV _ _ l' _=>qd (hl.imp λ_ _ k=>k.mono l')
 | _=>exact qh
theorem Jv{i j:Nat}(h:BR Z i j){c:Option qje}(hc:∀x,c=some x->JunkSet.okc x):SR Q P VR (qjG i c) Z (qjG j c):=by
 refine .bnd (yu h) λO r r' l hr=>.bnd (jI (h.mono l) (.loop ?_)) λV _ _ _ _=>qd (.bool _);exact⟨rfl,rfl,hr.fn,hr.tmps,hr.params,hr.assign,hr.body,hr.defers,hr.okF,hr.okA,hr.okB,hc⟩
theorem QN(H:Duo Q P)(hG:Gl P Z){i j:Nat}(h:BR Z i j):SR Q P (λ_ _ _=>True) (qow i) Z (qow j):=by
 refine .bnd (yu h) λO r r' l hr=>.bnd (jI (h.mono l) (.loop ⟨rfl,hr.pending,hr.fn,hr.tmps,hr.params,hr.assign,hr.body,hr.defers,hr.okF,hr.okA,hr.okB,hr.okP⟩)) λV _ _ l' _=>?_;rw[hr.state];cases r.state with
 | ready=>exact qd trivial
 | _=>exact qw H.tables (hG.mono (l.trans l')) _
theorem YJ(H:Duo Q P)(hG:Gl P Z){i j:Nat}(h:BR Z i j):SR Q P (λ_ a b=>b=a/\∀x,a=some x->JunkSet.okc x) (qpD i) Z (qpD j):=by
 refine .bnd (yu h) λO r r' l hr=>?_;dsimp only;rw[hr.state];refine qC (λ_=>.bnd (R:=λ_ _ _=>False) (qw H.tables (hG.mono l) _) λ_ _ _ _ hf=>hf.elim) λ_=>?_;refine .bnd (jI (h.mono l) (.loop ⟨rfl,hr.pending,hr.fn,hr.tmps,hr.params,hr.assign,hr.body,hr.defers,hr.okF,hr.okA,hr.okB,hr.okP⟩)) λV _ _ l' _=>?_;exact qd ⟨hr.pending,hr.okP⟩
theorem ZB(f:qib)(hf:JunkSet.okg f){t t':Array qgB}(ht:AsR Z t t')(ps:Array Tmp){a b:qje}(ha:JunkSet.okc a)(hb:JunkSet.okc b){r r':Option Nat}(hr:OBR Z r r') :SR Q P (λO x y=>BR O x.1 y.1/\LsR (yT O) x.2 y.2) (qmB f t ps a b r) Z (qmB f t' ps a b r'):=by
 unfold qmB;have fin:∀(O:Ren) {d d':Nat} {m m':List qiG},Le Z O->BR O d d'->LsR (yT O) m m'->SR Q P (λO (x y:Nat × List qiG)=>BR O x.1 y.1/\LsR (yT O) x.2 y.2)
   (do pure (<- newObj (.loop { state:=.ready,pending:=none,fn:=f,tmps:=t,params:=ps,assign:=a,body:=b,defers:=d }),m)) O
   (do pure (<- newObj (.loop { state:=.ready,pending:=none,fn:=f,tmps:=t',params:=ps,assign:=a,body:=b,defers:=d' }),m')):=λO d d' m m' l hd hm=>
  .bnd (YC (.loop ⟨rfl,rfl,rfl,ht.mono l,rfl,rfl,rfl,hd,hf,ha,hb,λx h=>by cases h⟩)) λV i j l' hij=>qd ⟨hij,hm.imp λ_ _ k=>k.mono l'⟩
 rcases hr with⟨rfl,rfl⟩ | ⟨i,j,rfl,rfl,hb⟩
 ·exact .bnd (YC (.deferred .nil)) λO i j l hij=>fin O l hij (.cons (.mk (.collected hij) .nil) .nil)
 ·exact .bnd (yu hb) λO x y l hxy=>fin O l hxy.defers .nil
end
end
section
section
variable[JunkSet]{Q P:qh2}{Z:Ren}{base D:Nat}{wq w:qgx}
theorem YK(H:Duo Q P)(hb:base<=Z.length)(hw:WR Q base Z wq w)(hG:Gl P Z)(ht:zx D wq w)(c3:wq.drawn<=D){f f':qh4}(hf:qr Q P Z f f'){cs cs':List qh4}(hcs:LsR (qr Q P Z) cs cs')(b6:f.mode≠.run)(b:Bool) :vd Q P base D Z wq w (qlm Q true f cs none wq) (qlm P b f' cs' none w):=by
 have hfd:=hf.defers;unfold qlm;generalize d7:f.defers=ds at hfd;generalize d6:f'.defers=ds' at hfd;cases hfd with
 | @cons d d' ds ds' hd hds=>
  obtain⟨t,a⟩:=d;obtain⟨t',a'⟩:=d';have c8:qr Q P Z { f with defers:=ds } { f' with defers:=ds' }:=⟨hf.fn,hf.same,hf.okf,hf.tmps,hf.todo,hds,hf.mode,hf.kind,hf.round⟩;have plain:vd Q P base D Z wq w (qj0 Q { f with defers:=ds } cs none ⟨t,a⟩ wq) (qj0 P { f' with defers:=ds' } cs' none ⟨t',a'⟩ w) :=
   q23 H hb hw hG ht c8 hcs b6 hd
  rcases id hd with⟨b0,_⟩ | ⟨h1,_,n,c,h3⟩
  case bound=>
   dsimp only at h1 h3;subst h1;subst h3;exact plain
  dsimp only at b0;cases b0 with
  | @collected i j hij=>
   dsimp only;simp only[qhA];refine ZE hb hw ht c3 (q6A hij) (Dry.run Q (qby i)) (K:=λr=>match r with
    | .ok calls w=>.go { frame:={ f with defers:=calls++ds },callers:=cs,status:=.running,dying:=none } w
    | .halt _ w=>.ended (.stuck "the deferred calls of a range-over-func loop have been taken" (f.pos Q)) w) (K':=λr=>match r with
    | .ok calls w=>.go { frame:={ f' with defers:=calls++ds' },callers:=cs',status:=.running,dying:=none } w
    | .halt _ w=>.ended (.stuck "the deferred calls of a range-over-func loop have been taken" (f'.pos P)) w) (λh u g u' e _ hk _ _=>by cases hk) ?_
   intro O r wq1 r' w1 hr l hb1 a8 ht1 _;cases hr with
   | ok wq1 w1 hcl=>
    have a6:=hf.mono l;exact zd a8 ht1 λ_ _=>⟨⟨a6.fn,a6.same,a6.okf,a6.tmps,a6.todo,hcl.append (hds.imp λ_ _ k=>k.mono l),a6.mode,a6.kind,a6.round⟩,hcs.imp λ_ _ k=>k.mono l,rfl,rfl,rfl,rfl⟩
   | panic wq1 w1 hv=>exact zz
  | fn h1 h2=>exact plain
  | meth n h=>exact plain
  | nil=>exact plain
  | builtin x y z c h=>exact plain
 | nil=>
  dsimp only;have hm:=hf.mode;obtain⟨gf,b7,b8⟩:=hf.same;generalize hmm:f.mode=m at hm;generalize d5:f'.mode=m' at hm;cases hm with
  | run=>exact zz
  | panicking hl=>
   dsimp only;have b9:f.catches Q=false:=by unfold qoq;rw[b7]
   have a9:f'.catches P=false:=by unfold qoq;rw[hf.fn,b8]
   rw[b9,a9];simp only[qhy,if_false];cases hcs with
   | cons hc hcs=>exact zd hw ht λ_ _=>⟨hc.raise hl,hcs,rfl,rfl,rfl,rfl⟩
   | nil=>
    intro gq' wq' esq a7 hD hst c9;exfalso;dsimp only at a7
    repeat' split at a7
    all_goals first
     | (cases a7;done)
     | (cases a7;cases hst;done)
     | (cases a7;cases c9;done)
  | returning=>
   dsimp only;rw[hf.fn,b7,b8];dsimp only;simp only[qhA];refine ZE hb hw ht c3 (Za H hG gf hf.tmps) (Dry.run Q (JN gf _)) (K:=λr=>match r with
    | .ok v w=>qj5 Q true f cs none v w
    | .halt (.stuck s) w=>.ended (.stuck s (f.pos Q)) w
    | .halt _ w=>.ended (.stuck "return: the result variables cannot be read" (f.pos Q)) w) (K':=λr=>match r with
    | .ok v w=>qj5 P b f' cs' none v w
    | .halt (.stuck s) w=>.ended (.stuck s (f'.pos P)) w
    | .halt _ w=>.ended (.stuck "return: the result variables cannot be read" (f'.pos P)) w) (λh u g u' e _ hk _ _=>by cases h<;>cases hk) ?_
   intro O r wq1 r' w1 hr l hb1 a8 ht1 _;cases hr with
   | ok wq1 w1 hv=>exact ZF a8 ht1 (hf.mono l) (hcs.imp λ_ _ k=>k.mono l) hv b
   | panic wq1 w1 hv=>exact zz
def K9:Option qje->Bool
 | none | some .ret=>true
 | _=>false
theorem Qs(H:Duo Q P)(hb:base<=Z.length)(hw:WR Q base Z wq w)(ht:zx D wq w)(a7:wq.drawn<=D){f f':qh4}(hf:qr Q P Z f f'){cs cs':List qh4}(hcs:LsR (qr Q P Z) cs cs')(b:Bool){j:Option qje}(hj:∀x,j=some x->qy Q x){s s':String} :
  vd Q P base D Z wq w (match f.roundOf with
   | none=>if K9 j=true then .go { frame:={ f with mode:=.returning },callers:=cs,status:=.running,dying:=none } wq else .ended (.stuck s (f.pos Q)) wq
   | some l=>
    let (r,es):=(qjG l j).runT Q wq #[]
    qic (seen Q f.fn es) <| match r with
    | .ok v w=>qj5 Q true f cs none v w
    | .halt _ w=>.ended (.stuck s' (f.pos Q)) w) (match f'.roundOf with
   | none=>if K9 j=true then .go { frame:={ f' with mode:=.returning },callers:=cs',status:=.running,dying:=none } w else .ended (.stuck s (f'.pos P)) w
   | some l=>
    let (r,es):=(qjG l j).runT P w #[]
    qic (seen P f'.fn es) <| match r with
    | .ok v w=>qj5 P b f' cs' none v w
    | .halt _ w=>.ended (.stuck s' (f'.pos P)) w):=by
 rcases hf.round with⟨r1,r2⟩ | ⟨i,k,r1,r2,hik⟩
 ·rw[r1,r2];dsimp only;by_cases hc:K9 j=true
  ·rw[if_pos hc,if_pos hc];exact zd hw ht λ_ _=>⟨⟨hf.fn,hf.same,hf.okf,hf.tmps,hf.todo,hf.defers,.returning,hf.kind,.inl ⟨rfl,rfl⟩⟩,hcs,rfl,rfl,rfl,rfl⟩
  ·rw[if_neg hc,if_neg hc];exact zz
 ·rw[r1,r2];dsimp only;simp only[qhA];refine ZE hb hw ht a7 (Jv hik λx hx=>(H.codes x).2 (hj x hx)) (Dry.run Q (q2p i j)) (K:=λr=>match r with
    | .ok v w=>qj5 Q true f cs none v w
    | .halt _ w=>.ended (.stuck s' (f.pos Q)) w) (K':=λr=>match r with
    | .ok v w=>qj5 P b f' cs' none v w
    | .halt _ w=>.ended (.stuck s' (f'.pos P)) w) (λh u g u' e _ hk _ _=>by cases hk) ?_
  intro O r wq1 r' w1 hr l hb1 a6 ht1 _;cases hr with
  | ok wq1 w1 hv=>exact ZF a6 ht1 (hf.mono l) (hcs.imp λ_ _ k=>k.mono l) hv b
  | panic wq1 w1 hv=>exact zz
theorem qr.withTodo{f f':qh4}(hf:qr Q P Z f f'){k k':List qkD}(hk:LsR (zh Q Z) k k'):qr Q P Z { f with todo:=k } { f' with todo:=k' } :=
 ⟨hf.fn,hf.same,hf.okf,hf.tmps,hk,hf.defers,hf.mode,hf.kind,hf.round⟩
theorem xE{i j:Nat}(h:BR Z i j){d d':qiG}(hd:yT Z d d'):SR Q P (λ_ _ _=>True) (qq4 i d) Z (qq4 j d'):=by
 refine .bnd (yu h) λO r r' l hr=>?_;refine .bnd (jJ hr.defers) λV o o' l' ho=>?_;cases ho with
 | deferred hl=>exact(jI (hr.defers.mono l') (.deferred (.cons (hd.mono (l.trans l')) hl))).imp λ_ _ _ _ _=>trivial
 | deferredNone=>exact qa7
 | _=>exact qh
theorem Jf(p:qh2)(u:qgx)(f i:Nat):(choose (.order f i)).run p u=.ok (u.tape u.drawn (.order f i)) { u with drawn:=u.drawn+1 }:=rfl
theorem qam(H:Duo Q P)(hb:base<=Z.length)(hw:WR Q base Z wq w)(hG:Gl P Z)(ht:zx D wq w)(b9:wq.drawn<=D){f f':qh4}(hf:qr Q P Z f f'){cs cs':List qh4}(hcs:LsR (qr Q P Z) cs cs')(b:Bool) :vd Q P base D Z wq w (qk8 Q true true f cs none wq) (qk8 P b true f' cs' none w):=by
 obtain⟨fn,tmps,todo,defers,mode,kind,ro⟩:=f;obtain⟨b0,a7,d6,a6,a8,a9,b8⟩:=f';have e5:=hf.todo;have c9:∀x,qF Q x->VR Z (qlv ⟨fn,tmps,todo,defers,mode,kind,ro⟩ x) (qlv ⟨b0,a7,d6,a6,a8,a9,b8⟩ x):=λx hx=>hf.eval hG H.gsize hx;have b6:∀{k k':List qkD},LsR (zh Q Z) k k'->vd Q P base D Z wq w (.go { frame:=⟨fn,tmps,k,defers,mode,kind,ro⟩,callers:=cs,status:=.running,dying:=none } wq) (.go { frame:=⟨b0,a7,k',a6,a8,a9,b8⟩,callers:=cs',status:=.running,dying:=none } w) :=
  λhk=>zd hw ht λ_ _=>⟨hf.withTodo hk,hcs,rfl,rfl,rfl,rfl⟩
 unfold qk8;dsimp only;dsimp only at e5;cases e5 with
 | nil=>exact Qs H hb hw ht b9 hf hcs b (j:=none) (λx h=>by cases h)
 | @cons x x' k k' hx hk=>
  cases hx with
  | @code c hc=>
   cases hc with
   | skip=>exact b6 hk
   | label n=>exact b6 hk
   | ret=>exact Qs H hb hw ht b9 hf hcs b (j:=some .ret) (λx h=>by cases h;exact .ret)
   | seq h1 h2=>exact b6 (.cons (.code h1) (.cons (.code h2) hk))
   | @cond c x y h0 h1 h2=>
    dsimp only;have:=c9 _ h0;revert this;generalize qlv _ c=v;generalize qlv _ c=v';intro this;cases this with
    | bool t=>cases t<;>exact b6 (.cons (.code (by assumption)) hk)
    | _=>exact zz
   | block h=>exact b6 (.cons (.code h) (.cons (.inBlock _) hk))
   | loop h=>exact b6 (.cons (.code h) (.cons (.inLoop h) hk))
   | scope h=>exact b6 (.cons (.code h) (.cons (.inScope h) hk))
   | exit id=>
    dsimp only;rcases q6c (id:=id) hk with⟨e1,e2⟩ | ⟨m,m',e1,e2,hm⟩
    ·rw[e1,e2];exact Qs H hb hw ht b9 hf hcs b (j:=some (.exit id)) (λx h=>by cases h;exact .exit id)
    ·rw[e1,e2];exact b6 hm
   | goto n=>
    dsimp only;rcases q67 (j:=n) hk with⟨e1,e2⟩ | ⟨m,m',e1,e2,hm⟩
    ·rw[e1,e2];exact Qs H hb hw ht b9 hf hcs b (j:=some (.goto n)) (λx h=>by cases h;exact .goto n)
    ·rw[e1,e2];exact b6 hm
   | @region id ops d hops=>
    dsimp only;cases d with
    | false=>exact b6 (.cons (.inRegion _ hops) hk)
    | true=>
     simp only[qmx,qhy,if_false];rw[Jf,Jf];dsimp only;intro gq' wq' esq e hD hst g6;cases e;have hfn:=hf.fn;dsimp only at hfn hD;subst hfn;have d8:=ht 0 (.order b0 id) (by omega);simp only[Nat.add_zero] at d8;have e8:P.follows .mixedOrders=Q.follows .mixedOrders:=by
      show P.toTables.follows .mixedOrders=Q.toTables.follows .mixedOrders;rw[H.tables]
     obtain⟨e7,g5⟩:=hw.draw;refine⟨Z,_,_,#[],rfl,.k ⟨?_,hcs,rfl,rfl,rfl,rfl⟩,e7,trivial,g5,by simp,trivial,by simp only;omega⟩;rw[e8,d8];exact hf.withTodo (.cons (.inRegion _ hops) hk)
   | @rangeFunc c ps a bd h0 h1 h2=>
    have hfn:=hf.fn;dsimp only at hfn ⊢;subst hfn;simp only[qhA];refine ZE hb hw ht b9 (ZB (Q:=Q) (P:=P) b0 ((H.same b0).2 ⟨hf.same,hf.okf⟩) hf.tmps ps ((H.codes a).2 h1) ((H.codes bd).2 h2) hf.round) (Dry.run Q (q06 b0 tmps ps a bd ro)) (K:=λr=>match r with
     | .ok (l,mark) w=>qil Q true ⟨b0,tmps,.inRangeFunc l::k,mark++defers,mode,kind,ro⟩ cs none (do let d <- resolve (qlv ⟨b0,tmps,.inRangeFunc l::k,mark++defers,mode,kind,ro⟩) { callee:=.value c,args:=#[.const (.func (.yield l) #[] #[])],argTypes:=#[] } 0;invoke d.target d.args) w
     | .halt _ w=>.ended (.stuck "range over a function: no such loop" (qqz Q ⟨b0,tmps,.code (.rangeFunc c ps a bd)::k,defers,mode,kind,ro⟩)) w) (K':=λr=>match r with
     | .ok (l,mark) w=>qil P true ⟨b0,a7,.inRangeFunc l::k',mark++a6,a8,a9,b8⟩ cs' none (do let d <- resolve (qlv ⟨b0,a7,.inRangeFunc l::k',mark++a6,a8,a9,b8⟩) { callee:=.value c,args:=#[.const (.func (.yield l) #[] #[])],argTypes:=#[] } 0;invoke d.target d.args) w
     | .halt _ w=>.ended (.stuck "range over a function: no such loop" (qqz P ⟨b0,a7,.code (.rangeFunc c ps a bd)::k',a6,a8,a9,b8⟩)) w) (λh u g u' e ho hk _ _=>by cases hk) ?_
    intro O r wq1 r' w1 hr l hb1 c8 ht1 _;cases hr with
    | panic wq1 w1 hv=>exact zz
    | @ok x y wq1 w1 hv=>
     obtain⟨i,m⟩:=x;obtain⟨i',m'⟩:=y;obtain⟨hbr,hm⟩:=hv;dsimp only at hbr hm ⊢;have b7:=hf.mono l;have e9:qr Q P O ⟨b0,tmps,.inRangeFunc i::k,m++defers,mode,kind,ro⟩ ⟨b0,a7,.inRangeFunc i'::k',m'++a6,a8,a9,b8⟩ :=
      ⟨b7.fn,b7.same,b7.okf,b7.tmps,.cons (.inRangeFunc hbr) (hk.imp λ_ _ k=>k.mono l),hm.append b7.defers,b7.mode,b7.kind,b7.round⟩
     refine Qt H hb1 c8 ht1 e9 (hcs.imp λ_ _ k=>k.mono l) (by intro x l h;cases h) (SR.sm ?_);have hy:AsR O #[Value.func (Fn.yield i) #[] #[]] #[Value.func (Fn.yield i') #[] #[]] :=
      AsR.one (.func (a:=#[]) (a':=#[]) (c:=#[]) (c':=#[]) (.yield hbr) rfl (λi x y hx=>by simp at hx) rfl (λi x y hx=>by simp at hx))
     have d9:∀(e:qhE->qgB) (v:qgB),#[Operand.const v].map e=#[e (.const v)]:=λe v=>by simp
     refine .bnd (R:=yT) (Zb H.toPair ((c9 _ h0).mono l) (by rw[d9,d9];exact hy)) λV d d' l' hd=>vG H.toPair (hG.mono (l.trans l')) hd
  | inBlock id=>exact b6 hk
  | inScope h=>exact b6 hk
  | inLoop h=>exact b6 (.cons (.code h) (.cons (.inLoop h) hk))
  | @inRegion ops l hops=>
   cases l with
   | nil=>exact b6 hk
   | cons i l=>
    dsimp only;have e6:qj4 ops a7=qj4 ops tmps:=funext λj=>q54 ops hf.tmps j;rw[e6];by_cases hc:((ops[i]?).map (qhv · (qj4 ops tmps))).getD false=true
    ·rw[if_pos hc,if_pos hc];unfold qnq Frame.oper?;dsimp only;cases ho:ops[i]? with
     | none=>exact zz
     | some o=>
      dsimp only;have hok:=hops o (by rw[qjm];exact qiE ho);have plain:=Qt H hb hw ht hf hcs (by intro x l h;cases h) (q0D H.toPair c9 hG hw.nodup (λv=>rfl) hok);rcases hf.round with⟨r1,r2⟩ | ⟨a,b',r1,r2,hij⟩
      ·dsimp only at r1 r2;subst r1;subst r2;exact plain
      ·dsimp only at r1 r2;subst r1;subst r2;by_cases c3:∃c,o.op=.defer c
       ·obtain⟨c,c3⟩:=c3;rw[c3] at hok ⊢;dsimp only;refine Qt H hb hw ht hf hcs (by intro x l h;cases h) (SR.sm ?_);cases hok with
        | defer hcall=>
         exact .bnd (xd H.toPair c9 hcall _) λO d d' l hd=>.bnd (xE (hij.mono l) hd) λV _ _ _ _=>qd .skip
       ·split
        ·rename_i e1 e2
         exact absurd ⟨_,e2⟩ c3
        ·split
         ·rename_i e1 e2
          exact absurd ⟨_,e2⟩ c3
         ·exact plain
    ·rw[if_neg hc,if_neg hc];exact zd hw ht λ_ _=>⟨hf.finish (kz Z),hcs,rfl,rfl,rfl,rfl⟩
  | inRangeFunc h=>exact zz
  | @endRangeFunc i j h=>
   dsimp only;simp only[qhA];refine ZE hb hw ht b9 (YJ H hG h) (Dry.run Q (q4t i)) (K:=λr=>match r with
    | .ok jump w=>.go { frame:=⟨fn,tmps,(jump.map Item.code).toList++k,defers,mode,kind,ro⟩,callers:=cs,status:=.running,dying:=none } w
    | .halt (.panic v) w=>.go { frame:=qpf ⟨fn,tmps,.endRangeFunc i::k,defers,mode,kind,ro⟩ [{ v,recovered:=false }],callers:=cs,status:=.running,dying:=none } w
    | .halt _ w=>.ended (.stuck "range over a function: no such loop" (qqz Q ⟨fn,tmps,.endRangeFunc i::k,defers,mode,kind,ro⟩)) w) (K':=λr=>match r with
    | .ok jump w=>.go { frame:=⟨b0,a7,(jump.map Item.code).toList++k',a6,a8,a9,b8⟩,callers:=cs',status:=.running,dying:=none } w
    | .halt (.panic v) w=>.go { frame:=qpf ⟨b0,a7,.endRangeFunc j::k',a6,a8,a9,b8⟩ [{ v,recovered:=false }],callers:=cs',status:=.running,dying:=none } w
    | .halt _ w=>.ended (.stuck "range over a function: no such loop" (qqz P ⟨b0,a7,.endRangeFunc j::k',a6,a8,a9,b8⟩)) w) (λh u g u' e ho hk _ _=>by cases h<;>first | (cases ho;done) | cases hk) ?_
   intro O r wq1 r' w1 hr l hb1 c8 ht1 _;have b7:=hf.mono l;have d5:=hcs.imp λ_ _ k=>qr.mono l k;have e4:=hk.imp λ_ _ k=>zh.mono l k;cases hr with
   | @ok jump jump' wq1 w1 hv=>
    obtain⟨hj,d7⟩:=hv;subst hj;refine zd c8 ht1 λ_ _=>⟨b7.withTodo ?_,d5,rfl,rfl,rfl,rfl⟩;cases jump' with
    | none=>exact e4
    | some c=>exact .cons (.code ((H.codes c).1 (d7 c rfl))) e4
   | panic wq1 w1 hv=>exact zd c8 ht1 λ_ _=>⟨b7.raise (.cons ⟨hv,rfl,rfl⟩ .nil),d5,rfl,rfl,rfl,rfl⟩
  | beginRound=>
   dsimp only;refine Qt H hb hw ht hf hcs (by intro x l h;cases h) (SR.sm ?_);refine .bnd (R:=λ_ _ _=>True) ?_ λO _ _ _ _=>qd .skip;rcases hf.round with⟨r1,r2⟩ | ⟨i,j,r1,r2,hij⟩
   ·dsimp only at r1 r2;rw[r1,r2];exact qh
   ·dsimp only at r1 r2;rw[r1,r2];exact QN H hG hij
theorem q0E(H:Duo Q P)(hb:base<=Z.length)(hw:WR Q base Z wq w)(hG:Gl P Z)(ht:zx D wq w)(a6:wq.drawn<=D){g g':qgC}(hg:kO Q P Z g g')(b:Bool) :vd Q P base D Z wq w (qi7 Q true g wq true) (qi7 P b g' w true):=by
 obtain⟨fr,cs,st,dy,off⟩:=g;obtain⟨a7,cs',st',dy',a8⟩:=g';obtain⟨h1,h2,h3,h4,h5,h6⟩:=hg;dsimp only at h1 h2 h3 h4 h5 h6;subst h5;subst h6;have hm:=h1.mode;unfold qi7;dsimp only;generalize hmm:fr.mode=m at hm;generalize a9:a7.mode=m' at hm;cases hm with
 | run=>exact qam H hb hw hG ht a6 h1 h2 b
 | returning=>exact YK H hb hw hG ht a6 h1 h2 (by rw[hmm];simp) b
 | panicking hl=>exact YK H hb hw hG ht a6 h1 h2 (by rw[hmm];simp) b
theorem qal(H:Duo Q P)(hb:base<=Z.length)(hw:WR Q base Z wq w)(hG:Gl P Z)(ht:zx D wq w)(a7:wq.drawn<=D){g g':qgC}(hg:kO Q P Z g g')(b:Bool) :∀gq' wq' esq,qi7 Q true g wq true=.go gq' wq' esq->wq'.drawn<=D->gq'.status=.running->gq'.dying=none->Q.funcs[gq'.frame.fn]?=P.funcs[gq'.frame.fn]? ->∃O g'' w' es,qi7 P b g' w true=.go g'' w' es/\kO Q P O gq' g''/\WR Q base O wq' w'/\True/\Eff base Z O w w'/\(∀e∈es,kR base O e)/\True/\wq.drawn<=wq'.drawn:=by
 intro gq' wq' esq e hD hs hd a6;obtain⟨O,g'',w',es,h1,h2,h3⟩:=q0E H hb hw hG ht a7 hg b gq' wq' esq e hD hs hd;refine⟨O,g'',w',es,h1,?_,h3⟩;rcases h2 with⟨_,h⟩ | ⟨f,k,a,a',c,c',cs,cs',hne,_,rfl,_⟩
 ·exact h
 ·exact absurd a6 hne
end
end
end Go.Sim
section
namespace Go
def World.tp(w:qgx)(T:Nat->qj1->Nat):qgx:={ w with tape:=T }
end Go
namespace Go.Sim
def tpR{Y:Type}(T:Nat->qj1->Nat):qlg Y->qlg Y
 | .ok a w=>.ok a (w.tp T)
 | .halt h w=>.halt h (w.tp T)
def q7p(T:Nat->qj1->Nat)(w:qgx)(n:Nat):Prop:=∀k q,w.drawn<=k->k<n->T k q=w.tape k q
def Knows{Y:Type}(Q:qh2)(s:Sem Y)(w:qgx):Prop :=
 (rwR (s.run Q w)).tape=w.tape/\∀T,q7p T w (rwR (s.run Q w)).drawn->s.run Q (w.tp T)=tpR T (s.run Q w)
section
variable[JunkSet]{Q P:qh2}{base:Nat}
theorem SR.knows{Y M:Type}{R:Rel Y M}{s:Sem Y}:∀{Z:Ren} {s':Sem M} {wq w:qgx},SR Q P R s Z s'->base<=Z.length->WR Q base Z wq w->vX (s.run Q wq)->Knows Q s wq:=by
 induction s with
 | pure a=>intro Z s' wq w h hb hw hf;exact⟨rfl,λT _=>rfl⟩
 | load m a k ih=>
  intro Z s' wq w h hb hw hf;rcases h with hbad | ⟨rfl,j,k',rfl,hbr,hk⟩
  ·exact absurd hf (Bad.not_fine hw.nopend hbad)
  have e0:∀T,(wq.tp T).cell? a=wq.cell? a:=λT=>rfl;unfold Knows;simp only[qih,e0] at hf ⊢;cases hc:wq.cell? a with
  | none=>
   rw[hc] at hf;simp only[qpy] at hf;split at hf
   ·rename_i hv
    split at hv
    ·rename_i a7
     exact absurd a7 (hw.noview hbr _ _)
    ·cases hv
   ·rename_i hv
    split at hv
    ·rename_i a7
     exact absurd a7 (hw.noview hbr _ _)
    ·cases hv;exact absurd hf (jM hw.nopend _ _ _)
  | some v=>
   obtain⟨v',a7,hr⟩:=hw.cell hbr hc;rw[hc] at hf;exact ih v (hk v v' hr) hb hw hf
 | store m a v k ih=>
  intro Z s' wq w h hb hw hf;rcases h with hbad | ⟨rfl,j,v',k',rfl,hbr,hv,hk⟩
  ·exact absurd hf (Bad.not_fine hw.nopend (s:=.store m a v k) hbad)
  have b6:(∃x,v=.agg x)\/(∃x,v=.tuple x)\/((∀x,v≠.agg x)/\∀x,v≠.tuple x):=by
   cases v<;>simp
  rcases b6 with⟨x,rfl⟩ | ⟨x,rfl⟩ | ⟨hna,hnt⟩
  ·simp only[qih] at hf;exact absurd hf (λh=>by cases h)
  ·simp only[qih] at hf;exact absurd hf (λh=>by cases h)
  ·have e1:∀u:qgx,(qqs .plain a v k).run Q u=match u.cell? a with
     | some _=>if u.frozen? a then .halt (.unsupported (.unsafePointer "a write to bytes that a string shares")) u else k.run Q (u.setCell a v)
     | none=>match u.farStore Q a v false with
      | .ok (w,_)=>k.run Q w
      | .error h=>.halt h u:=λu=>by
    cases v<;>first | rfl | exact absurd rfl (hna _) | exact absurd rfl (hnt _)
   have e0:∀T,(wq.tp T).cell? a=wq.cell? a:=λT=>rfl;have e2:∀T,(wq.tp T).frozen? a=wq.frozen? a:=λT=>rfl;unfold Knows;simp only[e1,e0,e2] at hf ⊢;cases hc:wq.cell? a with
   | none=>
    rw[hc] at hf;simp only[qme] at hf;split at hf
    ·rename_i hv
     split at hv
     ·rename_i a7
      exact absurd a7 (hw.noview hbr _ _)
     ·cases hv
    ·rename_i hv
     split at hv
     ·rename_i a7
      exact absurd a7 (hw.noview hbr _ _)
     ·cases hv;exact absurd hf (jM hw.nopend _ _ _)
   | some u=>
    rw[hc] at hf;cases hfz:wq.frozen? a with
    | true=>
     simp only[hfz,if_true] at hf;exact absurd hf (λh=>by cases h)
    | false=>
     obtain⟨hbase,b8,a8,b0⟩:=hw.set hbr hc hfz hv;simp only[hfz,qhy,if_false] at hf ⊢;exact ih hk hb a8 hf
 | new o k ih=>
  intro Z s' wq w h hb hw hf;rcases h with hbad | ⟨o',k',rfl,ho,hk⟩
  ·exact absurd hf (Bad.not_fine hw.nopend (s:=.new o k) hbad)
  obtain⟨a8,b0⟩:=hw.newO hb ho;have hk':=hk w.heap.size (λi hi=>qm6 _ (hw.lt i _ hi));rw[hw.len] at hk';exact ih _ hk' (by simp;omega) a8 hf
 | shape r k ih=>
  intro Z s' wq w h hb hw hf;rcases h with hbad | ⟨j,k',rfl,hbr,hk⟩
  ·exact absurd hf (Bad.not_fine hw.nopend (s:=.shape r k) hbad)
  exact ih _ (hk _ _ (hw.shape hbr)) hb hw hf
 | freeze a n k _=>intro Z s' wq w h hb hw hf;exact absurd hf (Bad.not_fine hw.nopend (s:=.freeze a n k) h)
 | frozen a k _=>intro Z s' wq w h hb hw hf;exact absurd hf (Bad.not_fine hw.nopend (s:=.frozen a k) h)
 | getObj r k ih=>
  intro Z s' wq w h hb hw hf;rcases h with hbad | ⟨j,k',rfl,hbr,hk⟩
  ·exact absurd hf (Bad.not_fine hw.nopend (s:=.getObj r k) hbad)
  cases ho:wq.heap[r]? with
  | none=>simp only[qih,ho] at hf;exact absurd hf (λh=>by cases h)
  | some o=>
   by_cases a6:∃c e f,o=.cells c e f
   ·obtain⟨c,e,f,rfl⟩:=a6;simp only[qih,ho] at hf;exact absurd hf (λh=>by cases h)
   ·have hnc:∀c e f,o≠.cells c e f:=λc e f x=>a6 ⟨c,e,f,x⟩;rcases hw.obj _ _ _ hbr ho with⟨_,hj,_⟩ | ⟨_,o',ho',hr⟩
    ·exact absurd hj (hnc _ _ _)
    ·rw[yx ho hnc] at hf;have a9:∀T,(wq.tp T).heap[r]?=some o:=λT=>ho;unfold Knows;simp only[yx ho hnc,yx (a9 _) hnc];exact ih o (hk _ _ hr) hb hw hf
 | setObj r o k ih=>
  intro Z s' wq w h hb hw hf;rcases h with hbad | ⟨j,o',k',rfl,hbr,hor,hk⟩
  ·exact absurd hf (Bad.not_fine hw.nopend (s:=.setObj r o k) hbad)
  cases ho:wq.heap[r]? with
  | none=>simp only[qih,ho] at hf;exact absurd hf (λh=>by cases h)
  | some ob=>
   by_cases a6:∃c e f,ob=.cells c e f
   ·obtain⟨c,e,f,rfl⟩:=a6;simp only[qih,ho] at hf;exact absurd hf (λh=>by cases h)
   ·have hnc:∀c e f,ob≠.cells c e f:=λc e f x=>a6 ⟨c,e,f,x⟩;obtain⟨hbase,⟨b9,b7,hr⟩,a8,b0⟩:=hw.setO hbr ho hnc hor;rw[yw ho hnc] at hf;have a9:∀T,(wq.tp T).heap[r]?=some ob:=λT=>ho;unfold Knows;simp only[yw ho hnc,yw (a9 _) hnc];exact ih hk hb a8 hf
 | choose q k ih=>
  intro Z s' wq w h hb hw hf;rcases h with hbad | ⟨k',rfl,hk⟩
  ·exact absurd hf (Bad.not_fine hw.nopend (s:=.choose q k) hbad)
  unfold Knows;simp only[qih] at hf ⊢;cases hq:q.forced with
  | true=>
   rw[hq] at hf;simp only[if_true] at hf ⊢;exact ih _ (hk _) hb hw hf
  | false=>
   rw[hq] at hf;simp only[qhy,if_false] at hf ⊢;obtain⟨a8,b0⟩:=hw.draw;obtain⟨h1,h2⟩:=ih _ (hk _) hb a8 hf;refine⟨h1,λT hT=>?_⟩;have:=vJ Q (k (q.cut (wq.tape wq.drawn q))) { wq with drawn:=wq.drawn+1 };have e:(wq.tp T).tape (wq.tp T).drawn q=wq.tape wq.drawn q:=hT _ q (qgA _) (by simp only at this;exact qh7 (qmq _) this);rw[e];exact h2 T λn q hn=>hT n q (by simp only at hn;omega)
 | sys c k ih=>
  intro Z s' wq w h hb hw hf;rcases h with hbad | ⟨rfl,k',rfl,hk⟩
  ·exact absurd hf (Bad.not_fine hw.nopend (s:=.sys c k) hbad)
  have e1:∀u:qgx,u.sys .env=(.strings u.os.env,u):=λu=>rfl;unfold Knows;simp only[qih,e1] at hf ⊢;exact ih _ (hk _) hb hw hf
 | program k ih=>
  intro Z s' wq w h hb hw hf;rcases h with hbad | ⟨k',rfl,hk⟩
  ·exact absurd hf (Bad.not_fine hw.nopend (s:=.program k) hbad)
  exact ih _ hk hb hw hf
 | mark m k ih=>
  intro Z s' wq w h hb hw hf;rcases h with hbad | ⟨rfl,k',rfl,hk⟩
  ·exact absurd hf (Bad.not_fine hw.nopend (s:=.mark m k) hbad)
  exact ih hk hb hw hf
 | halt x=>intro Z s' wq w h hb hw hf;exact⟨rfl,λT _=>rfl⟩
end
end Go.Sim
end
namespace Go.Sim
section
section
variable[JunkSet]{Q P:qh2}{Z:Ren}{base:Nat}{wq w:qgx}
theorem ZP(hT:P.toTables=Q.toTables)(hG:Gl P Z)(hb:base<=Z.length)(hw:WR Q base Z wq w){t:qh8}(hB:K3 Q t=true){m m' k k' v v':qgB}(hm:VR Z m m')(hk:VR Z k k')(hv:VR Z v v')(hf:vX ((qiB t m k v).run Q wq)):Knows Q (qiB t m k v) wq:=by
 rcases q40 (k':=k') (v':=v') hT hG hw hm hf with h | ⟨r,j,kt,et,es,es',clock,rfl,rfl,hbr,hu,hq,hp,he⟩
 ·exact h.knows hb hw hf
 ·have r1:=λT=>(yH (P:=Q) (t:=t) (k:=k) (v:=v) (w:=wq.tp T) hu hq).1;have r0:=(yH (P:=Q) (t:=t) (k:=k) (v:=v) hu hq).1;have:=(q0y hT hG (q42 hB hu) hk hv hbr he clock 0).knows hb hw (by rw[<- r0];exact hf);unfold Knows at this ⊢;rw[r0];exact⟨this.1,λT hT=>by rw[r1 T];exact this.2 T hT⟩
theorem qg3{s:Sem Unit}(h:Knows Q s wq):Knows Q (do s;pure Next.skip:Sem qlo) wq:=by
 have e1:∀(u:qgx),((do s;pure Next.skip:Sem qlo)).run Q u=match s.run Q u with | .ok _ u'=>.ok .skip u' | .halt h u'=>.halt h u':=λu=>by
  rw[qiy];cases s.run Q u<;>rfl
 unfold Knows at h ⊢;rw[e1];refine⟨?_,λT hT=>?_⟩
 ·have:=h.1;cases hx:s.run Q wq<;>(rw[hx] at this;exact this)
 ·rw[e1,h.2 T]
  ·cases hx:s.run Q wq<;>rfl
  ·cases hx:s.run Q wq<;>(rw[hx] at hT;exact hT)
end
end
section
def Live(g:qgC):Prop:=g.status=.running/\g.dying=none
def q52(g:qgC):Prop:=g.status=.blocked\/g.status=.waiting\/g.status=.finished\/(g.status=.running/\∃d,g.dying=some d/\d.calling=false/\d.fatal.isSome=true)
def Flat(cs:List qh4):qjo->Prop
 | .go g _ _=>Live g\/q52 g\/cs=[]
 | .ended ..=>True
 | _=>False
theorem flx{p:Prop}(h:p:=by first | exact trivial | exact .inl ⟨rfl,rfl⟩ | exact .inr (.inl (.inl rfl)) | exact .inr (.inl (.inr (.inl rfl))) | exact .inr (.inl (.inr (.inr (.inl rfl)))) | exact .inr (.inl (.inr (.inr (.inr ⟨rfl,_,rfl,rfl,rfl⟩)))) | exact .inr (.inr rfl)):p:=h
structure One(cs:List qh4)(wq:qgx)(r:qgx->qjo):Prop where
 flat:Flat cs (r wq)
 go:∀g' w' es,r wq=.go g' w' es->g'.status=.running->g'.dying=none->w'.tape=wq.tape/\wq.drawn<=w'.drawn/\∀T,q7p T wq w'.drawn->∃es',r (wq.tp T)=.go g' (w'.tp T) es'
theorem Zo{cs:List qh4}{es:Array qiq}{s:qjo}(h:Flat cs s):Flat cs (qic es s):=by
 cases s<;>first | exact h | exact h.elim
theorem Ki{p:qh2}{fr:qh4}{cs:List qh4}{dy:Option qm4}{m:String}{u:qgx}:Flat cs (qnB p fr cs dy m u):=by
 unfold qnB;dsimp only;generalize (qih p _ u:qlg (List (ByteArray × String) × List ByteArray))=r;cases r with
 | ok a w1=>obtain⟨t,a6⟩:=a;exact flx
 | halt x w1=>cases x<;>exact flx
section
variable[JunkSet]{Q P:qh2}{Z:Ren}{base:Nat}{wq w:qgx}
theorem yA{cs:List qh4}{r:qgx->qjo}(h:∃o u es,r wq=.ended o u es):One cs wq r:=by
 obtain⟨o,u,es,e⟩:=h;exact⟨by rw[e];trivial,λg' w' es' h _ _=>by rw[e] at h;cases h⟩
theorem SR.tri{Y M:Type}{R:Rel Y M}{s:Sem Y}{s':Sem M}(hs:SR Q P R s Z s')(hb:base<=Z.length)(hw:WR Q base Z wq w) :(Knows Q s wq/\((∃a u,s.run Q wq=.ok a u/\∃O b w1,R O a b/\Le Z O/\WR Q base O u w1)\/∃v u,s.run Q wq=.halt (.panic v) u))\/∃h u,s.run Q wq=.halt h u/\odd h=false:=by
 by_cases hf:vX (s.run Q wq)
 ·refine .inl ⟨hs.knows hb hw hf,?_⟩;have a8:WR Q base Z wq { w with tape:=λn q=>wq.tape (n - w.drawn+wq.drawn) q }:=⟨hw.len,hw.nodup,hw.lt,hw.obj,hw.low,hw.env,hw.below,hw.gar⟩;obtain⟨O,b0,w2,b6,a6,_,_,a7,_,a9,_⟩:=SR.runs (es:=#[]) (D:=(rwR (s.run Q wq)).drawn) hs hb a8 (λn q _=>by
   show wq.tape (wq.drawn+n) q=wq.tape (w.drawn+n - w.drawn+wq.drawn) q;rw[show w.drawn+n - w.drawn+wq.drawn=wq.drawn+n by omega]) (qgA _) hf
  generalize s.run Q wq=r at a6;generalize (qih P s' _)=r' at a6;cases a6 with
  | ok _ _ h=>exact .inl ⟨_,_,rfl,O,_,_,h,a9.le,a7⟩
  | panic _ _ _=>exact .inr ⟨_,_,rfl⟩
 ·refine .inr ?_;cases hr:s.run Q wq with
  | ok a u=>rw[hr] at hf;exact absurd trivial hf
  | halt h u=>
   rw[hr] at hf;exact⟨h,u,rfl,by cases ho:odd h with | false=>rfl | true=>exact absurd ho hf⟩
def Tri[JunkSet](Q:qh2){Y M:Type}(R:Rel Y M)(s:Sem Y)(Z:Ren)(base:Nat)(wq:qgx):Prop :=
 (Knows Q s wq/\((∃a u,s.run Q wq=.ok a u/\∃O b w1,R O a b/\Le Z O/\WR Q base O u w1)\/∃v u,s.run Q wq=.halt (.panic v) u))\/∃h u,s.run Q wq=.halt h u/\odd h=false
theorem q3E{Y M:Type}{R:Rel Y M}{s:Sem Y}(hs:Tri Q R s Z base wq){cs:List qh4}{K:qgx->qlg Y->qjo}{r:qgx->qjo}(hr:∀u x,s.run Q u=x->∃es,r u=qic es (K u x))(hok:∀a u O b w1,R O a b->Le Z O/\WR Q base O u w1->Flat cs (K wq (.ok a u))/\∀g' w' es,K wq (.ok a u)=.go g' w' es->g'.status=.running->g'.dying=none->w'.tape=u.tape/\u.drawn<=w'.drawn/\∀T,q7p T u w'.drawn->∃es',K (wq.tp T) (.ok a (u.tp T))=.go g' (w'.tp T) es')(a8:∀v u,Flat cs (K wq (.halt (.panic v) u))/\∀g' w' es,K wq (.halt (.panic v) u)=.go g' w' es->g'.status=.running->g'.dying=none->w'=u/\∀T,∃es',K (wq.tp T) (.halt (.panic v) (u.tp T))=.go g' (u.tp T) es')(hbad:∀h u,odd h=false->Flat cs (K wq (.halt h u))/\∀g' w' es,K wq (.halt h u)=.go g' w' es->g'.status=.running->g'.dying=none->False) :One cs wq r:=by
 have a6:=vJ Q s wq;obtain⟨b7,h0⟩:=hr wq _ rfl;rcases hs with⟨⟨ht,hk⟩,⟨a,u,e,O,b,w1,hR,hl,a9⟩ | ⟨v,u,e⟩⟩ | ⟨h,u,e,ho⟩
 ·rw[e] at h0 hk ht a6;obtain⟨h1,h2⟩:=hok a u O b w1 hR ⟨hl,a9⟩;refine⟨by rw[h0];exact Zo h1,λg' w' es h hst a7=>?_⟩;rw[h0] at h;obtain⟨e0,h3,_⟩:=j3 h;obtain⟨h4,h5,h6⟩:=h2 _ _ _ h3 hst a7;have a6:wq.drawn<=u.drawn:=a6;refine⟨h4.trans ht,qh0 a6 h5,λT hT=>?_⟩;obtain⟨b6,h7⟩:=hr (wq.tp T) _ rfl;have hk':s.run Q (wq.tp T)=.ok a (u.tp T):=hk T λk q hk hn=>hT k q hk (qh7 hn h5);obtain⟨b0,h8⟩:=h6 T λk q hk hn=>by rw[show u.tape=wq.tape from ht];exact hT k q (qh0 a6 hk) hn
  exact⟨_,by rw[h7,hk',h8];rfl⟩
 ·rw[e] at h0 hk ht a6;obtain⟨h1,h2⟩:=a8 v u;refine⟨by rw[h0];exact Zo h1,λg' w' es h hst a7=>?_⟩;rw[h0] at h;obtain⟨e0,h3,_⟩:=j3 h;obtain⟨rfl,h6⟩:=h2 _ _ _ h3 hst a7;refine⟨ht,a6,λT hT=>?_⟩;obtain⟨b6,h7⟩:=hr (wq.tp T) _ rfl;have hk':s.run Q (wq.tp T)=.halt (.panic v) (w'.tp T):=hk T hT;obtain⟨b0,h8⟩:=h6 T;exact⟨_,by rw[h7,hk',h8];rfl⟩
 ·rw[e] at h0;obtain⟨h1,h2⟩:=hbad h u ho;refine⟨by rw[h0];exact Zo h1,λg' w' es h hst a7=>?_⟩;rw[h0] at h;obtain⟨e0,h3,_⟩:=j3 h;exact(h2 _ _ _ h3 hst a7).elim
theorem Qu{Y M:Type}{R:Rel Y M}{s:Sem Y}{s':Sem M}(hs:SR Q P R s Z s')(hb:base<=Z.length)(hw:WR Q base Z wq w){cs:List qh4}{K:qgx->qlg Y->qjo}{r:qgx->qjo}(hr:∀u x,s.run Q u=x->∃es,r u=qic es (K u x))(hok:∀a u O b w1,R O a b->Le Z O/\WR Q base O u w1->Flat cs (K wq (.ok a u))/\∀g' w' es,K wq (.ok a u)=.go g' w' es->g'.status=.running->g'.dying=none->w'.tape=u.tape/\u.drawn<=w'.drawn/\∀T,q7p T u w'.drawn->∃es',K (wq.tp T) (.ok a (u.tp T))=.go g' (w'.tp T) es')(a6:∀v u,Flat cs (K wq (.halt (.panic v) u))/\∀g' w' es,K wq (.halt (.panic v) u)=.go g' w' es->g'.status=.running->g'.dying=none->w'=u/\∀T,∃es',K (wq.tp T) (.halt (.panic v) (u.tp T))=.go g' (u.tp T) es')(hbad:∀h u,odd h=false->Flat cs (K wq (.halt h u))/\∀g' w' es,K wq (.halt h u)=.go g' w' es->g'.status=.running->g'.dying=none->False) :One cs wq r:=q3E (hs.tri hb hw) hr hok a6 hbad
theorem YW(H:Duo Q P)(hb:base<=Z.length)(hw:WR Q base Z wq w){f:qh4}{cs:List qh4}(a7:∀d r s k,f.todo≠.call d true r s::k){s:Sem qlo}(hs:Tri Q (zQ) s Z base wq):One cs wq (λu=>qil Q true f cs none s u):=by
 apply q3E hs
 ·intro u x hx;apply Exists.intro;unfold qil;simp only[if_true,qhA,hx];exact rfl
 ·intro a u O b w1 hR _;cases hR with
  | recover=>
   rcases hX:qhm f cs with _ | ⟨v,k⟩<;>cases hro:f.roundOf<;>simp only[hX,hro,H.rfr,if_true] <;>
    exact⟨flx,λg' w' es h _ _=>by cases h;exact⟨rfl,qgA _,λT _=>⟨_,rfl⟩⟩⟩
  | _=>exact⟨flx,λg' w' es h _ _=>by cases h;exact⟨rfl,qgA _,λT _=>⟨_,rfl⟩⟩⟩
 ·intro v u;exact⟨flx,λg' w' es h _ _=>by cases h;exact⟨rfl,λT=>⟨_,rfl⟩⟩⟩
 ·intro h u ho;cases h with
  | panic v=>cases ho
  | goexit=>cases ho
  | unsupported x=>
   cases x with
   | initOrder g=>cases ho
   | _=>exact⟨flx,λg' w' es h _ _=>by cases h⟩
  | blocked=>exact⟨flx,λg' w' es h hst _=>by cases h;cases hst⟩
  | waiting=>exact⟨flx,λg' w' es h hst _=>by cases h;cases hst⟩
  | throw m=>exact⟨flx,λg' w' es h _ a6=>by simp only[qnc,dieOf,qkE] at h;rw[<- h.1] at a6;cases a6⟩
  | fatal m=>exact⟨Ki,λg' w' es h _ a6=>absurd a6 (qY h)⟩
  | _=>exact⟨flx,λg' w' es h _ _=>by cases h⟩
theorem SM.tri{Y M:Type}{R:Rel Y M}{s:Sem Y}{s':Sem M}(hs:SM Q P R s Z s')(hk:vX (s.run Q wq)->Knows Q s wq)(hb:base<=Z.length)(hw:WR Q base Z wq w):Tri Q R s Z base wq:=by
 by_cases hf:vX (s.run Q wq)
 ·refine .inl ⟨hk hf,?_⟩;have a8:WR Q base Z wq { w with tape:=λn q=>wq.tape (n - w.drawn+wq.drawn) q }:=⟨hw.len,hw.nodup,hw.lt,hw.obj,hw.low,hw.env,hw.below,hw.gar⟩;obtain⟨O,b0,w2,b6,a6,_,_,a7,a9⟩:=hs (D:=(rwR (s.run Q wq)).drawn) hb a8 (λn q _=>by
   show wq.tape (wq.drawn+n) q=wq.tape (w.drawn+n - w.drawn+wq.drawn) q;rw[show w.drawn+n - w.drawn+wq.drawn=wq.drawn+n by omega]) (qgA _) hf
  generalize s.run Q wq=r at a6;generalize (qih P s' _)=r' at a6;cases a6 with
  | ok _ _ h=>exact .inl ⟨_,_,rfl,O,_,_,h,a9.le,a7⟩
  | panic _ _ _=>exact .inr ⟨_,_,rfl⟩
 ·refine .inr ?_;cases hr:s.run Q wq with
  | ok a u=>rw[hr] at hf;exact absurd trivial hf
  | halt h u=>
   rw[hr] at hf;exact⟨h,u,rfl,by cases ho:odd h with | false=>rfl | true=>exact absurd ho hf⟩
theorem q5b(H:Pair Q P)(hb:base<=Z.length)(hw:WR Q base Z wq w){e e':qhE->qgB}(he:∀x,qF Q x->VR Z (e x) (e' x))(hG:Gl P Z)(hn:Inj Z)(hc:∀v,e (.const v)=v){o:qiu}(ho:qN Q o.op) :Tri Q (@zQ _) (qk3 e o) Z base wq:=by
 cases hmu:qba o.op with
 | false=>exact(q0z H he hG hn hc ho hmu).tri hb hw
 | true=>
  refine SM.tri (q0D H he hG hn hc ho) (λhf=>?_) hb hw;obtain⟨dst,op,ty,pos,after,guard⟩:=o;dsimp only at ho hmu;have fin:∀{s:Sem Unit},vX ((do s;pure Next.skip:Sem qlo).run Q wq)->vX (s.run Q wq):=λ{s} hf=>by
   rw[qiy] at hf;cases hx:s.run Q wq with
   | ok a u=>trivial
   | halt h u=>rw[hx] at hf;exact hf
  cases ho with
  | mapUpdate h1 h2 h3 h4=>exact qg3 (ZP H.tables hG hb hw h1 (he _ h2) (he _ h3) (he _ h4) (fin hf))
  | insert h1 h2 h3 h4=>exact qg3 (ZP H.tables hG hb hw h1 (he _ h2) (he _ h3) (he _ h4) (fin hf))
  | _=>cases hmu
theorem Jh(H:Duo Q P)(hb:base<=Z.length)(hw:WR Q base Z wq w){f:qh4}{cs:List qh4}(a6:∀d r s k,f.todo≠.call d true r s::k){s s':Sem qlo}(hs:SR Q P zQ s Z s'):One cs wq (λu=>qil Q true f cs none s u):=YW H hb hw a6 (hs.tri hb hw)
theorem QS(f:qh4)(cs:List qh4)(v:qgB):(∃g,(Live g\/q52 g\/cs=[])/\∀u,qj5 Q true f cs none v u=.go g u #[])\/∃o,∀u,qj5 Q true f cs none v u=.ended o u #[]:=by
 unfold qj5;cases cs with
 | cons c cs=>
  dsimp only;split;all_goals exact .inl ⟨_,flx,λu=>rfl⟩
 | nil=>
  dsimp only;split
  ·rename_i h;cases h
  ·exact .inr ⟨_,λu=>rfl⟩
  ·simp only[qmx,qhy,if_false];split
   ·exact .inl ⟨_,flx,λu=>rfl⟩
   ·exact .inr ⟨_,λu=>rfl⟩
theorem jg{cs:List qh4}{r:qgx->qjo}{g:qgC}(h:∀u,r u=.go g u #[])(hl:Live g\/q52 g\/cs=[]:=by exact flx):One cs wq r :=
 ⟨by rw[h];exact hl,λg' w' es e _ _=>by rw[h] at e;cases e;exact⟨rfl,qgA _,λT _=>⟨_,h _⟩⟩⟩
theorem jW(hb:base<=Z.length)(hw:WR Q base Z wq w){f:qh4}{cs:List qh4}{d:qiG}{s':Sem qlo}(hs:SR Q P zQ (invoke d.target d.args) Z s'):One cs wq (λu=>qj0 Q f cs none d u):=by
 by_cases hc:(kF d.target && kE f.mode)=true
 ·refine yA ⟨.unsupported (.noEntry "machine/Return: a deferred call of a nil function value, made while the frame is unwinding") (f.pos Q),wq,#[],?_⟩;show qj0 Q f cs none d wq=_;unfold qj0;exact if_pos hc
 apply Qu hs hb hw
 ·intro u x hx;apply Exists.intro;show qj0 Q f cs none d u=_;unfold qj0;refine(if_neg hc).trans ?_;simp only[qhA,hx];exact rfl
 ·intro a u O b w1 hR _;cases hR with
  | recover=>
   rcases hX:qhm f cs with _ | ⟨v,k⟩<;>cases hm:f.mode<;>simp only[hX,hm] <;>
    exact⟨flx,λg' w' es h _ _=>by cases h;exact⟨rfl,qgA _,λT _=>⟨_,rfl⟩⟩⟩
  | _=>exact⟨flx,λg' w' es h _ _=>by cases h;exact⟨rfl,qgA _,λT _=>⟨_,rfl⟩⟩⟩
 ·intro v u;exact⟨flx,λg' w' es h _ _=>by cases h;exact⟨rfl,λT=>⟨_,rfl⟩⟩⟩
 ·intro h u ho;cases h with
  | panic v=>cases ho
  | goexit=>cases ho
  | unsupported x=>
   cases x with
   | initOrder g=>cases ho
   | _=>exact⟨flx,λg' w' es h _ _=>by cases h⟩
  | blocked=>exact⟨flx,λg' w' es h hst _=>by cases h;cases hst⟩
  | waiting=>exact⟨flx,λg' w' es h hst _=>by cases h;cases hst⟩
  | throw m=>exact⟨flx,λg' w' es h _ a6=>by simp only[qnc,dieOf,qkE] at h;rw[<- h.1] at a6;cases a6⟩
  | fatal m=>exact⟨Ki,λg' w' es h _ a6=>absurd a6 (qY h)⟩
  | _=>exact⟨flx,λg' w' es h _ _=>by cases h⟩
theorem YV(H:Duo Q P)(hb:base<=Z.length)(hw:WR Q base Z wq w)(hG:Gl P Z){f f':qh4}(hf:qr Q P Z f f')(cs:List qh4) :One cs wq (λu=>qlm Q true f cs none u):=by
 have hfd:=hf.defers;unfold qlm;generalize b7:f.defers=ds at hfd;generalize b0:f'.defers=ds' at hfd;cases hfd with
 | @cons d d' ds ds' hd hds=>
  obtain⟨t,a⟩:=d;obtain⟨t',a'⟩:=d';have hs:SR Q P zQ (invoke t a) Z (invoke t' a'):=vG H.toPair hG hd;rcases id hd with⟨a7,_⟩ | ⟨h1,_,n,c,h3⟩
  case bound=>
   dsimp only at h1 h3;subst h1;subst h3;exact jW hb hw hs
  dsimp only at a7;cases a7 with
  | @collected i j hij=>
   apply Qu (q6A (Q:=Q) (P:=P) hij) hb hw
   ·intro u x hx;apply Exists.intro;simp only[qhA,hx];exact rfl
   ·intro l u O b w1 hR _;exact⟨flx,λg' w' es h _ _=>by cases h;exact⟨rfl,qgA _,λT _=>⟨_,rfl⟩⟩⟩
   ·intro v u;exact⟨flx,λg' w' es h _ _=>by cases h⟩
   ·intro h u ho;exact⟨flx,λg' w' es h _ _=>by cases h⟩
  | fn h1 h2=>exact jW hb hw hs
  | meth n h=>exact jW hb hw hs
  | nil=>exact jW hb hw hs
  | builtin x y z c h=>exact jW hb hw hs
 | nil=>
  dsimp only;obtain⟨gf,a8,b6⟩:=hf.same;cases hm:f.mode with
  | run=>exact yA ⟨_,_,_,rfl⟩
  | panicking l=>
   dsimp only;have a9:f.catches Q=false:=by unfold qoq;rw[a8]
   rw[a9];simp only[qhy,if_false]
   repeat' split
   all_goals first
    | exact jg λu=>rfl
    | exact yA ⟨_,_,_,rfl⟩
    | exact⟨flx,λg' w' es h hst a6=>by cases h;cases hst⟩
    | exact⟨flx,λg' w' es h hst a6=>by cases h;cases a6⟩
    | skip
   constructor
   ·show Flat _ (match (qqE l false).run Q wq with | .ok todo w=>_ | .halt (.unsupported u) w=>_ | .halt h w=>_);cases(qqE l false).run Q wq with
    | ok a w1=>exact flx
    | halt x w1=>cases x<;>exact flx
   ·intro g' w' es h hst a6;exfalso;revert h;cases(qqE l false).run Q wq with
    | ok a w1=>intro h;cases h;cases a6
    | halt x w1=>cases x<;>(intro h;cases h)
  | returning=>
   dsimp only;rw[a8];dsimp only;apply Qu (Za H hG gf hf.tmps) hb hw
   ·intro u x hx;apply Exists.intro;simp only[qhA,hx];exact rfl
   ·intro v u O b w1 hR _;rcases QS (Q:=Q) f cs v with⟨g,hl,h⟩ | ⟨o,h⟩
    ·refine⟨?_,λg' w' es e _ _=>?_⟩
     ·dsimp only;rw[h];exact hl
     ·dsimp only at e ⊢;rw[h] at e;cases e;exact⟨rfl,qgA _,λT _=>⟨_,h _⟩⟩
    ·refine⟨?_,λg' w' es e _ _=>?_⟩
     ·dsimp only;rw[h];trivial
     ·dsimp only at e ⊢;rw[h] at e;cases e
   ·intro v u;exact⟨flx,λg' w' es h _ _=>by cases h⟩
   ·intro h u ho;cases h<;>exact⟨flx,λg' w' es h _ _=>by cases h⟩
theorem Qv(hb:base<=Z.length)(hw:WR Q base Z wq w){f f':qh4}(hf:qr Q P Z f f')(cs:List qh4)(H:Duo Q P){j:Option qje}(hj:∀x,j=some x->qy Q x){s s':String} :
  One cs wq (λu=>match f.roundOf with
   | none=>if K9 j=true then .go { frame:={ f with mode:=.returning },callers:=cs,status:=.running,dying:=none } u else .ended (.stuck s (f.pos Q)) u
   | some l=>
    let (r,es):=(qjG l j).runT Q u #[]
    qic (seen Q f.fn es) <| match r with
    | .ok v w=>qj5 Q true f cs none v w
    | .halt _ w=>.ended (.stuck s' (f.pos Q)) w):=by
 rcases hf.round with⟨r1,r2⟩ | ⟨i,k,r1,r2,hik⟩
 ·rw[r1];dsimp only;by_cases hc:K9 j=true
  ·simp only[if_pos hc];exact jg λu=>rfl
  ·simp only[if_neg hc];exact yA ⟨_,_,_,rfl⟩
 ·rw[r1];apply Qu (Jv (Q:=Q) (P:=P) hik λx hx=>(H.codes x).2 (hj x hx)) hb hw
  ·intro u x hx;apply Exists.intro;simp only[qhA,hx];exact rfl
  ·intro v u O b w1 hR _;rcases QS (Q:=Q) f cs v with⟨g,hl,h⟩ | ⟨o,h⟩
   ·refine⟨?_,λg' w' es e _ _=>?_⟩
    ·dsimp only;rw[h];exact hl
    ·dsimp only at e ⊢;rw[h] at e;cases e;exact⟨rfl,qgA _,λT _=>⟨_,h _⟩⟩
   ·refine⟨?_,λg' w' es e _ _=>?_⟩
    ·dsimp only;rw[h];trivial
    ·dsimp only at e ⊢;rw[h] at e;cases e
  ·intro v u;exact⟨flx,λg' w' es h _ _=>by cases h⟩
  ·intro h u ho;exact⟨flx,λg' w' es h _ _=>by cases h⟩
theorem qaC(H:Duo Q P)(hb:base<=Z.length)(hw:WR Q base Z wq w)(hG:Gl P Z){f f':qh4}(hf:qr Q P Z f f')(cs:List qh4) :One cs wq (λu=>qk8 Q true true f cs none u):=by
 obtain⟨fn,tmps,todo,defers,mode,kind,ro⟩:=f;obtain⟨c8,a7,b6,a6,a8,a9,b7⟩:=f';have c3:=hf.todo;have b8:∀x,qF Q x->VR Z (qlv ⟨fn,tmps,todo,defers,mode,kind,ro⟩ x) (qlv ⟨c8,a7,b6,a6,a8,a9,b7⟩ x):=λx hx=>hf.eval hG H.gsize hx;unfold qk8;dsimp only at c3 ⊢;cases c3 with
 | nil=>exact Qv hb hw hf cs H (j:=none) (λx h=>by cases h)
 | @cons x x' k k' hx hk=>
  cases hx with
  | @code c hc=>
   cases hc with
   | skip=>exact jg λu=>rfl
   | label n=>exact jg λu=>rfl
   | ret=>exact Qv hb hw hf cs H (j:=some .ret) (λx h=>by cases h;exact .ret)
   | seq h1 h2=>exact jg λu=>rfl
   | @cond c x y h0 h1 h2=>
    dsimp only;split
    ·exact jg λu=>rfl
    ·exact yA ⟨_,_,_,rfl⟩
   | block h=>exact jg λu=>rfl
   | loop h=>exact jg λu=>rfl
   | scope h=>exact jg λu=>rfl
   | exit id=>
    dsimp only;cases qmh id k with
    | none=>exact Qv hb hw hf cs H (j:=some (.exit id)) (λx h=>by cases h;exact .exit id)
    | some m=>exact jg λu=>rfl
   | goto n=>
    dsimp only;cases qmH n k with
    | none=>exact Qv hb hw hf cs H (j:=some (.goto n)) (λx h=>by cases h;exact .goto n)
    | some m=>exact jg λu=>rfl
   | @region id ops d hops=>
    dsimp only;cases d with
    | false=>exact jg λu=>rfl
    | true=>
     simp only[qmx,qhy,if_false,Jf];refine⟨flx,λg' w' es h _ _=>?_⟩;cases h;refine⟨rfl,qqD _,λT hT=>?_⟩;have e:(wq.tp T).tape (wq.tp T).drawn (.order fn id)=wq.tape wq.drawn (.order fn id):=hT _ _ (qgA _) (qmq _);rw[e];exact⟨_,rfl⟩
   | @rangeFunc c ps a bd h0 h1 h2=>
    dsimp only;apply Qu (ZB (Q:=Q) (P:=P) fn ((H.same fn).2 ⟨hf.same,hf.okf⟩) hf.tmps ps ((H.codes a).2 h1) ((H.codes bd).2 h2) hf.round) hb hw
    ·intro u x hx;apply Exists.intro;simp only[qhA];dsimp only at hx;rw[hx]
    ·intro x u O y w1 hR ⟨hl,c9⟩;obtain⟨i,m⟩:=x;obtain⟨i',m'⟩:=y;obtain⟨hbr,hm⟩:=hR;dsimp only at hbr hm ⊢;have hy:AsR O #[Value.func (Fn.yield i) #[] #[]] #[Value.func (Fn.yield i') #[] #[]] :=
      AsR.one (.func (a:=#[]) (a':=#[]) (c:=#[]) (c':=#[]) (.yield hbr) rfl (λi x y hx=>by simp at hx) rfl (λi x y hx=>by simp at hx))
     have b9:∀(e:qhE->qgB) (v:qgB),#[Operand.const v].map e=#[e (.const v)]:=λe v=>by simp
     have:=Jh (cs:=cs) (f:=⟨fn,tmps,.inRangeFunc i::k,m++defers,mode,kind,ro⟩) H (qh0 hb hl.len) c9 (λd r s k e=>by cases e)
      (s:=do let d <- resolve (qlv ⟨fn,tmps,.inRangeFunc i::k,m++defers,mode,kind,ro⟩) { callee:=.value c,args:=#[.const (.func (.yield i) #[] #[])],argTypes:=#[] } 0;invoke d.target d.args)
      (s':=do let d <- resolve (qlv ⟨c8,a7,.inRangeFunc i'::k',m'++a6,a8,a9,b7⟩) { callee:=.value c,args:=#[.const (.func (.yield i') #[] #[])],argTypes:=#[] } 0;invoke d.target d.args)
      (.bnd (R:=yT) (Zb H.toPair ((b8 _ h0).mono hl) (by rw[b9,b9];exact hy)) λV d d' l' hd=>vG H.toPair (hG.mono (hl.trans l')) hd)
     exact⟨this.flat,this.go⟩
    ·intro v u;exact⟨flx,λg' w' es h _ _=>by cases h⟩
    ·intro h u ho;exact⟨flx,λg' w' es h _ _=>by cases h⟩
  | inBlock id=>exact jg λu=>rfl
  | inScope h=>exact jg λu=>rfl
  | inLoop h=>exact jg λu=>rfl
  | @inRegion ops l hops=>
   cases l with
   | nil=>exact jg λu=>rfl
   | cons i l=>
    dsimp only;by_cases hc:((ops[i]?).map (qhv · (qj4 ops tmps))).getD false=true
    ·simp only[if_pos hc];unfold qnq Frame.oper?;dsimp only;cases ho:ops[i]? with
     | none=>exact yA ⟨_,_,_,rfl⟩
     | some o=>
      dsimp only;have hok:=hops o (by rw[qjm];exact qiE ho);have plain:=YW (cs:=cs) H hb hw (f:=⟨fn,tmps,.inRegion ops (i::l)::k,defers,mode,kind,ro⟩) (λd r s k e=>by cases e) (q5b H.toPair hb hw b8 hG hw.nodup (λv=>rfl) hok);rcases hf.round with⟨r1,r2⟩ | ⟨a,b',r1,r2,hij⟩
      ·dsimp only at r1 r2;subst r1;subst r2;exact plain
      ·dsimp only at r1 r2;subst r1;subst r2;by_cases b0:∃c,o.op=.defer c
       ·obtain⟨c,b0⟩:=b0;rw[b0] at hok ⊢;dsimp only;cases hok with
        | defer hcall=>
         exact Jh H hb hw (λd r s k e=>by cases e) (SR.bnd (xd H.toPair b8 hcall _) λO d d' l hd=>.bnd (xE (hij.mono l) hd) λV _ _ _ _=>qd .skip)
       ·split
        ·rename_i e1 e2
         exact absurd ⟨_,e2⟩ b0
        ·exact plain
    ·simp only[if_neg hc];exact jg λu=>rfl
  | inRangeFunc h=>exact yA ⟨_,_,_,rfl⟩
  | @endRangeFunc i j h=>
   dsimp only;apply Qu (YJ H hG h) hb hw
   ·intro u x hx;apply Exists.intro;simp only[qhA,hx];exact rfl
   ·intro l u O b w1 hR _;exact⟨flx,λg' w' es h _ _=>by cases h;exact⟨rfl,qgA _,λT _=>⟨_,rfl⟩⟩⟩
   ·intro v u;exact⟨flx,λg' w' es h _ _=>by cases h;exact⟨rfl,λT=>⟨_,rfl⟩⟩⟩
   ·intro h u ho;cases h<;>first | (cases ho;done) | exact⟨flx,λg' w' es h _ _=>by cases h⟩
  | beginRound=>
   dsimp only;refine Jh (P:=P) (s':=(do b7.elim (stuck "beginRound: no round") qow;pure .skip)) H hb hw (λd r s k e=>by cases e) ?_;refine .bnd (R:=λ_ _ _=>True) ?_ λO _ _ _ _=>qd .skip;rcases hf.round with⟨r1,r2⟩ | ⟨i,j,r1,r2,hij⟩
   ·dsimp only at r1 r2;rw[r1,r2];exact qh
   ·dsimp only at r1 r2;rw[r1,r2];exact QN H hG hij
theorem q3D(H:Duo Q P)(hb:base<=Z.length)(hw:WR Q base Z wq w)(hG:Gl P Z){g g':qgC}(hg:kO Q P Z g g'):One g.callers wq (λu=>qi7 Q true g u true):=by
 obtain⟨fr,cs,st,dy,off⟩:=g;obtain⟨h1,h2,h3,h4,h5,h6⟩:=hg;dsimp only at h1 h2 h3 h4 h5 h6;subst h5;have hm:=h1.mode;unfold qi7;dsimp only;generalize hmm:fr.mode=m at hm;generalize a6:g'.frame.mode=m' at hm;cases hm with
 | run=>exact qaC H hb hw hG h1 cs
 | returning=>exact YV H hb hw hG h1 cs
 | panicking hl=>exact YV H hb hw hG h1 cs
end
end
section
inductive LP (Q:qh2) (F:qgC->qgx->Prop):qgC->qgx->Prop
 | done {g:qgC} {u:qgx}:F g u->LP Q F g u
 | step {g g1:qgC} {u u1:qgx} {es:Array qiq}:qi7 Q true g u true=.go g1 u1 es->g1.status=.running->g1.dying=none->LP Q F g1 u1->LP Q F g u
inductive LT (Q:qh2) (F:qgC->qgx->Prop):qgC->qgx->Prop
 | done {g:qgC} {u:qgx}:F g u->LT Q F g u
 | step {g:qgC} {u:qgx}:¬ F g u->(∀T,∃g1 u1 es,qi7 Q true g (u.tp T) true=.go g1 u1 es/\g1.status=.running/\g1.dying=none) ->
   (∀T g1 u1 es,qi7 Q true g (u.tp T) true=.go g1 u1 es->LT Q F g1 u1)->LT Q F g u
section
variable[JunkSet]{Q:qh2}{base:Nat}{F:qgC->qgx->Prop}
def xC(Q:qh2)(base:Nat)(g:qgC)(u:qgx):Prop :=
 ∃Z g' w,base<=Z.length/\WR Q base Z u w/\Gl Q Z/\kO Q Q Z g g'
theorem WR.tape{Z:Ren}{u w:qgx}(h:WR Q base Z u w)(T T':Nat->qj1->Nat):WR Q base Z (u.tp T) (w.tp T'):=⟨h.len,h.nodup,h.lt,h.obj,h.low,h.env,h.below,h.gar⟩
theorem xC.tape{g:qgC}{u:qgx}(h:xC Q base g u)(T:Nat->qj1->Nat):xC Q base g (u.tp T) :=
 let ⟨Z,g',w,h1,h2,h3,h4⟩:=h
 ⟨Z,g',w,h1,h2.tape T w.tape,h3,h4⟩
theorem xC.one(H:Duo Q Q){g:qgC}{u:qgx}(h:xC Q base g u):One g.callers u (λu=>qi7 Q true g u true) :=
 let ⟨_,_,_,h1,h2,h3,h4⟩:=h
 q3D H h1 h2 h3 h4
theorem xC.next(H:Duo Q Q){g g1:qgC}{u u1:qgx}{es:Array qiq}(h:xC Q base g u)(e:qi7 Q true g u true=.go g1 u1 es)(hs:g1.status=.running)(hd:g1.dying=none):xC Q base g1 u1:=by
 have hm:=((h.one H).go _ _ _ e hs hd).2.1;obtain⟨Z,g',w,h1,h2,h3,h4⟩:=h;have h2':=h2.tape u.tape (λn q=>u.tape (n - w.drawn+u.drawn) q);have ht:zx u1.drawn u (w.tp λn q=>u.tape (n - w.drawn+u.drawn) q):=λn q _=>by
  show u.tape (u.drawn+n) q=u.tape (w.drawn+n - w.drawn+u.drawn) q;rw[show w.drawn+n - w.drawn+u.drawn=u.drawn+n by omega]
 obtain⟨O,g'',w',es',_,k1,k2,_,k4,_⟩:=qal H h1 h2' h3 ht hm h4 true _ _ _ e (qgA _) hs hd rfl;exact⟨O,g'',w',qh0 h1 k4.le.len,k2,h3.mono k4.le,k1⟩
theorem q36(u:qgx)(T T':Nat->qj1->Nat):(u.tp T).tp T'=u.tp T':=rfl
theorem Y5(u:qgx):u.tp u.tape=u:=rfl
theorem LP.ext(H:Duo Q Q)(hF:∀g u T,F g u->F g (u.tp T)){g:qgC}{u:qgx}(h:LP Q F g u)(hr:xC Q base g u){T:Nat->qj1->Nat}(hT:∀k q,u.drawn<=k->T k q=u.tape k q):LP Q F g (u.tp T):=by
 induction h with
 | done h=>exact .done (hF _ _ _ h)
 | @step g g1 u u1 es e hs hd _ ih=>
  obtain⟨h1,h2,h3⟩:=(hr.one H).go _ _ _ e hs hd;obtain⟨es',e'⟩:=h3 T λk q hk _=>hT k q hk;exact .step e' hs hd (ih (hr.next H e hs hd) λk q hk=>by rw[h1];exact hT k q (qh0 h2 hk))
theorem LP.inv{g:qgC}{u:qgx}(hF:¬ F g u)(h:LP Q F g u):∃g1 u1 es,qi7 Q true g u true=.go g1 u1 es/\g1.status=.running/\g1.dying=none/\LP Q F g1 u1:=by
 cases h with
 | done h=>exact absurd h hF
 | step e hs hd h=>exact⟨_,_,_,e,hs,hd,h⟩
theorem LP.rest(H:Duo Q Q)(hF:∀g u T,F g u->F g (u.tp T)){g g1:qgC}{u u1:qgx}{es:Array qiq}(hr:xC Q base g u)(hn:¬ F g u)(h:∀T,LP Q F g (u.tp T)){T:Nat->qj1->Nat}(e:qi7 Q true g (u.tp T) true=.go g1 u1 es)(hs:g1.status=.running)(hd:g1.dying=none)(T':Nat->qj1->Nat):LP Q F g1 (u1.tp T'):=by
 have a6:=(hr.tape T).next H e hs hd
 obtain⟨h1,h2,h3⟩:=((hr.tape T).one H).go _ _ _ e hs hd
 let T2:Nat->qj1->Nat:=λk q=>if k<u1.drawn then T k q else T' k q
 obtain⟨a9,e2⟩:=h3 T2 λk q _ hk=>by show(if k<u1.drawn then T k q else T' k q)=T k q;rw[if_pos hk]
 rw[q36] at e2;have a7:¬ F g (u.tp T2):=λhh=>hn (by have:=hF _ _ u.tape hh;rwa [q36,Y5] at this);obtain⟨g2,u2,a8,e3,_,_,h4⟩:=LP.inv a7 (h T2);rw[e3] at e2;cases e2;have:=LP.ext H hF h4 (a6.tape T2) (T:=T') λk q hk=>by
  show T' k q=if k<u1.drawn then T k q else T' k q;rw[if_neg (by have:u1.drawn<=k:=hk;omega)]
 exact this
theorem LT.of_all(H:Duo Q Q)(hF:∀g u T,F g u->F g (u.tp T)){g:qgC}{u:qgx}(hr:xC Q base g u)(h:∀T,LP Q F g (u.tp T)):LT Q F g u:=by
 classical
 refine qhF λa9=>?_
 let Bd:qgC × qgx->Prop:=λx=>xC Q base x.1 x.2/\(∀T,LP Q F x.1 (x.2.tp T))/\¬ LT Q F x.1 x.2
 have a8:∀x:{x // Bd x},∃y:(Nat->qj1->Nat) × {y // Bd y},∃es,qi7 Q true x.1.1 (x.1.2.tp y.1) true=.go y.2.1.1 y.2.1.2 es/\y.2.1.1.status=.running/\y.2.1.1.dying=none:=by
  rintro⟨⟨g,u⟩,hr,hl,hn⟩;dsimp only at hr hl hn ⊢;have hf:¬ F g u:=λhf=>hn (.done hf);have b6:∀T,¬ F g (u.tp T):=λT hh=>hf (by have:=hF _ _ u.tape hh;rwa [q36,Y5] at this);refine qhF λa9=>hn (.step hf (λT=>?_) λT g1 u1 es e=>?_)
  ·obtain⟨g1,u1,es,e,hs,hd,_⟩:=LP.inv (b6 T) (hl T);exact⟨g1,u1,es,e,hs,hd⟩
  ·obtain⟨g2,u2,c8,e2,hs,hd,_⟩:=LP.inv (b6 T) (hl T);rw[e] at e2;cases e2;refine qhF λhlt=>a9 ⟨(T,⟨(g1,u1),(hr.tape T).next H e hs hd,λT'=>LP.rest H hF hr hf hl e hs hd T',hlt⟩),es,e,hs,hd⟩
 let nx:{x // Bd x}->(Nat->qj1->Nat) × {y // Bd y}:=λx=>qk2 (a8 x)
 have b0:∀x,∃es,qi7 Q true x.1.1 (x.1.2.tp (nx x).1) true=.go (nx x).2.1.1 (nx x).2.1.2 es/\(nx x).2.1.1.status=.running/\(nx x).2.1.1.dying=none:=λx=>qkj (a8 x)
 let st:Nat->{x // Bd x}:=λn=>Nat.rec ⟨(g,u),hr,h,a9⟩ (λ_ x=>(nx x).2) n
 have hst:∀n,st (n+1)=(nx (st n)).2:=λn=>rfl
 let dr:Nat->Nat:=λn=>(st n).1.2.drawn
 have a7:∀n,dr n<=dr (n+1):=λn=>by
  obtain⟨es,e,hs,hd⟩:=b0 (st n);exact((((st n).2.1.tape _).one H).go _ _ _ e hs hd).2.1
 have a6:∀m n,m<=n->dr m<=dr n:=λm n b8=>by
  induction b8 with
  | refl=>exact qgA _
  | step _ ih=>exact qh0 ih (a7 _)
 let Ts:Nat->qj1->Nat:=λk q=>if hx:∃n,dr n<=k/\k<dr (n+1) then(nx (st (qk2 hx))).1 k q else 0
 have c3:∀n k q,dr n<=k->k<dr (n+1)->Ts k q=(nx (st n)).1 k q:=λn k q h1 h2=>by
  have hx:∃n,dr n<=k/\k<dr (n+1):=⟨n,h1,h2⟩;show(if hx:∃n,dr n<=k/\k<dr (n+1) then(nx (st (qk2 hx))).1 k q else 0)=_;rw[dif_pos hx];obtain⟨h3,h4⟩:=qkj hx;have:qk2 hx=n:=by
   rcases Nat.lt_trichotomy (qk2 hx) n with hlt | he | hgt
   ·exact absurd (qh7 h4 (qh0 (a6 (qk2 hx+1) n hlt) h1)) (qm6 _)
   ·exact he
   ·exact absurd (qh7 h2 (qh0 (a6 (n+1) (qk2 hx) hgt) h3)) (qm6 _)
  rw[this]
 have key:∀(x:qgC) (v:qgx),LP Q F x v->∀n,x=(st n).1.1->v=(st n).1.2.tp Ts->False:=by
  intro x v hl;induction hl with
  | @done g u hf=>
   intro n h1 h2;subst h1;subst h2;exact(st n).2.2.2 (.done (by have:=hF _ _ (st n).1.2.tape hf;rwa [q36,Y5] at this))
  | @step g g1 u u1 es e hs hd _ ih=>
   intro n h1 h2;subst h1;subst h2;obtain⟨c8,e2,b7,hd2⟩:=b0 (st n);obtain⟨_,_,h3⟩:=(((st n).2.1.tape _).one H).go _ _ _ e2 b7 hd2;obtain⟨c9,e3⟩:=h3 Ts λk q hk b9=>c3 n k q hk b9;rw[q36] at e3;rw[e] at e3;cases e3;exact ih (n+1) rfl rfl
 exact key _ _ (h Ts) 0 rfl rfl
end
end
section
def qj(f:qib):qh4:={ fn:=f,tmps:=#[],todo:=[.code (.exit 0)],defers:=[{ target:=.nil,args:=#[] }],mode:=.run,kind:=.normal }
def Popped(f:qib)(fr:qh4):Prop:=fr=qj f\/∃l,fr={ qj f with mode:=.panicking l }
def Stk(f:qib)(g:qgC):Prop:=(∃pre,g.callers=pre++[qj f])\/(g.callers=[]/\Popped f g.frame)
def j6(f:qib)(r:qjo):Prop:=∀g1 u1 es,r=.go g1 u1 es->g1.status=.running->g1.dying=none->Stk f g1
section
variable[JunkSet]{Q:qh2}{f:qib}
theorem jN{s:qjo}{es:Array qiq}(h:j6 f s):j6 f (qic es s):=λg1 u1 es' e hs hd=>by
 obtain⟨e0,h0,_⟩:=j3 e;exact h _ _ _ h0 hs hd
theorem qD{o:Outcome}{u:qgx}{es:Array qiq}:j6 f (.ended o u es):=λ_ _ _ e _ _=>by cases e
theorem qS{fr:qh4}{pre cs:List qh4}{st:qjH}{dy:Option qm4}{off:Option (Array qk9 × qjx)}{u:qgx}{es:Array qiq}(h:cs=pre++[qj f]):j6 f (.go { frame:=fr,callers:=cs,status:=st,dying:=dy,offers:=off } u es):=λ_ _ _ e _ _=>by
 cases e;exact .inl ⟨pre,h⟩
theorem q4a{g:qgC}{u:qgx}{es:Array qiq}(h:g.dying≠none):j6 f (.go g u es):=λ_ _ _ e _ hd=>by cases e;exact absurd hd h
theorem yN{s:qjo}(h:∀g u es,s≠.go g u es):j6 f s:=λg u es e _ _=>absurd e (h g u es)
theorem JH{fr:qh4}{cs:List qh4}{m:String}{u:qgx}:j6 f (qnB Q fr cs none m u):=λg1 u1 es e _ hd=>absurd hd (qY e)
theorem Qd{fr:qh4}{m:String}{u:qgx}:j6 f (qnc fr m u):=q4a (by simp)
theorem vN{c:qh4}{rest:List qh4}{pre:List qh4}(h:c::rest=pre++[qj f]){fr:qh4}{st:qjH}{dy:Option qm4}{u:qgx}{es:Array qiq}(hf:c=qj f->Popped f fr) :j6 f (.go { frame:=fr,callers:=rest,status:=st,dying:=dy } u es):=λ_ _ _ e _ _=>by
 cases e;cases pre with
 | nil=>
  simp only[qho,qk0] at h;exact .inr ⟨h.2,hf h.1⟩
 | cons p pre=>
  simp only[qhe,qk0] at h;exact .inl ⟨pre,h.2⟩
theorem JB:Popped f (qj f):=.inl rfl
theorem QP(v:qgB):Popped f ((qj f).finish v):=.inl rfl
theorem q27(l:List qlG):Popped f ((qj f).raise l):=.inr ⟨l,rfl⟩
theorem QO:∀{cs:List qh4} {fr:qh4} {pre k:List qh4} {v:qgB},cs=pre++[qj f]->qhm fr cs=some (v,k)->∃pre',k=pre'++[qj f]:=by
 intro cs;induction cs with
 | nil=>intro fr pre k v h;cases pre<;>simp at h
 | cons c cs ih=>
  intro fr pre k v h e;unfold qhm at e;cases hk:fr.kind with
  | deferred=>
   rw[hk] at e;dsimp only at e;cases pre with
   | nil=>
    simp only[qho,qk0] at h;rw[h.1] at e;cases e
   | cons p pre=>
    simp only[qhe,qk0] at h;split at e
    ·simp only[qhH,Prod.mk.injEq] at e;exact⟨_::pre,by rw[<- e.2,h.2];rfl⟩
    ·cases e
  | wrapped=>
   rw[hk] at e;dsimp only at e;cases pre with
   | nil=>
    simp only[qho,qk0] at h;rw[h.1,h.2] at e;cases e
   | cons p pre=>
    simp only[qhe,qk0] at h;cases ht:qhm c cs with
    | none=>rw[ht] at e;cases e
    | some x=>
     obtain⟨v',k'⟩:=x;rw[ht] at e;simp only[qip,qhH,Prod.mk.injEq] at e;obtain⟨pre',hp⟩:=ih h.2 ht;exact⟨c::pre',by rw[<- e.2,hp];rfl⟩
  | _=>rw[hk] at e;cases e
theorem xu{fr:qh4}{cs pre:List qh4}(h:cs=pre++[qj f])(v:qgB)(u:qgx):j6 f (qj5 Q true fr cs none v u):=by
 unfold qj5;cases cs with
 | nil=>cases pre<;>simp at h
 | cons c rest=>
  dsimp only;split
  ·exact vN h λe=>e ▸ QP v
  ·exact vN h λe=>e ▸ QP v
  ·exact vN h λe=>e ▸ JB
  ·exact vN h λe=>by subst e;exact JB
theorem q8t{fr fr2:qh4}{X pre cs:List qh4}{st:qjH}{dy:Option qm4}{off:Option (Array qk9 × qjx)}{u:qgx}{es:Array qiq}(h:cs=pre++[qj f]):j6 f (.go { frame:=fr,callers:=X++fr2::cs,status:=st,dying:=dy,offers:=off } u es) :=
 qS (pre:=X++fr2::pre) (by rw[h];simp)
theorem Kb{fr fr2:qh4}{pre cs:List qh4}{st:qjH}{dy:Option qm4}{off:Option (Array qk9 × qjx)}{u:qgx}{es:Array qiq}(h:cs=pre++[qj f]):j6 f (.go { frame:=fr,callers:=fr2::cs,status:=st,dying:=dy,offers:=off } u es) :=
 qS (pre:=fr2::pre) (by rw[h];simp)
theorem q49{fr:qh4}{cs pre:List qh4}(h:cs=pre++[qj f])(g:Nat)(u:qgx):j6 f (early Q fr cs none g u):=by
 unfold early;have h1:∀w:qgx,j6 f (match w.heap[g]? with
  | some (.pending c elem)=>.go { frame:=fr,callers:=cs,status:=.running,dying:=none } { w with heap:=w.heap.setIfInBounds g (.cells c elem) }
  | _=>.ended (.stuck "early: the variable does not wait" (fr.pos Q)) w):=λw=>by
  split
  ·exact qS h
  ·exact qD
 dsimp only;split
 ·exact h1 _
 ·split
  ·exact qD
  ·repeat' split
   all_goals first
    | exact h1 _
    | exact qD
    | exact qS h
    | exact q8t h
    | skip
theorem yO(hrf:Q.follows .rangeFuncRecover=true){fr:qh4}{cs pre:List qh4}(h:cs=pre++[qj f])(s:Sem qlo)(u:qgx):j6 f (qil Q true fr cs none s u):=by
 unfold qil;simp only[if_true,qhA,hrf];refine jN ?_;cases s.run Q u with
 | ok a w=>
  cases a with
  | recover=>
   have hr:∀{v k},qhm fr cs=some (v,k)->j6 f (.go { frame:=fr.finish v,callers:=k,status:=.running,dying:=none } w):=λe=>by
    obtain⟨pre',hp⟩:=QO h e;exact qS hp
   rcases hX:qhm fr cs with _ | ⟨v,k⟩<;>cases hro:fr.roundOf<;>simp only[hX,hro]<;>first | exact hr hX | exact qS h
  | spawn d=>
   dsimp only
   repeat' split
   all_goals first
    | exact Qd
    | exact yN (λ_ _ _ e=>by cases e)
  | _=>
   dsimp only
   repeat' split
   all_goals first
    | exact qS h
    | exact Kb h
    | exact yN (λ_ _ _ e=>by cases e)
 | halt x w=>
  cases x with
  | fatal m=>exact JH
  | throw m=>exact Qd
  | unsupported x=>cases x<;>first | exact q49 h _ _ | exact qD
  | _=>first | exact qS h | exact qD
theorem Kc{fr:qh4}{cs pre:List qh4}(h:cs=pre++[qj f])(d:qiG)(u:qgx):j6 f (qj0 Q fr cs none d u):=by
 unfold qj0;by_cases hc:(kF d.target && kE fr.mode)=true
 ·have:∀(a b:qjo),(∃o u es,a=.ended o u es)->j6 f (if(kF d.target && kE fr.mode)=true then a else b):=λa b ⟨o,u,es,e⟩=>by
   rw[if_pos hc,e];exact qD
  exact this _ _ ⟨_,_,_,rfl⟩
 have a6:∀(a b:qjo),j6 f b->j6 f (if(kF d.target && kE fr.mode)=true then a else b):=λa b hb=>by rw[if_neg hc];exact hb
 refine a6 _ _ ?_;simp only[qhA];refine jN ?_;cases qih Q (invoke d.target d.args) u with
 | ok a w=>
  cases a with
  | recover=>
   dsimp only;split
   ·rename_i e
    obtain⟨pre',hp⟩:=QO h e;exact qS hp
   ·exact qS h
  | coroswitch c e=>cases e<;>first | exact qD | exact yN (λ_ _ _ e=>by cases e)
  | alone on v=>cases on<;>first | exact qD | exact yN (λ_ _ _ e=>by cases e)
  | _=>
   first
    | exact qS h
    | exact Kb h
    | exact qD
    | exact yN (λ_ _ _ e=>by cases e)
 | halt x w=>
  cases x with
  | fatal m=>exact JH
  | throw m=>exact Qd
  | _=>first | exact qS h | exact qD
theorem ZQ{fr:qh4}{cs pre:List qh4}(h:cs=pre++[qj f])(u:qgx):j6 f (qlm Q true fr cs none u):=by
 unfold qlm;split
 ·simp only[qhA];refine jN ?_;split
  ·exact qS h
  ·exact qD
 ·exact Kc h _ _
 ·split
  ·exact qD
  ·split
   ·exact qD
   ·cases cs with
    | nil=>cases pre<;>simp at h
    | cons c rest=>exact vN h λe=>e ▸ q27 _
  ·split
   ·exact xu h _ _
   ·simp only[qhA];refine jN ?_;split
    ·exact xu h _ _
    all_goals exact qD
theorem q5H(hrf:Q.follows .rangeFuncRecover=true){fr:qh4}{cs pre:List qh4}(h:cs=pre++[qj f])(u:qgx):j6 f (qk8 Q true true fr cs none u):=by
 have a6:∀(j:Bool) (jj:Option qje) (s s':String),j6 f (match fr.roundOf with
   | none=>if j=true then .go { frame:={ fr with mode:=.returning },callers:=cs,status:=.running,dying:=none } u else .ended (.stuck s (fr.pos Q)) u
   | some l=>
    let (r,es):=(qjG l jj).runT Q u #[]
    qic (seen Q fr.fn es) <| match r with
    | .ok v w=>qj5 Q true fr cs none v w
    | .halt _ w=>.ended (.stuck s' (fr.pos Q)) w):=λj jj s s'=>by
  split
  ·split
   ·exact qS h
   ·exact qD
  ·simp only[qhA];refine jN ?_;split
   ·exact xu h _ _
   ·exact qD
 unfold qk8;dsimp only;split
 ·exact a6 true _ _ _
 ·exact a6 true _ _ _
 all_goals first
  | exact qS h
  | exact qD
  | exact yO hrf h _ _
  | (
    generalize qmh _ _=X;cases X
    ·exact a6 false _ _ _
    ·exact qS h)
  | (
    generalize qmH _ _=X;cases X
    ·exact a6 false _ _ _
    ·exact qS h)
  | (
    unfold qnq
    repeat' split
    all_goals first
     | exact qS h
     | exact qD
     | exact yO hrf h _ _)
  | (
    simp only[qhA];refine jN ?_
    repeat' split
    all_goals first
     | exact qS h
     | exact qD
     | exact yO hrf h _ _)
  | (
    repeat' split
    all_goals first
     | exact qS h
     | exact qD
     | exact yO hrf h _ _)
  | (
    generalize Extern.next _=X
    cases X
    ·exact qD
    ·exact yO hrf h _ _)
theorem xV(hrf:Q.follows .rangeFuncRecover=true){g:qgC}{pre:List qh4}(h:g.callers=pre++[qj f])(hd:g.dying=none)(u:qgx):j6 f (qi7 Q true g u true):=by
 obtain⟨fr,cs,st,dy,off⟩:=g;dsimp only at h hd;subst hd;unfold qi7;dsimp only;cases fr.mode with
 | run=>exact q5H hrf h u
 | returning=>exact ZQ h u
 | panicking l=>exact ZQ h u
theorem Q0{fr:qh4}(h:Popped f fr)(st:qjH)(off:Option (Array qk9 × qjx))(u:qgx):∃o u' es,qi7 Q true { frame:=fr,callers:=[],status:=st,dying:=none,offers:=off } u true=.ended o u' es:=by
 rcases h with rfl | ⟨l,rfl⟩
 ·exact⟨_,_,_,rfl⟩
 ·exact⟨_,_,_,rfl⟩
end
end
section
def zJ(g:qgC)(u:qgx):Machine:={ world:=u,gs:=#[g],rest:={ timers:=#[],alone:=none,slice:=none } }
section
variable{Q:qh2}
theorem q16{g:qgC}{u:qgx}(h:g.status=.running):move Q (zJ g u)=.goroutine (zJ g u) 0:=by
 simp[move,ask,askOn,zJ,runnable,runnable.go,due,ahead,Goroutine.canRun,qkH,choose,pure,qih,Question.forced,h]
theorem Zy{g g1:qgC}{u u1:qgx}{es:Array qiq}(h:g.status=.running)(e:qi7 Q true g u true=.go g1 u1 es):step Q (zJ g u)=.next (zJ g1 u1):=by
 rw[step,stepT,q16 h];simp[runT,zJ,qrb,e]
theorem yV{g:qgC}{u u1:qgx}{o:Outcome}{es:Array qiq}(h:g.status=.running)(e:qi7 Q true g u true=.ended o u1 es):step Q (zJ g u)=.ended o u1:=by
 rw[step,stepT,q16 h];simp[runT,zJ,qrb,e]
theorem q93{g:qgC}(u:qgx)(h:q52 g):(∃o u1,step Q (zJ g u)=.ended o u1)\/∃g1 u1,step Q (zJ g u)=.next (zJ g1 u1)/\q52 g1:=by
 have jQ:(g.status=.blocked\/g.status=.waiting\/g.status=.finished)->(∃o u1,step Q (zJ g u)=.ended o u1)\/∃g1 u1,step Q (zJ g u)=.next (zJ g1 u1)/\q52 g1:=by
  intro hs;by_cases hw:g.status=.waiting
  ·refine .inr ⟨g,u,?_,.inr (.inl hw)⟩;rw[step,stepT];simp[move,ask,askOn,zJ,runnable,runnable.go,due,ahead,Goroutine.canRun,qkH,choose,pure,qih,Question.forced,hw]
  ·refine .inl ?_;have a7:runnable #[g] u.os.mono=[]:=by
    rcases hs with h | h | h<;>simp[runnable,runnable.go,Goroutine.canRun,h]
   have b0:∀b,ahead (zJ g u) b=none:=by
    intro b;rcases hs with h | h | h<;>simp[ahead,zJ,h]
   rw[step,stepT];have hm:∃o u1,move Q (zJ g u)=.machine (.ended o u1):=by
    have a6:=b0 false;simp only[zJ] at a6;simp only[move,ask,askOn,zJ,a7,due,a6];simp[pure,qih,hw];split
    ·rename_i t ht
     rw[a6] at ht;cases ht
    ·split
     ·exact⟨_,_,rfl⟩
     ·exact⟨_,_,rfl⟩
   obtain⟨o,u1,e⟩:=hm;rw[e];exact⟨o,u1,rfl⟩
 rcases h with h | h | h | ⟨h,d,hd,hc,hf⟩
 ·exact jQ (.inl h)
 ·exact jQ (.inr (.inl h))
 ·exact jQ (.inr (.inr h))
 ·have hst:(∃o u1 es,qi7 Q true g u true=.ended o u1 es)\/∃g1 u1 es,qi7 Q true g u true=.go g1 u1 es/\q52 g1:=by
   obtain⟨fr,cs,st,dy,off⟩:=g;obtain⟨todo,a9,a8,pending,re,b6,fatal⟩:=d;dsimp only at h hd hc hf;subst hd;subst hc;cases fatal with
   | none=>cases hf
   | some f=>
    unfold qi7;dsimp only;unfold die writeOn;dsimp only;split
    ·exact .inl ⟨_,_,_,rfl⟩
    ·split
     ·exact .inr ⟨_,_,_,rfl,.inr (.inr (.inr ⟨rfl,_,rfl,rfl,rfl⟩))⟩
     ·exact .inr ⟨_,_,_,rfl,.inl rfl⟩
     ·exact .inl ⟨_,_,_,rfl⟩
     ·exact .inl ⟨_,_,_,rfl⟩
  rcases hst with⟨o,u1,es,e⟩ | ⟨g1,u1,es,e,hd1⟩
  ·exact .inl ⟨o,u1,yV h e⟩
  ·exact .inr ⟨g1,u1,Zy h e,hd1⟩
theorem q6h:∀(n:Nat) {g g1:qgC} {u u1:qgx},q52 g->runN Q n (zJ g u)=.next (zJ g1 u1)->¬ Live g1:=by
 intro n;induction n with
 | zero=>
  intro g g1 u u1 hd e hl;simp only[runN,Stepped.next.injEq,zJ,Machine.mk.injEq] at e;obtain⟨_,e,_⟩:=e;have e:g=g1:=by simpa using e
  subst e;obtain⟨h1,h2⟩:=hl;rcases hd with h | h | h | ⟨h,d,hd,_⟩
  ·rw[h] at h1;cases h1
  ·rw[h] at h1;cases h1
  ·rw[h] at h1;cases h1
  ·rw[hd] at h2;cases h2
 | succ n ih=>
  intro g g1 u u1 hd e;rcases q93 (Q:=Q) u hd with⟨o,u2,h⟩ | ⟨g2,u2,h,hd2⟩
  ·rw[runN,h] at e;cases e
  ·rw[runN,h] at e;exact ih hd2 e
end
section
variable[JunkSet]{Q:qh2}{base:Nat}{F:qgC->qgx->Prop}
theorem LP.of_runs(H:Duo Q Q){f:qib}:∀(n:Nat) {g g1:qgC} {u u1:qgx} {pre:List qh4},xC Q base g u->Live g->g.callers=pre++[qj f] ->runN Q n (zJ g u)=.next (zJ g1 u1)->Live g1->(∃a6,g1.callers=a6++[qj f])->F g1 u1->LP Q F g u:=by
 intro n;induction n with
 | zero=>
  intro g g1 u u1 pre hr hl hc e a9 _ hF;simp only[runN,Stepped.next.injEq,zJ,Machine.mk.injEq] at e;obtain⟨e1,e,_⟩:=e;have e:g=g1:=by simpa using e
  subst e;subst e1;exact .done hF
 | succ n ih=>
  intro g g1 u u1 pre hr hl hc e a9 b6 hF;have ho:=hr.one H;cases hs:qi7 Q true g u true with
  | go g2 u2 es=>
   rw[runN,Zy hl.1 hs] at e;have a7:=ho.flat;rw[hs] at a7;have hne:g.callers≠[]:=by rw[hc];simp
   rcases a7 with hl2 | hd | hcs
   ·have b8:=hr.next H hs hl2.1 hl2.2
    rcases xV (f:=f) H.rfr hc hl.2 u g2 u2 es hs hl2.1 hl2.2 with⟨b9,a8⟩ | ⟨a8,hp⟩
    ·exact .step hs hl2.1 hl2.2 (ih b8 hl2 a8 e a9 b6 hF)
    ·exfalso;cases n with
     | zero=>
      simp only[runN,Stepped.next.injEq,zJ,Machine.mk.injEq] at e;obtain⟨_,e,_⟩:=e;have e:g2=g1:=by simpa using e
      subst e;obtain⟨a6,h1⟩:=b6;rw[a8] at h1;cases a6<;>simp at h1
     | succ n=>
      obtain⟨fr2,c9,b7,c8,b0⟩:=g2;obtain⟨l1,l2⟩:=hl2;dsimp only at a8 hp l1 l2;subst a8;subst l2;obtain⟨o,u3,c3,h3⟩:=Q0 (Q:=Q) hp b7 b0 u2;unfold runN at e;dsimp only at e;rw[yV l1 h3] at e;cases e
   ·exact absurd a9 (q6h n hd e)
   ·exact absurd hcs hne
  | ended o u2 es=>
   rw[runN,yV hl.1 hs] at e;cases e
  | _=>have a7:=ho.flat;rw[hs] at a7;exact a7.elim
def AtRet(Q:qh2)(f:qib)(cs:List qh4)(R:Ending->qgx->Prop)(g:qgC)(u:qgx):Prop :=
 Live g/\g.callers=cs/\g.frame.fn=f/\∃T e,R e (u.tp T)/\g.frame.leaving Q (u.tp T) e
theorem AtRet.tape{f:qib}{cs:List qh4}{R:Ending->qgx->Prop}{g:qgC}{u:qgx}(T:Nat->qj1->Nat)(h:AtRet Q f cs R g u):AtRet Q f cs R g (u.tp T):=by
 obtain⟨h1,h2,h3,T0,e,h4,h5⟩:=h;exact⟨h1,h2,h3,T0,e,h4,h5⟩
def yd(Q:qh2)(f:qib)(args:Array qgB)(cs:List qh4):qgC:={ frame:=qhD Q f args .normal,callers:=cs,status:=.running,dying:=none }
theorem LT.of_calls(H:Duo Q Q){f:qib}{args:Array qgB}{w:qgx}{R:Ending->qgx->Prop}(hc:∀T,qhw Q f args (w.tp T) R)(a7:∀u,¬ R .outgrown u)(hr:xC Q base (yd Q f args [qj f]) w):LT Q (AtRet Q f [qj f] R) (yd Q f args [qj f]) w:=by
 refine LT.of_all H (λg u T h=>h.tape T) hr λT=>?_;obtain⟨e,w',fr,hR,a6,hfn,a8⟩:=hc T [qj f];have hst:Steps Q (lone (qhD Q f args .normal) [qj f] (w.tp T)) (lone fr [qj f] w'):=by
  cases e with
  | returned v=>exact a6
  | panicked c=>exact a6
  | outgrown=>exact absurd hR (a7 _)
 obtain⟨n,hn⟩:=hst;exact LP.of_runs H (f:=f) n (g:=yd Q f args [qj f]) (g1:={ frame:=fr,callers:=[qj f],status:=.running,dying:=none }) (u:=w.tp T) (pre:=[]) (hr.tape T) ⟨rfl,rfl⟩ rfl hn ⟨rfl,rfl⟩ ⟨[],rfl⟩ ⟨⟨rfl,rfl⟩,rfl,hfn,w'.tape,e,hR,a8⟩
end
end
section
section
variable[JunkSet]{Q P:qh2}{Z:Ren}{base:Nat}{wq w:qgx}{F:qgC->qgx->Prop}
theorem LT.next{g:qgC}{u:qgx}(h:LT Q F g u)(hn:¬ F g u)(T:Nat->qj1->Nat):∃g1 u1 es,qi7 Q true g (u.tp T) true=.go g1 u1 es/\g1.status=.running/\g1.dying=none/\LT Q F g1 u1:=by
 cases h with
 | done h=>exact absurd h hn
 | step _ h1 h2=>
  obtain⟨g1,u1,es,e,hs,hd⟩:=h1 T;exact⟨g1,u1,es,e,hs,hd,h2 T g1 u1 es e⟩
def Below(Q:qh2)(F:qgC->qgx->Prop)(a b:qgC × qgx):Prop :=
 ¬ F b.1 b.2/\∃T es,qi7 Q true b.1 (b.2.tp T) true=.go a.1 a.2 es
theorem LT.acc{g:qgC}{u:qgx}(h:LT Q F g u):Acc (Below Q F) (g,u):=by
 induction h with
 | done h=>exact .intro _ λy hy=>absurd h hy.1
 | step _ _ _ ih=>exact .intro _ λy hy=>let ⟨T,es,e⟩:=hy.2;ih T y.1 y.2 es e
theorem K7(H:Duo Q P)(hb:base<=Z.length)(hw:WR Q base Z wq w)(hG:Gl P Z){g g':qgC}(hg:kO Q P Z g g')(hl:LT Q F g wq)(hn:¬ F g wq)(b:Bool) :∃O g1 wq1 g1' w1 es,qi7 P b g' w true=.go g1' w1 es/\KG Q P O g1 g1'/\WR Q base O wq1 w1/\Gl P O/\base<=O.length/\LT Q F g1 wq1/\Below Q F (g1,wq1) (g,wq)/\Eff base Z O w w1/\(∀e∈es,kR base O e)/\g1.status=.running/\g1.dying=none:=by
 let T:Nat->qj1->Nat:=λn q=>w.tape (n - wq.drawn+w.drawn) q
 obtain⟨g1,u1,es,e,hs,hd,a7⟩:=hl.next hn T
 have a6:WR Q base Z (wq.tp T) w:=⟨hw.len,hw.nodup,hw.lt,hw.obj,hw.low,hw.env,hw.below,hw.gar⟩;have ho:=q3D H hb a6 hG hg;have hm:=(ho.go _ _ _ e hs hd).2.1;have ht:zx u1.drawn (wq.tp T) w:=λn q _=>by
  show w.tape (wq.drawn+n - wq.drawn+w.drawn) q=w.tape (w.drawn+n) q;rw[show wq.drawn+n - wq.drawn+w.drawn=w.drawn+n by omega]
 obtain⟨O,g1',w1,es',k0,k1,k2,_,k4,k5,_⟩:=q0E H hb a6 hG ht hm hg b _ _ _ e (qgA _) hs hd;exact⟨O,g1,u1,g1',w1,es',k0,k1,k2,hG.mono k4.le,qh0 hb k4.le.len,a7,⟨hn,T,es,e⟩,k4,k5,hs,hd⟩
theorem WR.rely(h:WR Q base Z wq w){w2:qgx}(hsz:w.heap.size<=w2.heap.size)(a6:w2.os.env=w.os.env)(hk:∀i j,BR Z i j->¬ JunkSet.jk i->w2.heap[j]?=w.heap[j]?)(hj:∀i j,BR Z i j->JunkSet.jk i->∃c e f,w2.heap[j]?=some (.cells c e f)):WR Q base Z wq w2 where
 len:=h.len
 nodup:=h.nodup
 lt i j hb:=qh7 (h.lt i j hb) hsz
 obj i j o hb ho:=by
  rcases h.obj i j o hb ho with⟨h1,h2,h3,_⟩ | ⟨h1,o',h2,h3⟩
  ·exact .inl ⟨h1,h2,h3,hj i j hb h1⟩
  ·exact .inr ⟨h1,o',by rw[hk i j hb h1];exact h2,h3⟩
 low:=h.low
 env:=h.env.trans a6.symm
 below:=h.below
 gar:=h.gar
end
end
section
def q7n(g:qgC):Prop:=∀r a k,g.frame.todo≠.extern r a::k
def swap(real:List qh4)(g:qgC):qgC:={ g with callers:=g.callers.dropLast++real }
def zu(real:List qh4)(r r':qjo):Prop:=∀g1 u1 es,r=.go g1 u1 es->Live g1->g1.callers≠[]->q7n g1->r'=.go (swap real g1) u1 es
section
variable[JunkSet]{P:qh2}{f:qib}{real:List qh4}
theorem vB{r r':qjo}{es:Array qiq}(h:zu real r r'):zu real (qic es r) (qic es r'):=λg1 u1 es' e hl hc hn=>by
 obtain⟨e0,h0,rfl⟩:=j3 e;rw[h _ _ _ h0 hl hc hn];rfl
theorem qW{o:Outcome}{u:qgx}{es:Array qiq}{r':qjo}:zu real (.ended o u es) r':=λ_ _ _ e _ _ _=>by cases e
theorem xT{r r':qjo}(h:∀g u es,r≠.go g u es):zu real r r':=λg u es e _ _ _=>absurd e (h g u es)
theorem qcr{g:qgC}{u:qgx}{es:Array qiq}{r':qjo}(h:¬ Live g):zu real (.go g u es) r':=λ_ _ _ e hl _ _=>by cases e;exact absurd hl h
theorem q3d{fr:qh4}{cs:List qh4}{m:String}{u:qgx}{r':qjo}:zu real (qnB P fr cs none m u) r':=λg1 u1 es e hl _ _=>absurd hl.2 (qY e)
theorem Yw{fr:qh4}{m:String}{u:qgx}{r':qjo}:zu real (qnc fr m u) r':=qcr λh=>by cases h.2
theorem ym{fr:qh4}{pre:List qh4}{st:qjH}{dy:Option qm4}{off:Option (Array qk9 × qjx)}{u:qgx}{es:Array qiq} :zu real (.go { frame:=fr,callers:=pre++[qj f],status:=st,dying:=dy,offers:=off } u es) (.go { frame:=fr,callers:=pre++real,status:=st,dying:=dy,offers:=off } u es):=λ_ _ _ e _ _ _=>by
 cases e;simp[swap]
theorem q6y{fr fr2:qh4}{pre:List qh4}{st:qjH}{dy:Option qm4}{off:Option (Array qk9 × qjx)}{u:qgx}{es:Array qiq} :zu real (.go { frame:=fr,callers:=fr2::(pre++[qj f]),status:=st,dying:=dy,offers:=off } u es) (.go { frame:=fr,callers:=fr2::(pre++real),status:=st,dying:=dy,offers:=off } u es) :=
 ym (pre:=fr2::pre)
theorem qep{fr fr2:qh4}{X pre:List qh4}{st:qjH}{dy:Option qm4}{off:Option (Array qk9 × qjx)}{u:qgx}{es:Array qiq} :zu real (.go { frame:=fr,callers:=X++fr2::(pre++[qj f]),status:=st,dying:=dy,offers:=off } u es) (.go { frame:=fr,callers:=X++fr2::(pre++real),status:=st,dying:=dy,offers:=off } u es):=λ_ _ _ e _ _ _=>by
 cases e;have:X++fr2::(pre++[qj f])=(X++fr2::pre)++[qj f]:=by simp
 simp only[swap,this,qnC];simp
theorem q9D{fr:qh4}{st:qjH}{dy:Option qm4}{u:qgx}{es:Array qiq}{r':qjo}:zu real (.go { frame:=fr,callers:=[],status:=st,dying:=dy } u es) r':=λ_ _ _ e _ hc _=>by
 cases e;exact absurd rfl hc
theorem q9E{fr:qh4}{cs:List qh4}{st:qjH}{dy:Option qm4}{u:qgx}{es:Array qiq}{r':qjo}{x:String}{a:Array qgB}{k:List qkD}(h:fr.todo=.extern x a::k):zu real (.go { frame:=fr,callers:=cs,status:=st,dying:=dy } u es) r':=λ_ _ _ e _ _ hn=>by
 cases e;exact absurd h (hn _ _ _)
theorem jU(fr:qh4):qhm fr [qj f]=none:=by
 unfold qhm;cases fr.kind<;>rfl
theorem ZH(hR:∀fr,qhm fr real=none):∀(pre:List qh4) (fr:qh4),(qhm fr (pre++[qj f])=none/\qhm fr (pre++real)=none)\/∃v pre',qhm fr (pre++[qj f])=some (v,pre'++[qj f])/\qhm fr (pre++real)=some (v,pre'++real):=by
 intro pre;induction pre with
 | nil=>intro fr;exact .inl ⟨jU fr,hR fr⟩
 | cons p pre ih=>
  intro fr;simp only[qhe];unfold qhm;cases hk:fr.kind with
  | deferred=>
   dsimp only;split
   ·exact .inr ⟨_,_::pre,rfl,rfl⟩
   ·exact .inl ⟨rfl,rfl⟩
  | wrapped=>
   dsimp only;rcases ih p with⟨h1,h2⟩ | ⟨v,pre',h1,h2⟩
   ·rw[h1,h2];exact .inl ⟨rfl,rfl⟩
   ·rw[h1,h2];exact .inr ⟨v,p::pre',rfl,rfl⟩
  | _=>exact .inl ⟨rfl,rfl⟩
theorem J5{fr:qh4}{pre:List qh4}(b b':Bool)(v:qgB)(u:qgx):zu real (qj5 P b fr (pre++[qj f]) none v u) (qj5 P b' fr (pre++real) none v u):=by
 unfold qj5;cases pre with
 | nil=>
  simp only[qho];split<;>exact q9D
 | cons p pre=>
  simp only[qhe];split<;>exact ym
theorem q9F{fr:qh4}{pre:List qh4}(g:Nat)(u:qgx):zu real (early P fr (pre++[qj f]) none g u) (early P fr (pre++real) none g u):=by
 unfold early;dsimp only
 repeat' split
 all_goals first
  | exact ym
  | exact qW
  | exact qep
theorem xU(hrf:P.follows .rangeFuncRecover=true)(hR:∀fr,qhm fr real=none){fr:qh4}{pre:List qh4}(s:Sem qlo)(u:qgx):zu real (qil P true fr (pre++[qj f]) none s u) (qil P true fr (pre++real) none s u):=by
 unfold qil;simp only[if_true,qhA,hrf];refine vB ?_;cases s.run P u with
 | ok a w=>
  cases a with
  | recover=>
   rcases ZH (f:=f) hR pre fr with⟨h1,h2⟩ | ⟨v,pre',h1,h2⟩<;>cases hro:fr.roundOf<;>simp only[h1,h2,hro]<;>exact ym
  | stack r sv=>
   dsimp only;split
   ·exact q9E rfl
   ·exact q9E rfl
  | spawn d=>
   dsimp only
   repeat' split
   all_goals first
    | exact Yw
    | exact xT (λ_ _ _ e=>by cases e)
  | _=>
   dsimp only
   repeat' split
   all_goals first
    | exact ym
    | exact q6y
    | exact xT (λ_ _ _ e=>by cases e)
 | halt x w=>
  cases x with
  | fatal m=>exact q3d
  | throw m=>exact Yw
  | unsupported x=>cases x<;>first | exact q9F _ _ | exact qW
  | _=>first | exact ym | exact qW
theorem q3e(hR:∀fr,qhm fr real=none){fr:qh4}{pre:List qh4}(d:qiG)(u:qgx):zu real (qj0 P fr (pre++[qj f]) none d u) (qj0 P fr (pre++real) none d u):=by
 unfold qj0;by_cases hc:(kF d.target && kE fr.mode)=true
 ·have:∀(a b r':qjo),(∃o u es,a=.ended o u es)->zu real (if(kF d.target && kE fr.mode)=true then a else b) r':=λa b r' ⟨o,u,es,e⟩=>by
   rw[if_pos hc,e];exact qW
  exact this _ _ _ ⟨_,_,_,rfl⟩
 have a6:∀(a b a' b':qjo),zu real b b'->zu real (if(kF d.target && kE fr.mode)=true then a else b) (if(kF d.target && kE fr.mode)=true then a' else b'):=λa b a' b' hb=>by rw[if_neg hc,if_neg hc];exact hb
 refine a6 _ _ _ _ ?_;simp only[qhA];refine vB ?_;cases qih P (invoke d.target d.args) u with
 | ok a w=>
  cases a with
  | recover=>
   dsimp only;rcases ZH (f:=f) hR pre fr with⟨h1,h2⟩ | ⟨v,pre',h1,h2⟩<;>rw[h1,h2]<;>cases fr.mode<;>exact ym
  | coroswitch c e=>cases e<;>first | exact qW | exact xT (λ_ _ _ e=>by cases e)
  | alone on v=>cases on<;>first | exact qW | exact xT (λ_ _ _ e=>by cases e)
  | _=>
   first
    | exact ym
    | exact q6y
    | exact qW
    | exact xT (λ_ _ _ e=>by cases e)
 | halt x w=>
  cases x with
  | fatal m=>exact q3d
  | throw m=>exact Yw
  | _=>first | exact ym | exact qW
theorem q0q(hR:∀fr,qhm fr real=none){fr:qh4}{pre:List qh4}(b b':Bool)(u:qgx):zu real (qlm P b fr (pre++[qj f]) none u) (qlm P b' fr (pre++real) none u):=by
 unfold qlm;split
 ·simp only[qhA];refine vB ?_;split
  ·exact ym
  ·exact qW
 ·exact q3e hR _ _
 ·split
  ·exact qW
  ·split
   ·exact qW
   ·cases pre with
    | nil=>exact q9D
    | cons p pre=>exact ym
  ·split
   ·exact J5 _ _ _ _
   ·simp only[qhA];refine vB ?_;split
    ·exact J5 _ _ _ _
    all_goals exact qW
theorem qcq(hrf:P.follows .rangeFuncRecover=true)(hR:∀fr,qhm fr real=none){fr:qh4}{pre:List qh4}(b b':Bool)(u:qgx) :zu real (qk8 P b true fr (pre++[qj f]) none u) (qk8 P b' true fr (pre++real) none u):=by
 have a6:∀(j:Bool) (jj:Option qje) (s s':String),zu real (match fr.roundOf with
   | none=>if j=true then .go { frame:={ fr with mode:=.returning },callers:=pre++[qj f],status:=.running,dying:=none } u else .ended (.stuck s (fr.pos P)) u
   | some l=>
    let (r,es):=(qjG l jj).runT P u #[]
    qic (seen P fr.fn es) <| match r with
    | .ok v w=>qj5 P b fr (pre++[qj f]) none v w
    | .halt _ w=>.ended (.stuck s' (fr.pos P)) w) (match fr.roundOf with
   | none=>if j=true then .go { frame:={ fr with mode:=.returning },callers:=pre++real,status:=.running,dying:=none } u else .ended (.stuck s (fr.pos P)) u
   | some l=>
    let (r,es):=(qjG l jj).runT P u #[]
    qic (seen P fr.fn es) <| match r with
    | .ok v w=>qj5 P b' fr (pre++real) none v w
    | .halt _ w=>.ended (.stuck s' (fr.pos P)) w):=λj jj s s'=>by
  split
  ·split
   ·exact ym
   ·exact qW
  ·simp only[qhA];refine vB ?_;split
   ·exact J5 _ _ _ _
   ·exact qW
 unfold qk8;dsimp only;split
 ·exact a6 true _ _ _
 ·exact a6 true _ _ _
 all_goals first
  | exact ym
  | exact qW
  | exact xU hrf hR _ _
  | (
    generalize qmh _ _=X;cases X
    ·exact a6 false _ _ _
    ·exact ym)
  | (
    generalize qmH _ _=X;cases X
    ·exact a6 false _ _ _
    ·exact ym)
  | (
    unfold qnq
    repeat' split
    all_goals first
     | exact ym
     | exact qW
     | exact xU hrf hR _ _)
  | (
    simp only[qhA];refine vB ?_
    repeat' split
    all_goals first
     | exact ym
     | exact qW
     | exact xU hrf hR _ _)
  | (
    repeat' split
    all_goals first
     | exact ym
     | exact qW
     | exact xU hrf hR _ _)
  | (
    generalize Extern.next _=X
    cases X
    ·exact qW
    ·exact xU hrf hR _ _)
theorem q0p(hrf:P.follows .rangeFuncRecover=true)(hR:∀fr,qhm fr real=none){g:qgC}{pre:List qh4}(h:g.callers=pre++[qj f])(hd:g.dying=none)(b b':Bool)(u:qgx) :zu real (qi7 P b g u true) (qi7 P b' (swap real g) u true):=by
 obtain⟨fr,cs,st,dy,off⟩:=g;dsimp only at h hd;subst hd;subst h;unfold qi7;simp only[swap,qnC];cases fr.mode with
 | run=>exact qcq hrf hR b b' u
 | returning=>exact q0q hR b b' u
 | panicking l=>exact q0q hR b b' u
end
end
end Go.Sim
