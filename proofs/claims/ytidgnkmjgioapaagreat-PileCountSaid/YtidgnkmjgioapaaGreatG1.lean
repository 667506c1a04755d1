/-
  Part 1 of the proof. gladstonelaw04.PileCount answers true for every list of numbers, and leaves its argument as it was. No conditions.
-/
import GoSem.Step
import Derived.StepT
import Derived.Laws.Sem
import Derived.Conc.Events
import Derived.Calls
set_option maxRecDepth 100000
set_option maxHeartbeats 8000000
set_option linter.all false
open Array renaming all_eq_true_iff_forall_mem → qaD,foldl_toList → qdC,forIn_toList → qd8,getD_eq_getD_getElem? → qau,getElem?_append → qcr,getElem?_eq_getElem → q8B,getElem?_eq_some_iff → q3h,getElem?_setIfInBounds → q9A,mapM_eq_mapM_toList → qcC,mem_append → qcj,mem_of_getElem? → qaF,mem_toList_iff → qbw
open Bool renaming and_eq_true → q85,false_eq_true → q9g,or_eq_true → qbC
open Classical renaming byContradiction → qb6,choose → qc9,choose_spec → qcs
open Go renaming Addr → qai,Calls → qa0,Code → qbs,CommCase → qch,CommShape → qbF,Deferred → qba,Event → qaz,Frame → q7n,FuncId → qam,GStep → qby,GoStatus → qc6,Goroutine → q4y,Item → qcG,MapEntry → qct,Next → qdb,Oper → qaG,Operand → qa4,Program → q7m,Question → qbe,Result → qd7,TypeId → q7x,Value → q4k,World → q2v,behindNumber → qbx,boundsPanic → qd5,callDeferred → qbd,cellAtBytes → qdE,doReturn → qbh,runtimePanic → qcv,stepG → qag,tryRecover → q92,typeInfo → qd3,undef → q4D,underlying → qco
open Go.Builtin renaming unsafeAdd_ → qbk,zeroCells → qbq
open Go.Frame renaming enter → q9v
open Go.GStep renaming after → qan
open Go.GStep.go renaming injEq → qcH
open Go.Instr renaming checkKey → qcF,endRound → qc5,enterLoop → qdA,fill → qds,keyThatStays → qat,mapUpdate → qb4,sameBits → qbE,sliceBound → qck,typeAssert → qcE
open Go.Region renaming wanted → qac
open Go.Result renaming andThen_ok → qb2
open Go.Sem renaming bind → qdq,events_bind → qdk,run → qar,runT → qdf,runT_eq → q9h,run_bind → qb1
open Go.World renaming cell? → q9q,farStore → qdr,setCell → qbc
open Go.stepG renaming apply → qaw,exec → qcg
open List renaming all_eq_true → qaf,cons_append → q8G,getElem?_append_left → q9p,getElem?_eq_some_iff → q7G,mapM_cons → qdF,mem_toArray → qcl,nil_append → q9k
open List.cons renaming injEq → qc7
open Nat renaming le_refl → q4u,le_trans → q6s,lt_irrefl → qdl,lt_of_lt_of_le → q7u,lt_or_ge → qb5
open Option renaming getD_some → q72,map_some → qaC
open Option.some renaming injEq → q9B
open Std.Legacy.Range renaming forIn_eq_forIn_range' → qbf
section
namespace Go.Sim
abbrev Ren:=List (Option Nat)
def BR(ρ:Ren)(i j:Nat):Prop:=ρ[i]?=some (some j)
def Inj(ρ:Ren):Prop:=∀i i' j,BR ρ i j->BR ρ i' j->i=i'
def Out(ρ:Ren)(j:Nat):Prop:=∀i,¬ BR ρ i j
def Le(ρ σ:Ren):Prop:=(∃τ,σ=ρ++τ)/\(Inj ρ->Inj σ)
theorem BR.lt{ρ:Ren}{i j:Nat}(h:BR ρ i j):i<ρ.length:=by
 unfold BR at h;exact(q7G.1 h).1
theorem BR.new(ρ:Ren)(j:Nat):BR (ρ++[some j]) ρ.length j:=by simp[BR]
theorem BR.fn{ρ:Ren}{i j k:Nat}(h:BR ρ i j)(h':BR ρ i k):j=k:=by
 unfold BR at h h';rw[h] at h';exact Option.some.inj (Option.some.inj h')
theorem Le.refl(ρ:Ren):Le ρ ρ:=⟨⟨[],by simp⟩,id⟩
theorem Le.trans{a b c:Ren}(h:Le a b)(k:Le b c):Le a c:=by
 obtain⟨⟨x,rfl⟩,h2⟩:=h;obtain⟨⟨y,rfl⟩,k2⟩:=k;exact⟨⟨x++y,by simp⟩,λn=>k2 (h2 n)⟩
theorem BR.snoc_cases{ρ:Ren}{x:Option Nat}{i j:Nat}(h:BR (ρ++[x]) i j):(i<ρ.length/\BR ρ i j)\/(i=ρ.length/\x=some j):=by
 have hl:=h.lt;simp at hl;unfold BR at h ⊢;rcases qb5 i ρ.length with h1 | h1
 ·rw[q9p h1] at h
  exact .inl ⟨h1,h⟩
 ·have e:i=ρ.length:=by omega
  subst e;simp at h;exact .inr ⟨rfl,h⟩
theorem Le.snoc(ρ:Ren)(j:Nat)(hj:Out ρ j):Le ρ (ρ++[some j]):=⟨⟨[some j],rfl⟩,λn i i' k h h'=>by
 rcases h.snoc_cases with⟨_,h⟩ | ⟨h1,h2⟩<;>rcases h'.snoc_cases with⟨_,h'⟩ | ⟨h1',h2'⟩
 ·exact n i i' k h h'
 ·cases h2';exact absurd h (hj i)
 ·cases h2;exact absurd h' (hj i')
 ·rw[h1,h1']⟩
theorem BR.mono{ρ σ:Ren}{i j:Nat}(h:BR ρ i j)(l:Le ρ σ):BR σ i j:=by
 obtain⟨⟨τ,rfl⟩,_⟩:=l;have hl:=h.lt;unfold BR at h ⊢;rw[q9p hl];exact h
def exotic:q4k->Bool
 | .bool _ | .int _ _ | .string _ | .pointer none | .slice none _ _ | .map none | .nilFunc | .nilIface | .agg _ | .tuple _ | .func (.method _) _ _=>false
 | _=>true
class JunkSet where
 jk:Nat->Prop
 okf:qam->Prop
 okm:String->Prop
 okc:qbs->Prop
 okb:Builtin->Array q7x->Prop
 okg:qam->Prop
section
variable[JunkSet]
inductive FnR (ρ:Ren):Fn->Fn->Prop
 | func (f:qam):JunkSet.okf f->FnR ρ (.func f) (.func f)
 | yield {i j:Nat}:BR ρ i j->FnR ρ (.yield i) (.yield j)
inductive VR (ρ:Ren):q4k->q4k->Prop
 | bool (b:Bool):VR ρ (.bool b) (.bool b)
 | int (k:IntKind) (n:Int):VR ρ (.int k n) (.int k n)
 | string (s:ByteArray):VR ρ (.string s) (.string s)
 | ptrNil:VR ρ (.pointer none) (.pointer none)
 | ptr {i j:Nat} (off:Nat) (spot:Option Nat):BR ρ i j->VR ρ (.pointer (some ⟨i,off,spot⟩)) (.pointer (some ⟨j,off,spot⟩))
 | sliceNil (n c:Nat):VR ρ (.slice none n c) (.slice none n c)
 | slice {i j:Nat} (off:Nat) (spot:Option Nat) (n c:Nat):BR ρ i j->VR ρ (.slice (some ⟨i,off,spot⟩) n c) (.slice (some ⟨j,off,spot⟩) n c)
 | mapNil:VR ρ (.map none) (.map none)
 | map {i j:Nat}:BR ρ i j->VR ρ (.map (some i)) (.map (some j))
 | func {f f':Fn} {a a' c c':Array q4k}:FnR ρ f f'->a.size=a'.size->(∀(i:Nat) (x y:q4k),a[i]?=some x->a'[i]?=some y->VR ρ x y) ->
   c.size=c'.size->(∀(i:Nat) (x y:q4k),c[i]?=some x->c'[i]?=some y->VR ρ x y)->VR ρ (.func f a c) (.func f' a' c')
 | nilFunc:VR ρ .nilFunc .nilFunc
 | iface (t:q7x) {v v':q4k}:VR ρ v v'->VR ρ (.iface t v) (.iface t v')
 | nilIface:VR ρ .nilIface .nilIface
 | agg {a a':Array q4k}:a.size=a'.size->(∀(i:Nat) (x y:q4k),a[i]?=some x->a'[i]?=some y->VR ρ x y)->VR ρ (.agg a) (.agg a')
 | tuple {a a':Array q4k}:a.size=a'.size->(∀(i:Nat) (x y:q4k),a[i]?=some x->a'[i]?=some y->VR ρ x y)->VR ρ (.tuple a) (.tuple a')
 | wild (y:q4k):exotic y=true->VR ρ (.chan none) y
 | meth (n:String) (a c:Array q4k):VR ρ (.func (.method "") #[.iface 0 .nilIface] #[]) (.func (.method n) a c)
theorem FnR.mono{ρ σ:Ren}(l:Le ρ σ){f f':Fn}(h:FnR ρ f f'):FnR σ f f':=by
 cases h with
 | func f h=>exact .func f h
 | yield h=>exact .yield (h.mono l)
theorem VR.mono{ρ σ:Ren}(l:Le ρ σ){v v':q4k}(h:VR ρ v v'):VR σ v v':=by
 induction h with
 | bool b=>exact .bool b
 | int k n=>exact .int k n
 | string s=>exact .string s
 | ptrNil=>exact .ptrNil
 | ptr off spot h=>exact .ptr off spot (h.mono l)
 | sliceNil n c=>exact .sliceNil n c
 | slice off spot n c h=>exact .slice off spot n c (h.mono l)
 | mapNil=>exact .mapNil
 | map h=>exact .map (h.mono l)
 | func hf h1 _ h2 _ ih1 ih2=>exact .func (hf.mono l) h1 ih1 h2 ih2
 | nilFunc=>exact .nilFunc
 | iface t _ ih=>exact .iface t ih
 | nilIface=>exact .nilIface
 | agg h _ ih=>exact .agg h ih
 | tuple h _ ih=>exact .tuple h ih
 | wild y h=>exact .wild y h
 | meth n a c=>exact .meth n a c
def AsR(ρ:Ren)(a b:Array q4k):Prop:=a.size=b.size/\∀(i:Nat) (x y:q4k),a[i]?=some x->b[i]?=some y->VR ρ x y
inductive LsR {α β:Type} (R:α->β->Prop):List α->List β->Prop
 | nil:LsR R [] []
 | cons {x:α} {y:β} {l:List α} {m:List β}:R x y->LsR R l m->LsR R (x::l) (y::m)
section
variable{α β:Type}{R:α->β->Prop}
theorem LsR.imp{S:α->β->Prop}(h:∀x y,R x y->S x y){l:List α}{m:List β}(k:LsR R l m):LsR S l m:=by
 induction k with
 | nil=>exact .nil
 | cons a _ ih=>exact .cons (h _ _ a) ih
theorem LsR.length{l:List α}{m:List β}(h:LsR R l m):l.length=m.length:=by
 induction h with
 | nil=>rfl
 | cons _ _ ih=>simp[ih]
theorem LsR.append{l l':List α}{m m':List β}(h:LsR R l m)(h':LsR R l' m'):LsR R (l++l') (m++m'):=by
 induction h with
 | nil=>exact h'
 | cons a _ ih=>exact .cons a ih
theorem q5k{l:List α}{m:List β}:LsR R l m↔l.length=m.length/\∀(i:Nat) (x:α) (y:β),l[i]?=some x->m[i]?=some y->R x y:=by
 constructor
 ·intro h
  refine⟨h.length,?_⟩;induction h with
  | nil=>intro i x y hx;simp at hx
  | cons a _ ih =>
   intro i x y hx hy;cases i with
   | zero=>simp at hx hy;subst hx;subst hy;exact a
   | succ i=>exact ih i x y (by simpa using hx) (by simpa using hy)
 ·rintro⟨h1,h2⟩
  induction l generalizing m with
  | nil=>cases m with
   | nil=>exact .nil
   | cons _ _=>simp at h1
  | cons x l ih=>cases m with
   | nil=>simp at h1
   | cons y m=>exact .cons (h2 0 x y rfl rfl) (ih (by simpa using h1) λi a b ha hb=>h2 (i+1) a b (by simpa using ha) (by simpa using hb))
end
section
variable{ρ σ:Ren}{a b a' b':Array q4k}
theorem ze:AsR ρ a b↔LsR (VR ρ) a.toList b.toList:=by
 rw[q5k];simp[AsR]
theorem AsR.mono(l:Le ρ σ)(h:AsR ρ a b):AsR σ a b:=⟨h.1,λi x y hx hy=>(h.2 i x y hx hy).mono l⟩
theorem AsR.get(h:AsR ρ a b){i:Nat}{x:q4k}(hx:a[i]?=some x):∃y,b[i]?=some y/\VR ρ x y:=by
 have hi:i<b.size:=h.1 ▸ (q3h.1 hx).1;exact⟨b[i],q8B hi,h.2 i x _ hx (q8B hi)⟩
theorem AsR.get_none(h:AsR ρ a b){i:Nat}(hx:a[i]?=none):b[i]?=none:=by
 rw[Array.getElem?_eq_none_iff] at hx ⊢;exact h.1 ▸ hx
theorem AsR.getD(h:AsR ρ a b)(i:Nat){d d':q4k}(hd:VR ρ d d'):VR ρ (a.getD i d) (b.getD i d'):=by
 rw[qau,qau];cases ha:a[i]? with
 | none=>rw[h.get_none ha];exact hd
 | some x=>obtain⟨y,hy,hv⟩:=h.get ha;rw[hy];exact hv
theorem AsR.nil:AsR ρ #[] #[]:=⟨rfl,λi x y hx=>by simp at hx⟩
theorem AsR.append(h:AsR ρ a b)(h':AsR ρ a' b'):AsR ρ (a++a') (b++b'):=by
 rw[ze] at *
 simpa using h.append h'
theorem AsR.push(h:AsR ρ a b){x y:q4k}(hv:VR ρ x y):AsR ρ (a.push x) (b.push y):=by
 rw[ze] at *
 simpa using h.append (.cons hv .nil)
theorem AsR.one{x y:q4k}(hv:VR ρ x y):AsR ρ #[x] #[y]:=by
 rw[ze];exact .cons hv .nil
theorem AsR.set(h:AsR ρ a b)(i:Nat){x y:q4k}(hv:VR ρ x y):AsR ρ (a.setIfInBounds i x) (b.setIfInBounds i y):=by
 refine⟨by simpa using h.1,λj u v hu Z=>?_⟩;rw[q9A] at hu Z;by_cases hij:i=j
 ·subst hij
  by_cases hi:i<a.size
  ·rw[if_pos rfl,if_pos hi] at hu
   rw[if_pos rfl,if_pos (h.1 ▸ hi)] at Z;cases hu;cases Z;exact hv
  ·rw[if_pos rfl,if_neg hi] at hu
   cases hu
 ·rw[if_neg hij] at hu Z
  exact h.2 j u v hu Z
theorem AsR.extract(h:AsR ρ a b)(i j:Nat):AsR ρ (a.extract i j) (b.extract i j):=by
 refine⟨by simp[h.1],λk x y hx hy=>?_⟩;rw[Array.getElem?_extract] at hx hy;split at hx
 ·split at hy
  ·exact h.2 _ x y hx hy
  ·cases hy
 ·cases hx
end
inductive kP:q4k->Prop
 | bool (b:Bool):kP (.bool b)
 | int (k:IntKind) (n:Int):kP (.int k n)
 | string (s:ByteArray):kP (.string s)
 | ptrNil:kP (.pointer none)
 | sliceNil (n c:Nat):kP (.slice none n c)
 | mapNil:kP (.map none)
 | nilFunc:kP .nilFunc
 | nilIface:kP .nilIface
 | agg {a:Array q4k}:(∀(i:Nat) (x:q4k),a[i]?=some x->kP x)->kP (.agg a)
 | tuple {a:Array q4k}:(∀(i:Nat) (x:q4k),a[i]?=some x->kP x)->kP (.tuple a)
theorem kP.vr(ρ:Ren){v:q4k}(h:kP v):VR ρ v v:=by
 induction h with
 | bool b=>exact .bool b
 | int k n=>exact .int k n
 | string s=>exact .string s
 | ptrNil=>exact .ptrNil
 | sliceNil n c=>exact .sliceNil n c
 | mapNil=>exact .mapNil
 | nilFunc=>exact .nilFunc
 | nilIface=>exact .nilIface
 | agg _ ih=>exact .agg rfl λi x y hx hy=>by rw[hx] at hy;cases hy;exact ih i x hx
 | tuple _ ih=>exact .tuple rfl λi x y hx hy=>by rw[hx] at hy;cases hy;exact ih i x hx
def YF:q4k->Bool
 | .bool _ | .int _ _ | .string _ | .pointer none | .slice none _ _ | .map none | .nilFunc | .nilIface=>true
 | _=>false
def bareB:q4k->Bool
 | .agg a | .tuple a=>a.toList.all λv=>match v with
   | .agg b | .tuple b=>b.toList.all YF
   | v=>YF v
 | v=>YF v
theorem YE{v:q4k}(h:YF v=true):kP v:=by
 cases v with
 | bool b=>exact .bool b
 | int k n=>exact .int k n
 | string s=>exact .string s
 | pointer a=>cases a with
  | none=>exact .ptrNil
  | some _=>cases h
 | slice a n c=>cases a with
  | none=>exact .sliceNil n c
  | some _=>cases h
 | map a=>cases a with
  | none=>exact .mapNil
  | some _=>cases h
 | chan a=>cases h
 | float k b=>cases h
 | complex k a b=>cases h
 | func _ _ _=>cases h
 | nilFunc=>exact .nilFunc
 | iface _ _=>cases h
 | nilIface=>exact .nilIface
 | agg _=>cases h
 | tuple _=>cases h
theorem q06{a:Array q4k}(h:a.toList.all YF=true)(i:Nat)(x:q4k)(hx:a[i]?=some x):kP x:=by
 rw[qaf] at h;exact YE (h x (by rw[qbw];exact qaF hx))
theorem q1b{v:q4k}(h:bareB v=true):kP v:=by
 have key:∀a:Array q4k,(a.toList.all λv=>match v with
   | .agg b | .tuple b=>b.toList.all YF
   | v=>YF v)=true->∀(i:Nat) (x:q4k),a[i]?=some x->kP x:=by
  intro a ha i x hx;rw[qaf] at ha;have:=ha x (by rw[qbw];exact qaF hx);cases x with
  | agg b=>exact .agg (q06 this)
  | tuple b=>exact .tuple (q06 this)
  | _=>exact YE this
 cases v with
 | agg a=>exact .agg (key a h)
 | tuple a=>exact .tuple (key a h)
 | _=>exact YE h
structure yP(ρ:Ren)(e e':qct):Prop where
 key:VR ρ e.key e'.key
 val:VR ρ e.val e'.val
 born:e'.born=e.born
inductive jW (ρ:Ren):Target->Target->Prop
 | fn {f f':Fn} {c c':Array q4k}:FnR ρ f f'->AsR ρ c c'->jW ρ (.fn f c) (.fn f' c')
 | meth (n:String):JunkSet.okm n->jW ρ (.fn (.method n) #[]) (.fn (.method n) #[])
 | nil:jW ρ .nil .nil
 | builtin (b:Builtin) (a:Array q7x) (t:q7x) (c:Array Bool):JunkSet.okb b a->jW ρ (.builtin b a t c) (.builtin b a t c)
 | collected {i j:Nat}:BR ρ i j->jW ρ (.collected i) (.collected j)
inductive yF (ρ:Ren) (d d':qba):Prop
 | mk:jW ρ d.target d'.target->AsR ρ d.args d'.args->yF ρ d d'
 | bound:d.target=.fn (.method "") #[]->d.args[0]?=some (.iface 0 .nilIface)->(∃n c,d'.target=.fn (.method n) c)->yF ρ d d'
structure Qs(ρ:Ren)(l l':Loop):Prop where
 state:l'.state=l.state
 pending:l'.pending=l.pending
 fn:l'.fn=l.fn
 tmps:AsR ρ l.tmps l'.tmps
 params:l'.params=l.params
 assign:l'.assign=l.assign
 body:l'.body=l.body
 defers:BR ρ l.defers l'.defers
 okF:JunkSet.okg l.fn
 okA:JunkSet.okc l.assign
 okB:JunkSet.okc l.body
 okP:∀c,l.pending=some c->JunkSet.okc c
inductive ObR (ρ:Ren):Obj->Obj->Prop
 | cells {c c':Array q4k} (e:q7x) {f f':Nat × Nat}:AsR ρ c c'->(∀o,f'.1<=o->o<f'.2->f.1<=o/\o<f.2)->ObR ρ (.cells c e f) (.cells c' e f')
 | map {es es':Array qct} (clock:Nat):LsR (yP ρ) es.toList es'.toList->ObR ρ (.map es clock) (.map es' clock)
 | stringIter (s:ByteArray) (p:Nat):ObR ρ (.stringIter s p) (.stringIter s p)
 | mapIterNil (a:Nat) (s:Array Nat) (b:Nat):ObR ρ (.mapIter none a s b) (.mapIter none a s b)
 | mapIter {i j:Nat} (a:Nat) (s:Array Nat) (b:Nat):BR ρ i j->ObR ρ (.mapIter (some i) a s b) (.mapIter (some j) a s b)
 | loop {l l':Loop}:Qs ρ l l'->ObR ρ (.loop l) (.loop l')
 | number {i j:Nat} (o:Nat) (s:Option Nat) (lost:Bool):BR ρ i j->ObR ρ (.number ⟨i,o,s⟩ lost) (.number ⟨j,o,s⟩ lost)
 | deferredNone:ObR ρ (.deferred none) (.deferred none)
 | deferred {l l':List qba}:LsR (yF ρ) l l'->ObR ρ (.deferred (some l)) (.deferred (some l'))
section
variable{ρ σ:Ren}
theorem yP.mono(l:Le ρ σ){a b:qct}(h:yP ρ a b):yP σ a b:=⟨h.key.mono l,h.val.mono l,h.born⟩
theorem jW.mono(l:Le ρ σ){a b:Target}(h:jW ρ a b):jW σ a b:=by
 cases h with
 | fn h1 h2=>exact .fn (h1.mono l) (h2.mono l)
 | meth n h=>exact .meth n h
 | nil=>exact .nil
 | builtin b a t c h=>exact .builtin b a t c h
 | collected h=>exact .collected (h.mono l)
theorem yF.mono(l:Le ρ σ){a b:qba}(h:yF ρ a b):yF σ a b:=by
 cases h with
 | mk h1 h2=>exact .mk (h1.mono l) (h2.mono l)
 | bound h1 h2 h3=>exact .bound h1 h2 h3
theorem Qs.mono(l:Le ρ σ){a b:Loop}(h:Qs ρ a b):Qs σ a b:=⟨h.state,h.pending,h.fn,h.tmps.mono l,h.params,h.assign,h.body,h.defers.mono l,h.okF,h.okA,h.okB,h.okP⟩
theorem ObR.mono(l:Le ρ σ){a b:Obj}(h:ObR ρ a b):ObR σ a b:=by
 cases h with
 | cells e h1 h2=>exact .cells e (h1.mono l) h2
 | map c h=>exact .map c (h.imp λ_ _ k=>k.mono l)
 | stringIter s p=>exact .stringIter s p
 | mapIterNil a s b=>exact .mapIterNil a s b
 | mapIter a s b h=>exact .mapIter a s b (h.mono l)
 | loop h=>exact .loop (h.mono l)
 | number o s x h=>exact .number o s x (h.mono l)
 | deferredNone=>exact .deferredNone
 | deferred h=>exact .deferred (h.imp λ_ _ k=>k.mono l)
end
end
end Go.Sim
end
section
namespace Go.Sim
abbrev Rel (α β:Type):=Ren->α->β->Prop
def odd:Halt->Bool
 | .panic _ | .goexit | .unsupported (.initOrder _)=>true
 | _=>false
def zC:Obj->Bool
 | .pending ..=>true
 | _=>false
def Bad(Q:q7m){α:Type}:Sem α->Prop
 | .pure _=>False
 | .load _ _ k=>∀v,Bad Q (k v)
 | .store _ _ _ k=>Bad Q k
 | .new o k=>zC o=false/\∀r,Bad Q (k r)
 | .shape _ k=>∀x,Bad Q (k x)
 | .freeze _ _ k=>Bad Q k
 | .frozen _ k=>∀b,Bad Q (k b)
 | .getObj _ k=>∀o,Bad Q (k o)
 | .setObj _ o k=>zC o=false/\Bad Q k
 | .choose _ k=>∀n,Bad Q (k n)
 | .sys _ k=>∀r,Bad Q (k r)
 | .program k=>Bad Q (k Q)
 | .mark _ k=>Bad Q k
 | .halt h=>odd h=false
def yH(Q:q7m):q7x:=Q.types.size
def ShR[JunkSet](Q:q7m)(r:Nat)(x x':Option (q7x × Nat)):Prop:=(¬ JunkSet.jk r/\x'=x)\/(JunkSet.jk r/\Q.globals.size<=r/\x=some (yH Q,0)/\∃e n,x'=some (e,n))
def SR[JunkSet](Q P:q7m){α β:Type}(R:Rel α β):Sem α->Ren->Sem β->Prop
 | .pure a=>λρ s'=>∃b,s'=.pure b/\R ρ a b
 | .load m a k=>λρ s'=>Bad Q (.load m a k)\/(m=.plain/\∃j k',s'=.load .plain ⟨j,a.off,a.spot⟩ k'/\BR ρ a.block j/\∀v v',VR ρ v v'->SR Q P R (k v) ρ (k' v'))
 | .store m a v k=>λρ s'=>Bad Q (.store m a v k)\/(m=.plain/\∃j v' k',s'=.store .plain ⟨j,a.off,a.spot⟩ v' k'/\BR ρ a.block j/\VR ρ v v'/\SR Q P R k ρ k')
 | .new o k=>λρ s'=>Bad Q (.new o k)\/∃o' k',s'=.new o' k'/\ObR ρ o o'/\∀j,Out ρ j->SR Q P R (k ρ.length) (ρ++[some j]) (k' j)
 | .shape r k=>λρ s'=>Bad Q (.shape r k)\/∃j k',s'=.shape j k'/\BR ρ r j/\∀x x',ShR Q r x x'->SR Q P R (k x) ρ (k' x')
 | .getObj r k=>λρ s'=>Bad Q (.getObj r k)\/∃j k',s'=.getObj j k'/\BR ρ r j/\∀o o',ObR ρ o o'->SR Q P R (k o) ρ (k' o')
 | .setObj r o k=>λρ s'=>Bad Q (.setObj r o k)\/∃j o' k',s'=.setObj j o' k'/\BR ρ r j/\ObR ρ o o'/\SR Q P R k ρ k'
 | .choose q k=>λρ s'=>Bad Q (.choose q k)\/∃k',s'=.choose q k'/\∀n,SR Q P R (k n) ρ (k' n)
 | .sys c k=>λρ s'=>Bad Q (.sys c k)\/(c=.env/\∃k',s'=.sys .env k'/\∀r,SR Q P R (k r) ρ (k' r))
 | .program k=>λρ s'=>Bad Q (.program k)\/∃k',s'=.program k'/\SR Q P R (k Q) ρ (k' P)
 | .mark m k=>λρ s'=>Bad Q (.mark m k)\/(m=.noRoom/\∃k',s'=.mark .noRoom k'/\SR Q P R k ρ k')
 | .halt (.panic v)=>λρ s'=>∃v',s'=.halt (.panic v')/\VR ρ v v'
 | .halt h=>λ_ _=>odd h=false
 | .freeze a n k=>λ_ _=>Bad Q (.freeze a n k)
 | .frozen a k=>λ_ _=>Bad Q (.frozen a k)
theorem Bad.bind{Q:q7m}{α γ:Type}{s:Sem α}(h:Bad Q s)(f:α->Sem γ):Bad Q (s.bind f):=by
 induction s with
 | pure a=>exact h.elim
 | load m a k ih=>exact λv=>ih v (h v)
 | store m a v k ih=>exact ih h
 | new o k ih=>exact⟨h.1,λv=>ih v (h.2 v)⟩
 | shape r k ih=>exact λv=>ih v (h v)
 | freeze a n k ih=>exact ih h
 | frozen a k ih=>exact λv=>ih v (h v)
 | getObj r k ih=>exact λv=>ih v (h v)
 | setObj r o k ih=>exact⟨h.1,ih h.2⟩
 | choose q k ih=>exact λv=>ih v (h v)
 | sys c k ih=>exact λv=>ih v (h v)
 | program k ih=>exact ih Q h
 | mark m k ih=>exact ih h
 | halt x=>exact h
theorem SR.bad[JunkSet]{Q P:q7m}{α β:Type}{R:Rel α β}{s:Sem α}{ρ:Ren}{s':Sem β}(h:Bad Q s):SR Q P R s ρ s':=by
 cases s with
 | pure a=>exact h.elim
 | load m a k=>exact .inl h
 | store m a v k=>exact .inl h
 | new o k=>exact .inl h
 | shape r k=>exact .inl h
 | freeze a n k=>exact h
 | frozen a k=>exact h
 | getObj r k=>exact .inl h
 | setObj r o k=>exact .inl h
 | choose q k=>exact .inl h
 | sys c k=>exact .inl h
 | program k=>exact .inl h
 | mark m k=>exact .inl h
 | halt x =>
  cases x with
  | panic v=>cases h
  | _=>exact h
section
variable[JunkSet]{Q P:q7m}{α β γ δ:Type}{R:Rel α β}{S:Rel γ δ}
theorem SR.bind{s:Sem α}{ρ:Ren}{s':Sem β}{f:α->Sem γ}{f':β->Sem δ}(h:SR Q P R s ρ s')
  (hf:∀σ a b,Le ρ σ->R σ a b->SR Q P S (f a) σ (f' b)):SR Q P S (s.bind f) ρ (s'.bind f'):=by
 induction s generalizing ρ s' with
 | pure a =>
  obtain⟨b,rfl,hr⟩:=h;exact hf ρ a b (.refl ρ) hr
 | load m a k ih =>
  rcases h with hb | ⟨hm,j,k',rfl,hb,hk⟩
  ·exact .bad (hb.bind f)
  ·exact .inr ⟨hm,j,_,rfl,hb,λv v' hv=>ih v (hk v v' hv) hf⟩
 | store m a v k ih =>
  rcases h with hb | ⟨hm,j,v',k',rfl,hb,hv,hk⟩
  ·exact .bad (Bad.bind (s:=.store m a v k) hb f)
  ·exact .inr ⟨hm,j,v',_,rfl,hb,hv,ih hk hf⟩
 | new o k ih =>
  rcases h with hb | ⟨o',k',rfl,ho,hk⟩
  ·exact .bad (hb.bind f)
  ·exact .inr ⟨o',_,rfl,ho,λj hj=>ih _ (hk j hj) λσ a b l=>hf σ a b ((Le.snoc ρ j hj).trans l)⟩
 | shape r k ih =>
  rcases h with hb | ⟨j,k',rfl,hb,hk⟩
  ·exact .bad (hb.bind f)
  ·exact .inr ⟨j,_,rfl,hb,λx x' hx=>ih x (hk x x' hx) hf⟩
 | freeze a n k _=>exact .bad (Bad.bind (s:=.freeze a n k) h f)
 | frozen a k _=>exact .bad (Bad.bind (s:=.frozen a k) h f)
 | getObj r k ih =>
  rcases h with hb | ⟨j,k',rfl,hb,hk⟩
  ·exact .bad (hb.bind f)
  ·exact .inr ⟨j,_,rfl,hb,λo o' ho=>ih o (hk o o' ho) hf⟩
 | setObj r o k ih =>
  rcases h with hb | ⟨j,o',k',rfl,hb,ho,hk⟩
  ·exact .bad (Bad.bind (s:=.setObj r o k) hb f)
  ·exact .inr ⟨j,o',_,rfl,hb,ho,ih hk hf⟩
 | choose q k ih =>
  rcases h with hb | ⟨k',rfl,hk⟩
  ·exact .bad (hb.bind f)
  ·exact .inr ⟨_,rfl,λn=>ih n (hk n) hf⟩
 | sys c k ih =>
  rcases h with hb | ⟨hc,k',rfl,hk⟩
  ·exact .bad (hb.bind f)
  ·exact .inr ⟨hc,_,rfl,λr=>ih r (hk r) hf⟩
 | program k ih =>
  rcases h with hb | ⟨k',rfl,hk⟩
  ·exact .bad (hb.bind f)
  ·exact .inr ⟨_,rfl,ih Q hk hf⟩
 | mark m k ih =>
  rcases h with hb | ⟨rfl,k',rfl,hk⟩
  ·exact .bad (Bad.bind (s:=.mark m k) hb f)
  ·exact .inr ⟨rfl,_,rfl,ih hk hf⟩
 | halt x =>
  cases x with
  | panic v =>
   obtain⟨v',rfl,hv⟩:=h;exact⟨v',rfl,hv⟩
  | _=>exact h
theorem SR.imp{R':Rel α β}{s:Sem α}{ρ:Ren}{s':Sem β}(h:SR Q P R s ρ s')(hr:∀σ a b,Le ρ σ->R σ a b->R' σ a b):SR Q P R' s ρ s':=by
 have e:∀{α:Type} (x:Sem α),x.bind .pure=x:=by
  intro α x;induction x with
  | pure a=>rfl
  | load m a k ih=>simp only[qdq,ih]
  | store m a v k ih=>simp only[qdq,ih]
  | new o k ih=>simp only[qdq,ih]
  | shape r k ih=>simp only[qdq,ih]
  | freeze a n k ih=>simp only[qdq,ih]
  | frozen a k ih=>simp only[qdq,ih]
  | getObj r k ih=>simp only[qdq,ih]
  | setObj r o k ih=>simp only[qdq,ih]
  | choose q k ih=>simp only[qdq,ih]
  | sys c k ih=>simp only[qdq,ih]
  | program k ih=>simp only[qdq,ih]
  | mark m k ih=>simp only[qdq,ih]
  | halt h=>rfl
 rw[<- e s,<- e s'];exact h.bind λσ a b l hab=>⟨b,rfl,hr σ a b l hab⟩
end
theorem BR.inj{ρ:Ren}(hn:Inj ρ){i i' j:Nat}(h:BR ρ i j)(h':BR ρ i' j):i=i':=hn i i' j h h'
def junk(Q:q7m):Obj:=.cells #[] (yH Q) (0,0)
structure WR[JunkSet](Q:q7m)(base:Nat)(ρ:Ren)(wq w:q2v):Prop where
 len:ρ.length=wq.heap.size
 nodup:Inj ρ
 lt:∀(i j:Nat),BR ρ i j->j<w.heap.size
 obj:∀(i j:Nat) (o:Obj),BR ρ i j->wq.heap[i]?=some o->(JunkSet.jk i/\o=junk Q/\Q.globals.size<=i/\∃c e f,w.heap[j]?=some (.cells c e f))\/(¬ JunkSet.jk i/\∃o',w.heap[j]?=some o'/\ObR ρ o o')
 low:∀(i:Nat),i<base->∃c e f,wq.heap[i]?=some (.cells c e f)/\∀o,o<c.size->f.1<=o/\o<f.2
 env:wq.os.env=w.os.env
 below:∀(i:Nat),JunkSet.jk i->i<base
 gar:∀(i:Nat) (o:Obj),wq.heap[i]?=some o->(∃j,BR ρ i j)\/zC o=false
def zq(D:Nat)(wq w:q2v):Prop:=∀(n:Nat) (q:qbe),wq.drawn+n<D->wq.tape (wq.drawn+n) q=w.tape (w.drawn+n) q
def rwR{α:Type}:qd7 α->q2v
 | .ok _ w=>w
 | .halt _ w=>w
theorem vZ(p:q7m)(w:q2v)(a:qai)(u:q7x)(k:qai)(v:q4k)(b:Bool){r:q2v × List qai}(h:w.viewStore p a u k v b=.ok r):r.1.drawn=w.drawn:=by
 unfold World.viewStore at h;simp only[bind,Except.bind,pure,Except.pure] at h
 repeat' (split at h)
 all_goals first | (cases h;rfl) | cases h | (cases h;done)
theorem q7h{α:Type}(x:Ask α):∀w:q2v,w.drawn<=(w.ask x).2.drawn:=by
 induction x with
 | done a=>intro w;exact q4u _
 | ask what range k ih =>
  intro w;unfold World.ask;dsimp only;split
  ·exact ih _ w
  ·refine q6s (Nat.le_succ _) ?_
   exact ih ((Question.extern what range).cut (w.tape w.drawn (Question.extern what range))) { w with drawn:=w.drawn+1 }
theorem q62(w:q2v)(c:Sys):w.drawn<=(w.sys c).2.drawn:=by
 unfold World.sys;have:=q7h (Kernel.perform c w.os) w;split
 ·exact q4u _
 ·rename_i h
  rw[h] at this;exact this
theorem vg{α:Type}(p:q7m)(s:Sem α):∀w:q2v,w.drawn<=(rwR (s.run p w)).drawn:=by
 induction s with
 | pure a=>intro w;exact q4u _
 | load m a k ih =>
  intro w;simp only[qar];split
  ·exact ih _ w
  ·split
   ·exact ih _ w
   ·exact q4u _
 | store m a v k ih =>
  intro w;have key:w.drawn<=(rwR (match w.cell? a with
     | some _=>if w.frozen? a then(.halt (.unsupported (.unsafePointer "a write to bytes that a string shares")) w:qd7 α) else k.run p (w.setCell a v)
     | none=>match w.farStore p a v (m == .atomic) with
      | .ok (w,_)=>k.run p w
      | .error h=>.halt h w)).drawn:=by
   split
   ·split
    ·exact q4u _
    ·exact ih (w.setCell a v)
   ·split
    ·rename_i w' t Z
     refine q6s ?_ (ih _);unfold qdr at Z;split at Z
     ·split at Z
      ·rename_i r hr
       cases Z;exact Nat.le_of_eq (vZ _ _ _ _ _ _ _ hr).symm
      ·cases Z
     ·cases Z
    ·exact q4u _
  cases v<;>first | exact key | exact q4u _
 | new o k ih=>intro w;exact ih _ { w with heap:=w.heap.push o }
 | shape r k ih=>intro w;exact ih _ w
 | freeze a n k ih =>
  intro w;refine q6s ?_ (ih (w.freeze a n));unfold World.freeze;split<;>exact q4u _
 | frozen a k ih=>intro w;exact ih _ w
 | getObj r k ih =>
  intro w;simp only[qar];cases ho:w.heap[r]? with
  | none=>exact q4u _
  | some o=>cases o<;>first | exact ih _ w | exact q4u _
 | setObj r o k ih =>
  intro w;simp only[qar];cases ho:w.heap[r]? with
  | none=>exact q4u _
  | some ob=>cases ob<;>first | exact ih { w with heap:=w.heap.setIfInBounds r o } | exact q4u _
 | choose q k ih =>
  intro w;simp only[qar];split
  ·exact ih _ w
  ·exact q6s (Nat.le_succ _) (ih _ { w with drawn:=w.drawn+1 })
 | sys c k ih=>intro w;exact q6s (q62 w c) (ih _ _)
 | program k ih=>intro w;exact ih _ w
 | mark m k ih=>intro w;exact ih w
 | halt h=>intro w;exact q4u _
inductive kz [JunkSet] (base:Nat) (σ:Ren):qaz->Prop
 | cell {i j:Nat} (off:Nat) (spot:Option Nat) (wr:Bool):BR σ i j->¬ JunkSet.jk i->(wr=true->base<=i)->kz base σ ⟨.cell ⟨j,off,spot⟩,wr,false⟩
 | obj {i j:Nat} (wr:Bool):BR σ i j->base<=i->kz base σ ⟨.obj j,wr,false⟩
 | noRoom:kz base σ ⟨.mark .noRoom,false,true⟩
 | env:kz base σ ⟨.output,true,false⟩
structure Eff(base:Nat)(ρ σ:Ren)(w w':q2v):Prop where
 le:Le ρ σ
 tape:w'.tape=w.tape
 os:w'.os=w.os
 output:w'.output=w.output
 size:w.heap.size<=w'.heap.size
 keep:∀j,j<w.heap.size->(∀i,BR ρ i j->i<base)->w'.heap[j]?=w.heap[j]?
 fresh:∀i j,BR σ i j->ρ.length<=i->w.heap.size<=j
 mine:∀j,w.heap.size<=j->j<w'.heap.size->∃i,ρ.length<=i/\BR σ i j
theorem kz.mono[JunkSet]{base:Nat}{ρ σ:Ren}(l:Le ρ σ){e:qaz}(h:kz base ρ e):kz base σ e:=by
 cases h with
 | cell off spot wr h1 hk h2=>exact .cell off spot wr (h1.mono l) hk h2
 | obj wr h1 h2=>exact .obj wr (h1.mono l) h2
 | noRoom=>exact .noRoom
 | env=>exact .env
theorem Eff.refl(base:Nat){ρ:Ren}(w:q2v):Eff base ρ ρ w w :=
 ⟨.refl ρ,rfl,rfl,rfl,q4u _,λ_ _ _=>rfl,λi j h hi=>absurd h.lt (by omega),λj h1 h2=>by omega⟩
theorem Le.len{ρ σ:Ren}(l:Le ρ σ):ρ.length<=σ.length:=by
 obtain⟨⟨τ,rfl⟩,_⟩:=l;simp
theorem BR.back{ρ σ:Ren}(l:Le ρ σ){i j:Nat}(h:BR σ i j)(hi:i<ρ.length):BR ρ i j:=by
 obtain⟨⟨τ,rfl⟩,_⟩:=l;unfold BR at h ⊢
 rwa [q9p hi] at h
theorem Eff.trans{base:Nat}{ρ σ τ:Ren}{w w₁ w₂:q2v}(hb:base<=ρ.length)(h:Eff base ρ σ w w₁)(k:Eff base σ τ w₁ w₂):Eff base ρ τ w w₂:=by
 refine⟨h.le.trans k.le,k.tape.trans h.tape,k.os.trans h.os,k.output.trans h.output,q6s h.size k.size,λj hj hn=>?_,λi j hij hi=>?_,λj h1 h2=>?_⟩
 ·rw[k.keep j (q7u hj h.size) λi hij=>?_,h.keep j hj hn]
  rcases qb5 i ρ.length with hl | hl
  ·exact hn i (hij.back h.le hl)
  ·have:=h.fresh i j hij hl
   omega
 ·rcases qb5 i σ.length with hl | hl
  ·exact h.fresh i j (hij.back k.le hl) hi
  ·exact q6s h.size (k.fresh i j hij hl)
 ·rcases qb5 j w₁.heap.size with hl | hl
  ·obtain⟨i,hi,hij⟩:=h.mine j h1 hl
   exact⟨i,hi,hij.mono k.le⟩
  ·obtain⟨i,hi,hij⟩:=k.mine j hl h2
   exact⟨i,q6s h.le.len hi,hij⟩
def vC{α:Type}:qd7 α->Prop
 | .ok _ _=>True
 | .halt h _=>odd h=true
def zF(w:q2v):Prop:=∀(i:Nat) (o:Obj),w.heap[i]?=some o->zC o=false
theorem jC{w:q2v}(hw:zF w)(a:qai)(x:String){α:Type}(u:q2v):¬ vC (.halt (w.noCell a x) u:qd7 α):=by
 unfold World.noCell;split
 ·rename_i h
  have:=hw _ _ h;cases this
 ·exact λh=>by cases h
 ·exact λh=>by cases h
theorem q2E{p:q7m}{w:q2v}(hw:zF w){a:qai}{b:Bool}{h:Halt}(e:w.farLoad p a b=.error h):odd h=false:=by
 unfold World.farLoad at e;split at e
 ·split at e
  ·cases e
  ·cases e;rfl
 ·cases e
  have:=jC hw a "load: no such cell" (α:=Unit) w;cases ho:odd (w.noCell a "load: no such cell") with
  | false=>rfl
  | true=>exact absurd ho this
theorem q0H{p:q7m}{w:q2v}(hw:zF w){a:qai}{v:q4k}{b:Bool}{h:Halt}(e:w.farStore p a v b=.error h):odd h=false:=by
 unfold qdr at e;split at e
 ·split at e
  ·cases e
  ·cases e;rfl
 ·cases e
  have:=jC hw a "store: no such cell" (α:=Unit) w;cases ho:odd (w.noCell a "store: no such cell") with
  | false=>rfl
  | true=>exact absurd ho this
theorem yw{α:Type}{h:Halt}(hp:odd h=false)(w:q2v):¬ vC (.halt h w:qd7 α):=λx=>by
 have x:odd h=true:=x;rw[hp] at x;cases x
theorem zF.set{w:q2v}(hw:zF w){r:Nat}{o:Obj}(ho:zC o=false):zF { w with heap:=w.heap.setIfInBounds r o }:=λi x hx=>by
 simp only[q9A] at hx;split at hx
 ·split at hx
  ·cases hx;exact ho
  ·cases hx
 ·exact hw i x hx
theorem zF.push{w:q2v}(hw:zF w){o:Obj}(ho:zC o=false):zF { w with heap:=w.heap.push o }:=λi x hx=>by
 simp only[Array.getElem?_push] at hx;split at hx
 ·cases hx;exact ho
 ·exact hw i x hx
theorem zF.modify{w:q2v}(hw:zF w)(r:Nat){f:Obj->Obj}(hf:∀o,zC o=false->zC (f o)=false):zF { w with heap:=w.heap.modify r f }:=λi x hx=>by
 simp only[Array.getElem?_modify] at hx;split at hx
 ·cases h:w.heap[i]? with
  | none=>rw[h] at hx;cases hx
  | some y =>
   rw[h] at hx;cases hx;exact hf y (hw i y h)
 ·exact hw i x hx
theorem zF.cell{w:q2v}(hw:zF w)(a:qai)(v:q4k):zF (w.setCell a v):=hw.modify a.block λo ho=>by
 cases o<;>first | rfl | exact ho
theorem zF.freeze{w:q2v}(hw:zF w)(a:qai)(n:Nat):zF (w.freeze a n):=by
 unfold World.freeze;split
 ·exact hw
 ·exact hw.modify a.block λo ho=>by
   cases o<;>first | rfl | exact ho
theorem YN{p:q7m}{w:q2v}{a:qai}{u:q7x}{k:qai}{v:q4k}{b:Bool}{r:q2v × List qai}(h:w.viewStore p a u k v b=.ok r):∃x o,zC o=false/\r.1={ w with heap:=w.heap.setIfInBounds x o }:=by
 unfold World.viewStore at h;simp only[bind,Except.bind,pure,Except.pure] at h
 repeat' (split at h)
 all_goals first | (cases h;exact⟨_,_,rfl,rfl⟩) | cases h | (cases h;done)
theorem q7E(w:q2v)(c:Sys):(w.sys c).2.heap=w.heap:=by
 have key:∀{α:Type} (x:Ask α) (w:q2v),(w.ask x).2.heap=w.heap:=by
  intro α x;induction x with
  | done a=>intro w;rfl
  | ask what range k ih =>
   intro w;unfold World.ask;dsimp only;split
   ·exact ih _ w
   ·exact ih _ { w with drawn:=w.drawn+1 }
 unfold World.sys;have:=key (Kernel.perform c w.os) w;split
 ·rfl
 ·rename_i h
  rw[h] at this;exact this
theorem Bad.not_fine{α:Type}{p:q7m}{s:Sem α}:∀{w:q2v},zF w->Bad p s->¬ vC (s.run p w):=by
 induction s with
 | pure a=>intro w _ h;exact h.elim
 | load m a k ih =>
  intro w hw h;simp only[qar];split
  ·exact ih _ hw (h _)
  ·split
   ·exact ih _ hw (h _)
   ·rename_i e
    exact yw (q2E hw e) w
 | store m a v k ih =>
  intro w hw h;have key:¬ vC (match w.cell? a with
     | some _=>if w.frozen? a then(.halt (.unsupported (.unsafePointer "a write to bytes that a string shares")) w:qd7 α) else k.run p (w.setCell a v)
     | none=>match w.farStore p a v (m == .atomic) with
      | .ok (w,_)=>k.run p w
      | .error h=>.halt h w):=by
   split
   ·split
    ·exact λh=>by cases h
    ·exact ih (hw.cell a v) h
   ·split
    ·rename_i w' t e
     refine ih ?_ h;unfold qdr at e;split at e
     ·split at e
      ·rename_i r hr
       cases e;obtain⟨x,o,ho,hx⟩:=YN hr;have hx:w'={ w with heap:=w.heap.setIfInBounds x o }:=hx;rw[hx];exact hw.set ho
      ·cases e
     ·cases e
    ·rename_i e
     exact yw (q0H hw e) w
  cases v<;>first | exact key | exact λh=>by cases h
 | new o k ih=>intro w hw h;exact ih _ (hw.push h.1) (h.2 _)
 | shape r k ih=>intro w hw h;exact ih _ hw (h _)
 | freeze a n k ih=>intro w hw h;exact ih (w:=w.freeze a n) (hw.freeze a n) h
 | frozen a k ih=>intro w hw h;exact ih _ hw (h _)
 | getObj r k ih =>
  intro w hw h;simp only[qar];cases ho:w.heap[r]? with
  | none=>exact λh=>by cases h
  | some o=>cases o<;>first | exact ih _ hw (h _) | exact λh=>by cases h
 | setObj r o k ih =>
  intro w hw h;simp only[qar];cases ho:w.heap[r]? with
  | none=>exact λh=>by cases h
  | some ob=>cases ob<;>first | exact ih (hw.set h.1) h.2 | exact λh=>by cases h
 | choose q k ih =>
  intro w hw h;simp only[qar];split
  ·exact ih _ hw (h _)
  ·exact ih _ (w:={ w with drawn:=w.drawn+1 }) hw (h _)
 | sys c k ih =>
  intro w hw h;refine ih _ (w:=(w.sys c).2) (λi o ho=>hw i o ?_) (h _)
  rwa [q7E] at ho
 | program k ih=>intro w hw h;exact ih _ hw h
 | mark m k ih=>intro w hw h;exact ih hw h
 | halt x=>intro w hw h;exact yw h w
inductive ResR [JunkSet] {α β:Type} (R:Rel α β) (σ:Ren):qd7 α->q2v->qd7 β->q2v->Prop
 | ok {a:α} {b:β} (wq w:q2v):R σ a b->ResR R σ (.ok a wq) wq (.ok b w) w
 | panic {v v':q4k} (wq w:q2v):VR σ v v'->ResR R σ (.halt (.panic v) wq) wq (.halt (.panic v') w) w
section
variable[JunkSet]{Q P:q7m}{base:Nat}
theorem WR.looked{ρ:Ren}{wq w:q2v}(h:WR Q base ρ wq w){a:qai}{j:Nat}(hb:BR ρ a.block j){v:q4k}(hv:wq.cell? a=some v):¬ JunkSet.jk a.block:=by
 intro hk;unfold q9q at hv;split at hv
 ·rename_i c e f hc
  rcases h.obj _ _ _ hb hc with⟨_,ho,_⟩ | ⟨hn,_⟩
  ·cases ho
   split at hv<;>simp at hv
  ·exact hn hk
 ·cases hv
theorem WR.cell{ρ:Ren}{wq w:q2v}(h:WR Q base ρ wq w){a:qai}{j:Nat}(hb:BR ρ a.block j){v:q4k}(hv:wq.cell? a=some v) :
  ∃v',w.cell? ⟨j,a.off,a.spot⟩=some v'/\VR ρ v v':=by
 unfold q9q at hv;split at hv
 ·rename_i c e f hc
  split at hv
  ·cases hv
  ·rename_i hs
   rcases h.obj _ _ _ hb hc with⟨_,hj,_⟩ | ⟨_,o',ho',hr⟩
   ·cases hj
    simp at hv
   ·cases hr with
    | cells e hcs hf =>
     obtain⟨v',a6,Z⟩:=hcs.get hv;refine⟨v',?_,Z⟩;unfold q9q;simp only[ho'];rw[if_neg hs];exact a6
 ·cases hv
theorem WR.nopend{ρ:Ren}{wq w:q2v}(h:WR Q base ρ wq w):zF wq:=λi o ho=>by
 rcases h.gar i o ho with⟨j,hb⟩ | hp
 ·rcases h.obj _ _ _ hb ho with⟨_,rfl,_⟩ | ⟨_,o',_,hr⟩
  ·rfl
  ·cases hr<;>rfl
 ·exact hp
theorem WR.shape{ρ:Ren}{wq w:q2v}(h:WR Q base ρ wq w){i j:Nat}(hb:BR ρ i j):ShR Q i (wq.shape? i) (w.shape? j):=by
 have hi:i<wq.heap.size:=by rw[<- h.len];exact hb.lt
 have ho:wq.heap[i]?=some wq.heap[i]:=q8B hi;rcases h.obj _ _ _ hb ho with⟨Z,hj,hgl,c,e,f,hc⟩ | ⟨Z,o',ho',hr⟩
 ·rw[hj] at ho
  exact .inr ⟨Z,hgl,by simp[World.shape?,ho,junk],e,c.size,by simp[World.shape?,hc]⟩
 ·refine .inl ⟨Z,?_⟩
  unfold World.shape?;rw[ho,ho'];generalize wq.heap[i]=x at hr;cases hr with
  | cells e h1 h2=>simp[h1.1]
  | _=>rfl
theorem WR.noview{ρ:Ren}{wq w:q2v}(h:WR Q base ρ wq w){i j:Nat}(hb:BR ρ i j)(a:qai)(t:q7x):wq.heap[i]?≠some (.view a t):=by
 intro hc;rcases h.obj _ _ _ hb hc with⟨_,hj,_⟩ | ⟨_,o',_,hr⟩
 ·cases hj
 ·cases hr
theorem WR.set{ρ:Ren}{wq w:q2v}(h:WR Q base ρ wq w){a:qai}{j:Nat}(hb:BR ρ a.block j){u v v':q4k}(hc:wq.cell? a=some u)(hf:wq.frozen? a=false)(hv:VR ρ v v') :
  base<=a.block/\w.frozen? ⟨j,a.off,a.spot⟩=false/\WR Q base ρ (wq.setCell a v) (w.setCell ⟨j,a.off,a.spot⟩ v')/\Eff base ρ ρ w (w.setCell ⟨j,a.off,a.spot⟩ v'):=by
 unfold q9q at hc;split at hc
 ·rename_i c e f hcs
  split at hc
  ·cases hc
  ·rename_i hs
   have a7:a.spot=none:=by
    cases hsp:a.spot with
    | none=>rfl
    | some _=>rw[hsp] at hs;exact absurd rfl hs
   have hlt:a.off<c.size:=(q3h.1 hc).1;have hbase:base<=a.block:=by
    rcases qb5 a.block base with hl | hl
    ·obtain⟨c',e',f',h1,h2⟩:=h.low _ hl
     rw[hcs] at h1;cases h1;have:=h2 _ hlt;simp[World.frozen?,hcs,this.1,this.2] at hf
    ·exact hl
   rcases h.obj _ _ _ hb hcs with⟨_,hj,_⟩ | ⟨_,o',ho',hr⟩
   ·cases hj
    simp at hlt
   ·cases hr with
    | @cells _ c' _ _ f' hcc hff =>
     have b0:w.frozen? ⟨j,a.off,a.spot⟩=false:=by
      simp only[World.frozen?,ho'];rw[Bool.eq_false_iff];intro hx;simp only[q85,decide_eq_true_eq] at hx;have:=hff _ hx.1 hx.2;simp[World.frozen?,hcs,this.1,this.2] at hf
     have hi:a.block<wq.heap.size:=(q3h.1 hcs).1;have b7:j<w.heap.size:=(q3h.1 ho').1;have a6:∀i:Nat,(wq.setCell a v).heap[i]?=if i=a.block then some (.cells (c.setIfInBounds a.off v) e f) else wq.heap[i]?:=by
      intro i;simp only[qbc,Array.getElem?_modify];by_cases hx:a.block=i
      ·subst hx
       simp[hcs,a7]
      ·rw[if_neg hx,if_neg (λx=>hx x.symm)]
     have a9:∀i:Nat,(w.setCell ⟨j,a.off,a.spot⟩ v').heap[i]?=if i=j then some (.cells (c'.setIfInBounds a.off v') e f') else w.heap[i]?:=by
      intro i;simp only[qbc,Array.getElem?_modify];by_cases hx:j=i
      ·subst hx
       simp[ho',a7]
      ·rw[if_neg hx,if_neg (λx=>hx x.symm)]
     refine⟨hbase,b0,⟨by rw[h.len];simp[qbc],h.nodup,λi k hk=>by have:=h.lt i k hk;simpa[qbc] using this,λi k o hik ho=>?_,λi a8=>?_,h.env,h.below,λi o Z=>by
      rw[a6] at Z;by_cases hx:i=a.block
      ·exact .inl ⟨j,hx ▸ hb⟩
      ·rw[if_neg hx] at Z;exact h.gar i o Z⟩,⟨.refl ρ,rfl,rfl,rfl,by simp[qbc],λk hk hn=>?_,λi k hik a8=>absurd hik.lt (by omega),λk h1 h2=>by simp[qbc] at h2;omega⟩⟩
     ·rw[a6] at ho
      rw[a9];by_cases hx:i=a.block
      ·subst hx
       have:k=j:=hik.fn hb;subst this;rw[if_pos rfl] at ho ⊢;cases ho;exact .inr ⟨λhk=>by have:=h.below _ hk;omega,_,rfl,.cells e (hcc.set _ hv) hff⟩
      ·have b6:k≠j:=λx=>by
        subst x;exact hx (hik.inj h.nodup hb)
       rw[if_neg hx] at ho;rw[if_neg b6];exact h.obj i k o hik ho
     ·obtain⟨c1,e1,f1,h1,h2⟩:=h.low i a8
      refine⟨c1,e1,f1,?_,h2⟩;rw[a6,if_neg (by omega)];exact h1
     ·rw[a9]
      by_cases hx:k=j
      ·subst hx
       have:=hn _ hb;omega
      ·rw[if_neg hx]
 ·cases hc
theorem WR.setO{ρ:Ren}{wq w:q2v}(h:WR Q base ρ wq w){r j:Nat}(hb:BR ρ r j){o o' ob:Obj}(hc:wq.heap[r]?=some ob)(hnc:∀c e f,ob≠.cells c e f)(ho:ObR ρ o o') :
  base<=r/\(∃Z,w.heap[j]?=some Z/\ObR ρ ob Z)/\WR Q base ρ { wq with heap:=wq.heap.setIfInBounds r o } { w with heap:=w.heap.setIfInBounds j o' }/\Eff base ρ ρ w { w with heap:=w.heap.setIfInBounds j o' }:=by
 have hbase:base<=r:=by
  rcases qb5 r base with hl | hl
  ·obtain⟨c,e,f,h1,_⟩:=h.low _ hl
   rw[hc] at h1;cases h1;exact absurd rfl (hnc _ _ _)
  ·exact hl
 have hrel:∃Z,w.heap[j]?=some Z/\ObR ρ ob Z:=by
  rcases h.obj _ _ _ hb hc with⟨_,hj,_⟩ | ⟨_,hr⟩
  ·exact absurd hj (hnc _ _ _)
  ·exact hr
 obtain⟨Z,ho',hr⟩:=hrel;have hi:r<wq.heap.size:=(q3h.1 hc).1;have a7:j<w.heap.size:=(q3h.1 ho').1;refine⟨hbase,⟨Z,ho',hr⟩,⟨by rw[h.len];simp,h.nodup,λi k hk=>by have:=h.lt i k hk;simpa using this,λi k x hik hx=>?_,λi a8=>?_,h.env,h.below,λi x a6=>by
   rw[q9A] at a6;by_cases hy:r=i
   ·exact .inl ⟨j,hy ▸ hb⟩
   ·rw[if_neg hy] at a6;exact h.gar i x a6⟩,⟨.refl ρ,rfl,rfl,rfl,by simp,λk hk hn=>?_,λi k hik a8=>absurd hik.lt (by omega),λk h1 h2=>by simp at h2;omega⟩⟩
 ·simp only[q9A] at hx ⊢
  by_cases hy:r=i
  ·subst hy
   have:k=j:=hik.fn hb;subst this;rw[if_pos rfl,if_pos hi] at hx;cases hx;refine .inr ⟨λhk=>by have:=h.below _ hk;omega,o',?_,ho⟩;rw[if_pos rfl,if_pos a7]
  ·have a9:j≠k:=λx=>by
    subst x;exact hy (hb.inj h.nodup hik)
   rw[if_neg hy] at hx;rw[if_neg a9];exact h.obj i k x hik hx
 ·obtain⟨c1,e1,f1,h1,h2⟩:=h.low i a8
  refine⟨c1,e1,f1,?_,h2⟩;simp only[q9A];rw[if_neg (by omega)];exact h1
 ·simp only[q9A]
  by_cases hx:j=k
  ·subst hx
   have:=hn _ hb;omega
  ·rw[if_neg hx]
theorem WR.newO{ρ:Ren}{wq w:q2v}(h:WR Q base ρ wq w)(hb:base<=ρ.length){o o':Obj}(ho:ObR ρ o o') :
  WR Q base (ρ++[some w.heap.size]) { wq with heap:=wq.heap.push o } { w with heap:=w.heap.push o' }/\Eff base ρ (ρ++[some w.heap.size]) w { w with heap:=w.heap.push o' }:=by
 have hle:Le ρ (ρ++[some w.heap.size]):=.snoc _ _ λi hi=>qdl _ (h.lt i _ hi);have Z:∀{i j:Nat},BR (ρ++[some w.heap.size]) i j->(i<ρ.length/\BR ρ i j)\/(i=ρ.length/\j=w.heap.size):=by
  intro i j hij;rcases hij.snoc_cases with hh | ⟨h1,h2⟩
  ·exact .inl hh
  ·exact .inr ⟨h1,(Option.some.inj h2).symm⟩
 refine⟨⟨by simp[h.len],?_,λi j hij=>?_,λi j x hij hx=>?_,λi hi=>?_,h.env,h.below,λi o hi=>?_⟩,⟨hle,rfl,rfl,rfl,by simp,λj hj hn=>?_,λi j hij hi=>?_,λj h1 h2=>?_⟩⟩
 ·exact hle.2 h.nodup
 ·rcases Z hij with⟨hl,hb'⟩ | ⟨rfl,rfl⟩
  ·have:=h.lt i j hb'
   simp;omega
  ·simp
 ·simp only[Array.getElem?_push] at hx ⊢
  rcases Z hij with⟨hl,hb'⟩ | ⟨rfl,rfl⟩
  ·have h1:=h.lt i j hb'
   rw[if_neg (by have:=h.len;omega)] at hx;rw[if_neg (by omega)];rcases h.obj i j x hb' hx with⟨hk,rfl,hc⟩ | ⟨hk,y,hy,hr⟩
   ·exact .inl ⟨hk,rfl,hc⟩
   ·exact .inr ⟨hk,y,hy,hr.mono hle⟩
  ·rw[if_pos h.len] at hx
   cases hx;exact .inr ⟨λhk=>by have:=h.below _ hk;omega,o',by simp,ho.mono hle⟩
 ·obtain⟨c1,e1,f1,h1,h2⟩:=h.low i hi
  refine⟨c1,e1,f1,?_,h2⟩;simp only[Array.getElem?_push];have:=h.len;rw[if_neg (by omega)];exact h1
 ·simp only[Array.getElem?_push] at hi
  split at hi
  ·rename_i e
   exact .inl ⟨w.heap.size,by rw[e,<- h.len];exact BR.new _ _⟩
  ·rcases h.gar i o hi with⟨j,hj⟩ | hp
   ·exact .inl ⟨j,hj.mono hle⟩
   ·exact .inr hp
 ·simp only[Array.getElem?_push]
  rw[if_neg (by omega)]
 ·rcases Z hij with⟨hl,_⟩ | ⟨_,rfl⟩
  ·omega
  ·exact q4u _
 ·simp at h2
  have:j=w.heap.size:=by omega
  subst this;exact⟨ρ.length,q4u _,BR.new _ _⟩
theorem WR.draw{ρ:Ren}{wq w:q2v}(h:WR Q base ρ wq w):WR Q base ρ { wq with drawn:=wq.drawn+1 } { w with drawn:=w.drawn+1 }/\Eff base ρ ρ w { w with drawn:=w.drawn+1 } :=
 ⟨⟨h.len,h.nodup,h.lt,h.obj,h.low,h.env,h.below,h.gar⟩,⟨.refl ρ,rfl,rfl,rfl,q4u _,λ_ _ _=>rfl,λi k hik Z=>absurd hik.lt (by omega),λk h1 h2=>by simp at h2;omega⟩⟩
omit [JunkSet] in
theorem zq.draw{D:Nat}{wq w:q2v}(h:zq D wq w):zq D { wq with drawn:=wq.drawn+1 } { w with drawn:=w.drawn+1 }:=λn q hn=>by
 have:=h (n+1) q (by simp only at hn;omega);simpa[Nat.add_assoc,Nat.add_comm 1 n] using this
omit [JunkSet] in
theorem zq.heap{D:Nat}{wq w wq' w':q2v}(h:zq D wq w)(h1:wq'.tape=wq.tape)(h2:wq'.drawn=wq.drawn)(h3:w'.tape=w.tape)(h4:w'.drawn=w.drawn):zq D wq' w':=λn q hn=>by
 rw[h1,h2,h3,h4];exact h n q (by rw[<- h2];exact hn)
theorem yf{α:Type}{p:q7m}{r:Nat}{k:Obj->Sem α}{w:q2v}{o:Obj}(h:w.heap[r]?=some o)(hn:∀c e f,o≠.cells c e f):(Sem.getObj r k).run p w=(k o).run p w:=by
 rw[qar,h];cases o<;>first | exact absurd rfl (hn _ _ _) | rfl
theorem q23{α:Type}{p:q7m}{r:Nat}{k:Obj->Sem α}{w:q2v}{o:Obj}(es:Array qaz)(h:w.heap[r]?=some o)(hn:∀c e f,o≠.cells c e f):(Sem.getObj r k).runT p w es=(k o).runT p w (es.push ⟨.obj r,false,o.isChan⟩):=by
 rw[qdf,h];cases o<;>first | exact absurd rfl (hn _ _ _) | rfl
theorem ye{α:Type}{p:q7m}{r:Nat}{x:Obj}{k:Sem α}{w:q2v}{o:Obj}(h:w.heap[r]?=some o)(hn:∀c e f,o≠.cells c e f):(Sem.setObj r x k).run p w=k.run p { w with heap:=w.heap.setIfInBounds r x }:=by
 rw[qar,h];cases o<;>first | exact absurd rfl (hn _ _ _) | rfl
theorem q22{α:Type}{p:q7m}{r:Nat}{x:Obj}{k:Sem α}{w:q2v}{o:Obj}(es:Array qaz)(h:w.heap[r]?=some o)(hn:∀c e f,o≠.cells c e f):(Sem.setObj r x k).runT p w es=k.runT p { w with heap:=w.heap.setIfInBounds r x } (es.push ⟨.obj r,true,x.isChan⟩):=by
 rw[qdf,h];cases o<;>first | exact absurd rfl (hn _ _ _) | rfl
theorem SR.runs{α β:Type}{R:Rel α β}{s:Sem α}{D:Nat}:∀{ρ:Ren} {s':Sem β} {wq w:q2v} (es:Array qaz),SR Q P R s ρ s'->base<=ρ.length->WR Q base ρ wq w->zq D wq w->(rwR (s.run Q wq)).drawn<=D->vC (s.run Q wq) ->
  ∃σ wq' w' es',ResR R σ (s.run Q wq) wq' (s'.run P w) w'/\(s'.runT P w es).2=es++es'/\(∀e∈es',kz base σ e)/\WR Q base σ wq' w'/\zq D wq' w'/\Eff base ρ σ w w'/\wq'.drawn+w.drawn=wq.drawn+w'.drawn:=by
 induction s with
 | pure a =>
  intro ρ s' wq w es h hb hw ht _ _;obtain⟨b,rfl,hr⟩:=h;exact⟨ρ,wq,w,#[],.ok wq w hr,by simp[qdf],by simp,hw,ht,.refl base w,rfl⟩
 | load m a k ih =>
  intro ρ s' wq w es h hb hw ht hd hf;rcases h with hbad | ⟨rfl,j,k',rfl,hbr,hk⟩
  ·exact absurd hf (Bad.not_fine hw.nopend hbad)
  simp only[qar] at hd hf ⊢;cases hc:wq.cell? a with
  | none =>
   rw[hc] at hf;simp only[World.farLoad] at hf;split at hf
   ·rename_i hv
    split at hv
    ·rename_i a6
     exact absurd a6 (hw.noview hbr _ _)
    ·cases hv
   ·rename_i hv
    split at hv
    ·rename_i a6
     exact absurd a6 (hw.noview hbr _ _)
    ·cases hv
     exact absurd hf (jC hw.nopend _ _ _)
  | some v =>
   obtain⟨v',a6,hr⟩:=hw.cell hbr hc;rw[hc] at hd hf;simp only[a6] at hd hf ⊢;obtain⟨σ,wq',w',es',h1,h2,h3,h4,h5,h6,h7⟩:=ih v (es.push ⟨.cell ⟨j,a.off,a.spot⟩,false,false⟩) (hk v v' hr) hb hw ht hd hf;refine⟨σ,wq',w',#[⟨.cell ⟨j,a.off,a.spot⟩,false,false⟩]++es',h1,?_,?_,h4,h5,h6,h7⟩
   ·simp only[qdf,a6]
    rw[show((Mode.plain == Mode.atomic)=false) from rfl,h2];simp
   ·intro e he
    rw[qcj] at he;rcases he with he | he
    ·simp at he
     subst he;exact .cell _ _ _ (hbr.mono h6.le) (hw.looked hbr hc) (by simp)
    ·exact h3 e he
 | store m a v k ih =>
  intro ρ s' wq w es h hb hw ht hd hf;rcases h with hbad | ⟨rfl,j,v',k',rfl,hbr,hv,hk⟩
  ·exact absurd hf (Bad.not_fine hw.nopend (s:=.store m a v k) hbad)
  have b9:(∃x,v=.agg x)\/(∃x,v=.tuple x)\/((∀x,v≠.agg x)/\∀x,v≠.tuple x):=by
   cases v<;>simp
  rcases b9 with⟨x,rfl⟩ | ⟨x,rfl⟩ | ⟨hna,hnt⟩
  ·simp only[qar] at hf
   exact absurd hf (λh=>by cases h)
  ·simp only[qar] at hf
   exact absurd hf (λh=>by cases h)
  ·have b7:∀x,v'≠.agg x:=λx e=>by subst e;cases hv<;>first | exact hna _ rfl | (rename_i h;cases h)
   have b6:∀x,v'≠.tuple x:=λx e=>by subst e;cases hv<;>first | exact hnt _ rfl | (rename_i h;cases h)
   have e1:(Sem.store .plain a v k).run Q wq=match wq.cell? a with
     | some _=>if wq.frozen? a then .halt (.unsupported (.unsafePointer "a write to bytes that a string shares")) wq else k.run Q (wq.setCell a v)
     | none=>match wq.farStore Q a v false with
      | .ok (w,_)=>k.run Q w
      | .error h=>.halt h wq:=by
    cases v<;>first | rfl | exact absurd rfl (hna _) | exact absurd rfl (hnt _)
   have e2:(Sem.store .plain (⟨j,a.off,a.spot⟩:qai) v' k').run P w=match w.cell? ⟨j,a.off,a.spot⟩ with
     | some _=>if w.frozen? ⟨j,a.off,a.spot⟩ then .halt (.unsupported (.unsafePointer "a write to bytes that a string shares")) w else k'.run P (w.setCell ⟨j,a.off,a.spot⟩ v')
     | none=>match w.farStore P ⟨j,a.off,a.spot⟩ v' false with
      | .ok (w,_)=>k'.run P w
      | .error h=>.halt h w:=by
    cases v'<;>first | rfl | exact absurd rfl (b7 _) | exact absurd rfl (b6 _)
   have e3:((Sem.store .plain (⟨j,a.off,a.spot⟩:qai) v' k').runT P w es).2=(match w.cell? ⟨j,a.off,a.spot⟩ with
     | some _=>if w.frozen? ⟨j,a.off,a.spot⟩ then((Result.halt (.unsupported (.unsafePointer "a write to bytes that a string shares")) w:qd7 β),es) else k'.runT P (w.setCell ⟨j,a.off,a.spot⟩ v') (es.push ⟨.cell ⟨j,a.off,a.spot⟩,true,false⟩)
     | none=>match w.farStore P ⟨j,a.off,a.spot⟩ v' false with
      | .ok (w,touched)=>k'.runT P w (es++touched.toArray.map λx=>(⟨.cell x,true,false⟩:qaz))
      | .error h=>((Result.halt h w:qd7 β),es)).2:=by
    cases v'<;>first | rfl | exact absurd rfl (b7 _) | exact absurd rfl (b6 _)
   rw[e1] at hd hf ⊢;rw[e2,e3];cases hc:wq.cell? a with
   | none =>
    rw[hc] at hf;simp only[qdr] at hf;split at hf
    ·rename_i hv
     split at hv
     ·rename_i a6
      exact absurd a6 (hw.noview hbr _ _)
     ·cases hv
    ·rename_i hv
     split at hv
     ·rename_i a6
      exact absurd a6 (hw.noview hbr _ _)
     ·cases hv
      exact absurd hf (jC hw.nopend _ _ _)
   | some u =>
    obtain⟨u',c9,_⟩:=hw.cell hbr hc;rw[hc] at hd hf;simp only[c9] at hd hf ⊢;cases hfz:wq.frozen? a with
    | true =>
     rw[hfz] at hf;exact absurd hf (λh=>by cases h)
    | false =>
     obtain⟨hbase,c3,a8,a9⟩:=hw.set hbr hc hfz hv;rw[hfz] at hd hf;simp only[c3,q9g,if_false] at hd hf ⊢;obtain⟨σ,wq',w',es',h1,h2,h3,h4,h5,h6,h7⟩:=ih (es.push ⟨.cell ⟨j,a.off,a.spot⟩,true,false⟩) hk hb a8 (ht.heap rfl rfl rfl rfl) hd hf;refine⟨σ,wq',w',#[⟨.cell ⟨j,a.off,a.spot⟩,true,false⟩]++es',h1,by rw[h2];simp,?_,h4,h5,a9.trans hb h6,h7⟩;intro e he;rw[qcj] at he;rcases he with he | he
     ·simp at he
      subst he;exact .cell _ _ _ (hbr.mono h6.le) (λhk=>absurd (hw.below _ hk) (by omega)) (λ_=>hbase)
     ·exact h3 e he
 | new o k ih =>
  intro ρ s' wq w es h hb hw ht hd hf;rcases h with hbad | ⟨o',k',rfl,ho,hk⟩
  ·exact absurd hf (Bad.not_fine hw.nopend (s:=.new o k) hbad)
  simp only[qar] at hd hf ⊢;obtain⟨a8,a9⟩:=hw.newO hb ho;have hk':=hk w.heap.size (λi hi=>qdl _ (hw.lt i _ hi));rw[hw.len] at hk';obtain⟨σ,wq',w',es',h1,h2,h3,h4,h5,h6,h7⟩:=ih _ es hk' (by simp;omega) a8 (ht.heap rfl rfl rfl rfl) hd hf;exact⟨σ,wq',w',es',h1,by simp only[qdf];exact h2,h3,h4,h5,a9.trans hb h6,by simp only at h7;omega⟩
 | shape r k ih =>
  intro ρ s' wq w es h hb hw ht hd hf;rcases h with hbad | ⟨j,k',rfl,hbr,hk⟩
  ·exact absurd hf (Bad.not_fine hw.nopend (s:=.shape r k) hbad)
  simp only[qar] at hd hf ⊢;obtain⟨σ,wq',w',es',h1,h2,h3,h4,h5,h6,h7⟩:=ih _ es (hk _ _ (hw.shape hbr)) hb hw ht hd hf;exact⟨σ,wq',w',es',h1,by simp only[qdf];exact h2,h3,h4,h5,h6,h7⟩
 | freeze a n k _=>intro ρ s' wq w es h hb hw ht hd hf;exact absurd hf (Bad.not_fine hw.nopend (s:=.freeze a n k) h)
 | frozen a k _=>intro ρ s' wq w es h hb hw ht hd hf;exact absurd hf (Bad.not_fine hw.nopend (s:=.frozen a k) h)
 | getObj r k ih =>
  intro ρ s' wq w es h hb hw ht hd hf;rcases h with hbad | ⟨j,k',rfl,hbr,hk⟩
  ·exact absurd hf (Bad.not_fine hw.nopend (s:=.getObj r k) hbad)
  cases ho:wq.heap[r]? with
  | none=>simp only[qar,ho] at hf;exact absurd hf (λh=>by cases h)
  | some o =>
   by_cases Z:∃c e f,o=.cells c e f
   ·obtain⟨c,e,f,rfl⟩:=Z
    simp only[qar,ho] at hf;exact absurd hf (λh=>by cases h)
   ·have hnc:∀c e f,o≠.cells c e f:=λc e f x=>Z ⟨c,e,f,x⟩
    have hbase:base<=r:=by
     rcases qb5 r base with hl | hl
     ·obtain⟨c,e,f,h1,_⟩:=hw.low _ hl
      rw[ho] at h1;cases h1;exact absurd rfl (hnc _ _ _)
     ·exact hl
    rcases hw.obj _ _ _ hbr ho with⟨_,hj,_⟩ | ⟨_,o',ho',hr⟩
    ·exact absurd hj (hnc _ _ _)
    ·have a7:∀c e f,o'≠.cells c e f:=λc e f x=>by subst x;cases hr;exact hnc _ _ _ rfl
     have b8:o'.isChan=false:=by cases hr<;>rfl
     rw[yf ho hnc] at hd hf;rw[yf ho hnc,yf ho' a7,q23 es ho' a7,b8];obtain⟨σ,wq',w',es',h1,h2,h3,h4,h5,h6,h7⟩:=ih o (es.push ⟨.obj j,false,false⟩) (hk _ _ hr) hb hw ht hd hf;refine⟨σ,wq',w',#[⟨.obj j,false,false⟩]++es',h1,by rw[h2];simp,?_,h4,h5,h6,h7⟩;intro e he;rw[qcj] at he;rcases he with he | he
     ·simp at he
      subst he;exact .obj _ (hbr.mono h6.le) hbase
     ·exact h3 e he
 | setObj r o k ih =>
  intro ρ s' wq w es h hb hw ht hd hf;rcases h with hbad | ⟨j,o',k',rfl,hbr,hor,hk⟩
  ·exact absurd hf (Bad.not_fine hw.nopend (s:=.setObj r o k) hbad)
  cases ho:wq.heap[r]? with
  | none=>simp only[qar,ho] at hf;exact absurd hf (λh=>by cases h)
  | some ob =>
   by_cases Z:∃c e f,ob=.cells c e f
   ·obtain⟨c,e,f,rfl⟩:=Z
    simp only[qar,ho] at hf;exact absurd hf (λh=>by cases h)
   ·have hnc:∀c e f,ob≠.cells c e f:=λc e f x=>Z ⟨c,e,f,x⟩
    obtain⟨hbase,⟨c8,b0,hr⟩,a8,a9⟩:=hw.setO hbr ho hnc hor;have a7:∀c e f,c8≠.cells c e f:=λc e f x=>by subst x;cases hr;exact hnc _ _ _ rfl
    have b8:o'.isChan=false:=by cases hor<;>rfl
    rw[ye ho hnc] at hd hf;rw[ye ho hnc,ye b0 a7,q22 es b0 a7,b8];obtain⟨σ,wq',w',es',h1,h2,h3,h4,h5,h6,h7⟩:=ih (es.push ⟨.obj j,true,false⟩) hk hb a8 (ht.heap rfl rfl rfl rfl) hd hf;refine⟨σ,wq',w',#[⟨.obj j,true,false⟩]++es',h1,by rw[h2];simp,?_,h4,h5,a9.trans hb h6,h7⟩;intro e he;rw[qcj] at he;rcases he with he | he
    ·simp at he
     subst he;exact .obj _ (hbr.mono h6.le) hbase
    ·exact h3 e he
 | choose q k ih =>
  intro ρ s' wq w es h hb hw ht hd hf;rcases h with hbad | ⟨k',rfl,hk⟩
  ·exact absurd hf (Bad.not_fine hw.nopend (s:=.choose q k) hbad)
  simp only[qar] at hd hf ⊢;cases hq:q.forced with
  | true =>
   rw[hq] at hd hf;simp only[if_true] at hd hf ⊢;obtain⟨σ,wq',w',es',h1,h2,h3,h4,h5,h6,h7⟩:=ih _ es (hk _) hb hw ht hd hf;exact⟨σ,wq',w',es',h1,by simp only[qdf,hq,if_true];exact h2,h3,h4,h5,h6,h7⟩
  | false =>
   rw[hq] at hd hf;simp only[q9g,if_false] at hd hf ⊢;have d5:wq.tape wq.drawn q=w.tape w.drawn q:=by
    have:=q6s (vg Q _ _) hd;simpa using ht 0 q (by simp only at this;omega)
   obtain⟨a8,a9⟩:=hw.draw;rw[d5] at hd hf ⊢;obtain⟨σ,wq',w',es',h1,h2,h3,h4,h5,h6,h7⟩:=ih _ es (hk _) hb a8 ht.draw hd hf;exact⟨σ,wq',w',es',h1,by simp only[qdf,hq,q9g,if_false];exact h2,h3,h4,h5,a9.trans hb h6,by simp only at h7;omega⟩
 | sys c k ih =>
  intro ρ s' wq w es h hb hw ht hd hf;rcases h with hbad | ⟨rfl,k',rfl,hk⟩
  ·exact absurd hf (Bad.not_fine hw.nopend (s:=.sys c k) hbad)
  have e1:∀u:q2v,u.sys .env=(.strings u.os.env,u):=λu=>rfl;simp only[qar,e1] at hd hf ⊢;rw[hw.env] at hd hf ⊢;obtain⟨σ,wq',w',es',h1,h2,h3,h4,h5,h6,h7⟩:=ih _ (es.push ⟨.output,true,false⟩) (hk _) hb hw ht hd hf;refine⟨σ,wq',w',#[⟨.output,true,false⟩]++es',h1,by simp only[qdf,e1];rw[h2];simp,?_,h4,h5,h6,h7⟩;intro e he;rw[qcj] at he;rcases he with he | he
  ·simp at he
   subst he;exact .env
  ·exact h3 e he
 | program k ih =>
  intro ρ s' wq w es h hb hw ht hd hf;rcases h with hbad | ⟨k',rfl,hk⟩
  ·exact absurd hf (Bad.not_fine hw.nopend (s:=.program k) hbad)
  simp only[qar] at hd hf ⊢;obtain⟨σ,wq',w',es',h1,h2,h3,h4,h5,h6,h7⟩:=ih _ es hk hb hw ht hd hf;exact⟨σ,wq',w',es',h1,by simp only[qdf];exact h2,h3,h4,h5,h6,h7⟩
 | mark m k ih =>
  intro ρ s' wq w es h hb hw ht hd hf;rcases h with hbad | ⟨rfl,k',rfl,hk⟩
  ·exact absurd hf (Bad.not_fine hw.nopend (s:=.mark m k) hbad)
  simp only[qar] at hd hf ⊢;obtain⟨σ,wq',w',es',h1,h2,h3,h4,h5,h6,h7⟩:=ih (es.push ⟨.mark .noRoom,false,true⟩) hk hb hw ht hd hf;refine⟨σ,wq',w',#[⟨.mark .noRoom,false,true⟩]++es',h1,by simp only[qdf];rw[h2];simp,?_,h4,h5,h6,h7⟩;intro e he;rw[qcj] at he;rcases he with he | he
  ·simp at he
   subst he;exact .noRoom
  ·exact h3 e he
 | halt x =>
  intro ρ s' wq w es h hb hw ht hd hf;cases x with
  | panic v =>
   obtain⟨v',rfl,hv⟩:=h;exact⟨ρ,wq,w,#[],.panic wq w hv,by simp[qdf],by simp,hw,ht,.refl base w,rfl⟩
  | _=>exact absurd hf (yw h wq)
end
end Go.Sim
end
section
namespace Go.Sim
def EqR{α:Type}:Rel α α:=λ_ a b=>b=a
def Gl(P:q7m)(ρ:Ren):Prop:=∀i,i<=P.globals.size->BR ρ i i
theorem Gl.mono{P:q7m}{ρ σ:Ren}(l:Le ρ σ)(h:Gl P ρ):Gl P σ:=λi hi=>(h i hi).mono l
section
variable[JunkSet]{Q P:q7m}{α β γ δ:Type}{R:Rel α β}{S:Rel γ δ}{ρ:Ren}
theorem qd{a:α}{b:β}(h:R ρ a b):SR Q P R (pure a) ρ (pure b):=⟨b,rfl,h⟩
theorem SR.bnd{s:Sem α}{s':Sem β}{f:α->Sem γ}{f':β->Sem δ}(h:SR Q P R s ρ s')(hf:∀σ a b,Le ρ σ->R σ a b->SR Q P S (f a) σ (f' b)) :
  SR Q P S (s>>=f) ρ (s'>>=f'):=SR.bind h hf
theorem SR.bndE{s s':Sem α}{f:α->Sem γ}{f':α->Sem δ}(h:SR Q P EqR s ρ s')(hf:∀σ a,Le ρ σ->SR Q P S (f a) σ (f' a)) :
  SR Q P S (s>>=f) ρ (s'>>=f'):=SR.bind h λσ a b l e=>by cases e;exact hf σ a l
theorem qf{w:String}{s':Sem β}:SR Q P R (stuck w) ρ s':=rfl
theorem qr{w:Unsupported}{s':Sem β}(h:odd (.unsupported w)=false:=by rfl):SR Q P R (unsupported w) ρ s':=by
 cases w<;>first | rfl | cases h
theorem zk{w:String}{f:α->Sem γ}{s':Sem δ}:SR Q P S ((stuck w:Sem α)>>=f) ρ s':=rfl
theorem zS{w:Unsupported}{f:α->Sem γ}{s':Sem δ}(h:odd (.unsupported w)=false:=by rfl):SR Q P S ((unsupported w:Sem α)>>=f) ρ s':=by
 cases w<;>first | rfl | cases h
theorem q88{w:String}{s':Sem β}:SR Q P R (throw w) ρ s':=rfl
theorem zy{f:q7m->Sem α}{f':q7m->Sem β}(h:SR Q P R (f Q) ρ (f' P)):SR Q P R (program>>=f) ρ (program>>=f'):=.inr ⟨_,rfl,h⟩
theorem q1D{a:α}{f:α->Sem γ}{s':Sem δ}(h:SR Q P S (f a) ρ s'):SR Q P S (pure a>>=f) ρ s':=h
theorem vd{q:qbe}:SR Q P EqR (choose q) ρ (choose q):=.inr ⟨_,rfl,λn=>⟨n,rfl,rfl⟩⟩
theorem sr_map{f:α->γ}{s s':Sem α}(h:SR Q P EqR s ρ s'):SR Q P EqR (Functor.map f s) ρ (Functor.map f s'):=SR.bndE (S:=EqR) (f:=λx=>pure (f x)) (f':=λx=>pure (f x)) h λσ a _=>qd rfl
theorem q0j{f:α->Sem γ}{f':α->Sem γ}(h:∀σ a,SR Q P EqR (f a) σ (f' a)):∀(l:List α) (ρ:Ren),SR Q P EqR (l.mapM f) ρ (l.mapM f'):=by
 intro l;induction l with
 | nil=>intro ρ;exact qd rfl
 | cons a l ih =>
  intro ρ;rw[qdF,qdF];exact .bndE (h ρ a) λσ b _=>.bndE (ih σ) λτ bs _=>qd rfl
theorem sr_mapM{f:α->Sem γ}{f':α->Sem γ}(h:∀σ a,SR Q P EqR (f a) σ (f' a)){xs:Array α}:SR Q P EqR (xs.mapM f) ρ (xs.mapM f'):=by
 rw[qcC,qcC];exact sr_map (q0j h xs.toList ρ)
theorem q56{i j:Nat}{off:Nat}{spot:Option Nat}(h:BR ρ i j):SR Q P VR (load ⟨i,off,spot⟩) ρ (load ⟨j,off,spot⟩):=.inr ⟨rfl,j,_,rfl,h,λv v' hv=>⟨v',rfl,hv⟩⟩
theorem q89{i j:Nat}{off:Nat}{spot:Option Nat}{v v':q4k}(h:BR ρ i j)(hv:VR ρ v v'):SR Q P (λ_ _ _=>True) (store ⟨i,off,spot⟩ v) ρ (store ⟨j,off,spot⟩ v'):=.inr ⟨rfl,j,v',_,rfl,h,hv,(),rfl,trivial⟩
theorem JK{o o':Obj}(h:ObR ρ o o'):SR Q P BR (newObj o) ρ (newObj o'):=.inr ⟨o',_,rfl,h,λj _=>⟨j,rfl,BR.new ρ j⟩⟩
theorem xz{i j:Nat}(h:BR ρ i j):SR Q P (λ_=>ShR Q i) (shape i) ρ (shape j):=.inr ⟨j,_,rfl,h,λx x' hx=>⟨x',rfl,hx⟩⟩
theorem jz{i j:Nat}(h:BR ρ i j):SR Q P ObR (getObj i) ρ (getObj j):=.inr ⟨j,_,rfl,h,λo o' ho=>⟨o',rfl,ho⟩⟩
theorem jy{i j:Nat}{o o':Obj}(h:BR ρ i j)(ho:ObR ρ o o'):SR Q P (λ_ _ _=>True) (setObj i o) ρ (setObj j o'):=.inr ⟨j,o',_,rfl,h,ho,(),rfl,trivial⟩
theorem jI{v v':q4k}(h:VR ρ v v'):SR Q P R (goPanic v) ρ (goPanic v'):=⟨v',rfl,h⟩
theorem qC{c:Prop}[Decidable c]{a b:Sem α}{a' b':Sem β}(h1:c->SR Q P R a ρ a')(h2:¬ c->SR Q P R b ρ b'):SR Q P R (if c then a else b) ρ (if c then a' else b'):=by
 by_cases h:c
 ·rw[if_pos h,if_pos h];exact h1 h
 ·rw[if_neg h,if_neg h];exact h2 h
end
section
variable[JunkSet]{Q P:q7m}(hT:P.toTables=Q.toTables){ρ:Ren}{α β:Type}{R:Rel α β}
include hT
theorem Ju(t:q7x):P.info? t=Q.info? t:=by rw[hT]
theorem yU(t:q7x):P.underlying t=Q.underlying t:=by unfold Program.underlying;rw[hT]
theorem zj(t:q7x):SR Q P EqR (qd3 t) ρ (qd3 t):=by
 refine zy ?_;rw[Ju hT];cases Q.info? t with
 | some i=>exact qd rfl
 | none=>exact qf
theorem qB(t:q7x):SR Q P EqR (qco t) ρ (qco t):=by
 refine zy ?_;rw[yU hT];cases Q.underlying t with
 | some i=>exact qd rfl
 | none=>exact qf
theorem qN(t:q7x):SR Q P EqR (sizeOf t) ρ (sizeOf t):=.bndE (zj hT t) λσ i _=>qd rfl
theorem q1G(t:q7x):SR Q P EqR (isAgg t) ρ (isAgg t):=.bndE (qB hT t) λσ i _=>by
 cases i<;>exact qd rfl
def kA(P:q7m)(t:q7x):Bool :=
 match (P.info? t).bind (·.zero) with
 | some v=>bareB v
 | none=>true
omit hT in
theorem q1B{i:TypeInfo}(h:∀v,i.zero=some v->kP v):SR Q P VR (match i.zero with
  | some v=>pure v
  | none=>unsupported (.resourceLimit "a value of more than 2^22 cells")) ρ (match i.zero with
  | some v=>pure v
  | none=>unsupported (.resourceLimit "a value of more than 2^22 cells")):=by
 cases hz:i.zero with
 | some v=>exact qd ((h v hz).vr _)
 | none=>exact qr
theorem vD(t:q7x):SR Q P (λ_ a b=>b=a/\Q.info? t=some a) (qd3 t) ρ (qd3 t):=by
 refine zy ?_;rw[Ju hT];cases Q.info? t with
 | some i=>exact qd ⟨rfl,rfl⟩
 | none=>exact qf
theorem zi{t:q7x}(h:kA Q t=true):SR Q P VR (zeroValue t) ρ (zeroValue t):=by
 refine .bnd (vD hT t) λσ i i' l hi=>?_;obtain⟨rfl,hi⟩:=hi;refine q1B λv hv=>?_;unfold kA at h;rw[hi] at h;simp only[Option.bind_some,hv] at h;exact q1b h
omit hT in
theorem VR.cells{v v':q4k}(h:VR ρ v v'):AsR ρ v.cells v'.cells:=by
 cases h with
 | agg h1 h2=>exact⟨h1,h2⟩
 | bool b=>exact .one (.bool b)
 | int k n=>exact .one (.int k n)
 | string s=>exact .one (.string s)
 | ptrNil=>exact .one .ptrNil
 | ptr o s h=>exact .one (.ptr o s h)
 | sliceNil a b=>exact .one (.sliceNil a b)
 | slice o s a b h=>exact .one (.slice o s a b h)
 | mapNil=>exact .one .mapNil
 | map h=>exact .one (.map h)
 | func a b c d e=>exact .one (.func a b c d e)
 | nilFunc=>exact .one .nilFunc
 | iface t h=>exact .one (.iface t h)
 | nilIface=>exact .one .nilIface
 | tuple h1 h2=>exact .one (.tuple h1 h2)
 | meth n a c=>exact .one (.meth n a c)
 | wild _ h =>
  have e:v'.cells=#[v']:=by cases v'<;>first | rfl | (cases h;done)
  rw[e];exact .one (.wild _ h)
omit hT in
theorem AsR.agg{a b:Array q4k}(h:AsR ρ a b):VR ρ (.agg a) (.agg b):=.agg h.1 h.2
omit hT in
theorem AsR.tuple{a b:Array q4k}(h:AsR ρ a b):VR ρ (.tuple a) (.tuple b):=.tuple h.1 h.2
omit hT in
theorem jS(i j off n:Nat)(spot:Option Nat):∃o s,(⟨i,off,spot⟩:qai).add n=⟨i,o,s⟩/\(⟨j,off,spot⟩:qai).add n=⟨j,o,s⟩:=by
 unfold Addr.add;split
 ·exact⟨off,spot,rfl,rfl⟩
 ·exact⟨off+n,none,rfl,rfl⟩
omit hT in
theorem Zw{i j:Nat}{off:Nat}{spot:Option Nat}(n:Nat):∀{ρ:Ren} (k:Nat) (a6 Z:Array q4k),BR ρ i j->AsR ρ a6 Z ->
  SR Q P AsR (loadCellsFrom ⟨i,off,spot⟩ k n a6) ρ (loadCellsFrom ⟨j,off,spot⟩ k n Z):=by
 induction n with
 | zero=>intro ρ k a6 Z h ha;exact qd ha
 | succ n ih =>
  intro ρ k a6 Z h ha;obtain⟨o,s,e1,e2⟩:=jS i j off k spot;show SR Q P AsR (load ((⟨i,off,spot⟩:qai).add k)>>=λv=>loadCellsFrom ⟨i,off,spot⟩ (k+1) n (a6.push v)) ρ (load ((⟨j,off,spot⟩:qai).add k)>>=λv=>loadCellsFrom ⟨j,off,spot⟩ (k+1) n (Z.push v));rw[e1,e2];exact .bnd (q56 h) λσ v v' l hv=>ih (k+1) _ _ (h.mono l) ((ha.mono l).push hv)
omit hT in
theorem QW{i j:Nat}{off:Nat}{spot:Option Nat}(n:Nat)(h:BR ρ i j):SR Q P AsR (loadCells ⟨i,off,spot⟩ n) ρ (loadCells ⟨j,off,spot⟩ n):=Zw n 0 _ _ h .nil
omit hT in
theorem jn{i j:Nat}{off:Nat}{spot:Option Nat}{vs Z:List q4k}(hv:LsR (VR ρ) vs Z):∀(k:Nat),BR ρ i j ->
  SR Q P (λ_ _ _=>True) (storeCells ⟨i,off,spot⟩ vs k) ρ (storeCells ⟨j,off,spot⟩ Z k):=by
 have a6:∀(vs Z:List q4k) (ρ:Ren) (k:Nat),LsR (VR ρ) vs Z->BR ρ i j->SR Q P (λ_ _ _=>True) (storeCells ⟨i,off,spot⟩ vs k) ρ (storeCells ⟨j,off,spot⟩ Z k):=by
  intro vs;induction vs with
  | nil=>intro Z ρ k h hb;cases h;exact qd trivial
  | cons v l ih =>
   intro Z ρ k h hb;cases h with
   | @cons _ v' _ l' hv hl =>
    obtain⟨o,s,e1,e2⟩:=jS i j off k spot;show SR Q P _ (store ((⟨i,off,spot⟩:qai).add k) v>>=λ_=>storeCells ⟨i,off,spot⟩ l (k+1)) ρ (store ((⟨j,off,spot⟩:qai).add k) v'>>=λ_=>storeCells ⟨j,off,spot⟩ l' (k+1));rw[e1,e2];exact .bnd (q89 hb hv) λσ _ _ l' _=>ih _ σ (k+1) (hl.imp λ_ _ x=>x.mono l') (hb.mono l')
 exact λk hb=>a6 vs Z ρ k hv hb
theorem JL{t:q7x}{i j:Nat}{off:Nat}{spot:Option Nat}(h:BR ρ i j):SR Q P VR (loadVar t ⟨i,off,spot⟩) ρ (loadVar t ⟨j,off,spot⟩):=by
 refine .bndE (q1G hT t) λσ b l=>?_;cases b with
 | true=>exact .bndE (qN hT t) λτ n l'=>.bnd (QW n (h.mono (l.trans l'))) λυ a b _ hab=>qd hab.agg
 | false=>exact q56 (h.mono l)
theorem q1C{t:q7x}{i j:Nat}{off:Nat}{spot:Option Nat}{v v':q4k}(h:BR ρ i j)(hv:VR ρ v v') :
  SR Q P (λ_ _ _=>True) (storeVar t ⟨i,off,spot⟩ v) ρ (storeVar t ⟨j,off,spot⟩ v'):=by
 refine .bndE (qN hT t) λσ n l=>?_;dsimp only;rw[<- (hv.mono l).cells.1];split
 ·exact zk
 ·refine q1D ?_
  exact jn (ze.1 (hv.mono l).cells) 0 (h.mono l)
omit hT in
theorem kY{e:q7x}{c c':Array q4k}(h:AsR ρ c c'):SR Q P (λσ a b=>∃i j,a=⟨i,0,none⟩/\b=⟨j,0,none⟩/\BR σ i j) (newRow e c) ρ (newRow e c') :=
 .bnd (JK (.cells e h λo h1 h2=>absurd h2 (by simp))) λσ i j l hb=>qd ⟨i,j,rfl,rfl,hb⟩
omit hT in
theorem xX{e:q7x}{v v':q4k}(h:VR ρ v v'):SR Q P (λσ a b=>∃i j,a=⟨i,0,none⟩/\b=⟨j,0,none⟩/\BR σ i j) (newVar e v) ρ (newVar e v'):=kY h.cells
theorem Ku(t:q7x):SR Q P EqR (elemOf t) ρ (elemOf t):=.bndE (qB hT t) λσ d _=>by
 cases d with
 | pointer e=>exact qd rfl
 | _=>exact qf
theorem jp{t:q7x}{c c':Array q4k}(h:AsR ρ c c')(off:Nat):SR Q P VR (part t c off) ρ (part t c' off):=by
 refine .bndE (q1G hT t) λσ b l=>?_;cases b with
 | true=>exact .bndE (qN hT t) λτ n l'=>qd (((h.mono (l.trans l')).extract _ _).agg)
 | false =>
  simp only[q9g,if_false];cases hc:c[off]? with
  | some v =>
   obtain⟨v',Z,hr⟩:=h.get hc;simp only[Z];exact qd (hr.mono l)
  | none=>exact qf
theorem qx(hG:Gl P ρ)(e:RuntimeError):SR Q P R (qcv e) ρ (qcv e):=by
 have Z:P.rt=Q.rt:=by rw[hT]
 refine zy ?_;dsimp only;rw[Z];have hh:∀(σ:Ren) (l:Le ρ σ) (t:q7x),VR σ (typeHandle Q t) (typeHandle P t):=λσ l t=>by
  unfold typeHandle;have:P.globals.size=Q.globals.size:=by rw[hT]
  rw[<- this];exact .ptr _ _ ((hG _ (q4u _)).mono l)
 cases e with
 | bounds x y s c=>exact jI (kP.vr _ (q1b rfl) |> λh=>.iface _ h)
 | error m=>exact jI (.iface _ (.string _))
 | plain m=>exact jI (.iface _ (.string _))
 | nilDeref=>exact jI (.iface _ (.string _))
 | typeAssertion i c a m =>
  refine .bndE (Ku hT _) λσ el l=>.bnd (xX (AsR.agg ?_)) λτ x y l' hxy=>?_
  ·have ho:∀o:Option q7x,VR σ (match o with | some t=>typeHandle Q t | none=>.pointer none) (match o with | some t=>typeHandle P t | none=>.pointer none):=λo=>by
    cases o with
    | none=>exact .ptrNil
    | some t=>exact hh σ l t
   rw[ze];exact .cons (ho i) (.cons (ho c) (.cons (ho (some a)) (.cons (.string _) .nil)))
  ·obtain⟨i,j,rfl,rfl,hb⟩:=hxy
   exact jI (.iface _ (.ptr _ _ hb))
 | panicNil =>
  refine .bndE (Ku hT _) λσ el l=>.bnd (xX (AsR.agg .nil)) λτ x y l' hxy=>?_;obtain⟨i,j,rfl,rfl,hb⟩:=hxy;exact jI (.iface _ (.ptr _ _ hb))
 | unhashable t=>exact jI (.iface _ (AsR.agg (.one (hh ρ (.refl ρ) t))))
theorem j4(hG:Gl P ρ)(k:IntKind)(x y:Int)(c:BoundsCode):SR Q P R (qd5 k x y c) ρ (qd5 k x y c):=by
 unfold qd5;dsimp only;refine qC (λ_=>?_) λ_=>?_
 ·exact .bndE (sr_map vd) λσ n l=>qx hT (hG.mono l) _
 ·exact(qx hT hG (.bounds (IntKind.i64.wrap x) y (k != IntKind.u64) c):SR Q P R _ ρ _)
omit hT in
theorem vG{v v':q4k}(h:VR ρ v v'):SR Q P EqR (asIntOf v) ρ (asIntOf v'):=by
 cases h<;>first | exact qd rfl | exact qf | exact qr
omit hT in
theorem QY{v v':q4k}(h:VR ρ v v'):SR Q P EqR (asInt v) ρ (asInt v'):=.bndE (vG h) λσ a _=>qd rfl
omit hT in
theorem q66{v v':q4k}(h:VR ρ v v'):SR Q P EqR (asBool v) ρ (asBool v'):=by
 cases h<;>first | exact qd rfl | exact qf
omit hT in
theorem q8h{v v':q4k}(h:VR ρ v v'):SR Q P AsR (asAgg v) ρ (asAgg v'):=by
 cases h with
 | agg h1 h2=>exact qd ⟨h1,h2⟩
 | _=>exact qf
def AdR:Rel qai qai:=λρ a b=>∃i j o s,a=⟨i,o,s⟩/\b=⟨j,o,s⟩/\BR ρ i j
theorem Kv(hG:Gl P ρ){v v':q4k}(h:VR ρ v v'):SR Q P AdR (asAddr v) ρ (asAddr v'):=by
 cases h with
 | ptr o s h=>exact qd ⟨_,_,o,s,rfl,rfl,h⟩
 | ptrNil =>
  show SR Q P AdR (qcv .nilDeref) ρ (qcv .nilDeref);exact qx hT hG _
 | _=>exact qf
end
section
variable[JunkSet]{Q P:q7m}(hT:P.toTables=Q.toTables){ρ:Ren}
theorem yz{v v':q4k}(h:VR ρ v v'):SR Q P AdR (Instr.sureAddr v) ρ (Instr.sureAddr v'):=by
 cases h with
 | ptr o s h=>exact qd ⟨_,_,o,s,rfl,rfl,h⟩
 | _=>exact qf
include hT
theorem q65(t:q7x){v v':q4k}(h:VR ρ v v'):SR Q P VR (Instr.loadAt t v) ρ (Instr.loadAt t v') :=
 .bnd (yz h) λσ a b l hab=>by obtain⟨i,j,o,s,rfl,rfl,hb⟩:=hab;exact JL hT hb
theorem q3v(t:q7x){v v' x x':q4k}(h:VR ρ v v')(hx:VR ρ x x'):SR Q P (λ_ _ _=>True) (Instr.storeAt t v x) ρ (Instr.storeAt t v' x') :=
 .bnd (yz h) λσ a b l hab=>by obtain⟨i,j,o,s,rfl,rfl,hb⟩:=hab;exact q1C hT hb (hx.mono l)
theorem q8j{t:q7x}(hz:kA Q t=true):SR Q P VR (Instr.alloc t true (.tuple #[])) ρ (Instr.alloc t true (.tuple #[])):=by
 refine .bnd (zi hT hz) λσ z z' l Z=>?_;show SR Q P VR (newVar t z>>=λa=>pure (.pointer (some a))) σ (newVar t z'>>=λa=>pure (.pointer (some a)));exact .bnd (xX Z) λτ a b l hab=>by obtain⟨i,j,rfl,rfl,hb⟩:=hab;exact qd (.ptr _ _ hb)
omit hT in
theorem sr_box(t:q7x){v v':q4k}(h:VR ρ v v'):SR Q P VR (Instr.box t v) ρ (Instr.box t v') :=
 .bnd (xX h) λτ a b l hab=>by obtain⟨i,j,rfl,rfl,hb⟩:=hab;exact qd (.ptr _ _ hb)
def q07(ρ:Ren)(a b:Nat × q4k):Prop:=b.1=a.1/\VR ρ a.2 b.2
omit hT in
theorem q2C(Z:Nat->Option (Nat × Nat)):∀(l l':List (Nat × q4k)) (c c':Array q4k),LsR (q07 ρ) l l'->AsR ρ c c' ->
  (qds Z c l=none/\qds Z c' l'=none)\/∃r r',qds Z c l=some r/\qds Z c' l'=some r'/\AsR ρ r r':=by
 intro l;induction l with
 | nil=>intro l' c c' h hc;cases h;exact .inr ⟨c,c',rfl,rfl,hc⟩
 | cons x l ih =>
  intro l' c c' h hc;cases h with
  | @cons _ y _ l' hxy hl =>
   obtain⟨i,v⟩:=x;obtain⟨i',v'⟩:=y;obtain⟨rfl,hv⟩:=hxy;simp only[qds];cases hp:Z i' with
   | none=>exact .inl ⟨rfl,rfl⟩
   | some os =>
    obtain⟨off,size⟩:=os;dsimp only;have e1:v'.cells.size=v.cells.size:=hv.cells.1.symm;rw[e1,<- hc.1];by_cases a6:(decide (v.cells.size≠size) || decide (off+v.cells.size > c.size))=true
    ·rw[if_pos a6,if_pos a6]
     exact .inl ⟨rfl,rfl⟩
    ·rw[if_neg a6,if_neg a6]
     refine ih l' _ _ hl ?_;have a8:∀(xs a7:List q4k) (k:Nat) (d d':Array q4k),LsR (VR ρ) xs a7->AsR ρ d d' ->
       AsR ρ ((xs.zipIdx k).foldl (λcs (x:q4k × Nat)=>cs.setIfInBounds (off+x.2) x.1) d) ((a7.zipIdx k).foldl (λcs (x:q4k × Nat)=>cs.setIfInBounds (off+x.2) x.1) d'):=by
      intro xs;induction xs with
      | nil=>intro a7 k d d' hx hd;cases hx;exact hd
      | cons a xs ihx =>
       intro a7 k d d' hx hd;cases hx with
       | cons ha hxs=>exact ihx _ (k+1) _ _ hxs (hd.set _ ha)
     have:=a8 v.cells.toList v'.cells.toList 0 c c' (ze.1 hv.cells) hc;have e3:∀(a d:Array q4k),a.zipIdx.foldl (λcs (x:q4k × Nat)=>cs.setIfInBounds (off+x.2) x.1) d=(a.toList.zipIdx 0).foldl (λcs (x:q4k × Nat)=>cs.setIfInBounds (off+x.2) x.1) d:=λa d=>by
      rw[<- qdC,Array.toList_zipIdx]
     exact(e3 v.cells c ▸ e3 v'.cells c' ▸ this :)
theorem q8g{t:q7x}(hz:kA Q t=true){ps Z:Array (Nat × q4k)}(h:LsR (q07 ρ) ps.toList Z.toList):SR Q P VR (Instr.build t ps) ρ (Instr.build t Z):=by
 refine .bnd (zi hT hz) λσ z z' l a8=>.bndE (qB hT t) λτ d l'=>?_;have hp:LsR (q07 τ) ps.toList Z.toList:=h.imp λ_ _ x=>⟨x.1,x.2.mono (l.trans l')⟩
 have hc:AsR τ z.cells z'.cells:=a8.cells.mono l';have fin:∀(pl:Nat->Option (Nat × Nat)) (υ:Ren) (a6:String),Le τ υ->SR Q P VR
   (match qds pl z.cells ps.toList with | some cells=>pure (.agg cells) | _=>stuck a6) υ (match qds pl z'.cells Z.toList with | some cells=>pure (.agg cells) | _=>stuck a6):=λpl υ a6 lu=>by
  rcases q2C (ρ:=υ) pl _ _ _ _ (hp.imp λ_ _ x=>⟨x.1,x.2.mono lu⟩) (hc.mono lu) with⟨e1,e2⟩ | ⟨r,r',e1,e2,hr⟩
  ·rw[e1,e2];exact qf
  ·rw[e1,e2];exact qd hr.agg
 cases d with
 | struct fs =>
  refine .bndE (sr_mapM λσ f=>?_) λυ a7 lu=>fin _ υ _ lu;exact .bndE (qN hT _) λ_ n _=>qd rfl
 | array n e=>exact .bndE (qN hT _) λυ size lu=>fin _ υ _ lu
 | _=>exact qf
end
end Go.Sim
end
section
namespace Go.Sim
def PVR[JunkSet]:Rel q4k q4k:=λρ a b=>VR ρ a b/\a≠.tuple #[]/\∀r,a≠.chan r
section
variable[JunkSet]{Q P:q7m}(hT:P.toTables=Q.toTables)
include hT
theorem yr(t:q7x):P.cellsOf t=Q.cellsOf t:=by unfold Program.cellsOf;rw[hT]
theorem ko(t:q7x):P.bytesOf t=Q.bytesOf t:=by unfold Program.bytesOf;rw[hT]
theorem xQ:P.depth=Q.depth:=by unfold Program.depth;rw[hT]
theorem QM:P.globals=Q.globals:=by rw[hT]
theorem kN:∀d t off,byteOfCell P d t off=byteOfCell Q d t off:=by
 intro d;induction d with
 | zero=>intro t off;rfl
 | succ d ih=>intro t off;simp only[byteOfCell,yU hT,yr hT,ko hT,ih]
theorem K7:∀d t off,cellOfByte P d t off=cellOfByte Q d t off:=by
 intro d;induction d with
 | zero=>intro t off;rfl
 | succ d ih=>intro t off;simp only[cellOfByte,yU hT,yr hT,ko hT,ih]
theorem Yz(d:Nat)(e:q7x)(c o:Nat)(b:Int):qdE P d e c o b=qdE Q d e c o b:=by
 simp only[qdE,yr hT,ko hT,kN hT,K7 hT]
theorem qab:∀d t u,P.alikeButTags d t u=Q.alikeButTags d t u:=by
 intro d;induction d with
 | zero=>intro t u;rfl
 | succ d ih=>intro t u;simp only[Program.alikeButTags,Ju hT,ih]
theorem q3n(t:q7x):P.underlyingId t=Q.underlyingId t:=by unfold Program.underlyingId;rw[hT]
theorem q83(t:q7x):P.stoodInHeld t=Q.stoodInHeld t:=by
 unfold Program.stoodInHeld Program.stoodInAs;simp only[yU hT,qab hT,q3n hT,Ju hT,xQ hT];rw[show P.cutTypes=Q.cutTypes by rw[hT]]
theorem q0C:∀d t,P.eqGuardType d t=Q.eqGuardType d t:=by
 intro d;induction d with
 | zero=>intro t;rfl
 | succ d ih=>intro t;simp only[Program.eqGuardType,yU hT,ih]
omit hT in
theorem noInfo:Q.info? (yH Q)=none:=by
 unfold yH Tables.info?;rw[if_neg (qdl _)];have e:∀(f:Nat) (t:q7x),Made.infoAt Q.toTables (f+1) t=if t<Q.types.size then Q.types[t]? else(Made.decode (t - Q.types.size)).bind (Made.reckon (Made.infoAt Q.toTables f)):=λ_ _=>rfl;show Made.infoAt Q.toTables (99+1) Q.types.size=none;rw[e,if_neg (qdl _),Nat.sub_self];rfl
omit hT in
theorem q4w:Q.cellsOf (yH Q)=0:=by unfold Program.cellsOf;rw[noInfo];rfl
variable{ρ:Ren}{α β:Type}{R:Rel α β}
omit hT in
theorem Kq{i j:Nat}(h:BR ρ i j):SR Q P (λ_ a b=>a=none/\b=none) (viewAt i) ρ (viewAt j):=by
 refine .bnd (xz h) λσ x x' l hx=>?_;have e:x'.isSome=x.isSome:=by
  rcases hx with⟨_,rfl⟩ | ⟨_,_,rfl,e,n,rfl⟩<;>rfl
 rw[e];cases x.isSome with
 | true=>exact qd ⟨rfl,rfl⟩
 | false =>
  refine .bnd (jz (h.mono l)) λτ o o' l' ho=>?_;cases ho<;>exact qd ⟨rfl,rfl⟩
omit hT in
theorem q1F{i j:Nat}(h:BR ρ i j):SR Q P (λσ a b=>(a=none/\b=none)\/∃i j o s x,a=some (⟨i,o,s⟩,x)/\b=some (⟨j,o,s⟩,x)/\BR σ i j) (numberAt i) ρ (numberAt j):=by
 refine .bnd (xz h) λσ x x' l hx=>?_;have e:x'.isSome=x.isSome:=by
  rcases hx with⟨_,rfl⟩ | ⟨_,_,rfl,e,n,rfl⟩<;>rfl
 rw[e];cases x.isSome with
 | true=>exact qd (.inl ⟨rfl,rfl⟩)
 | false =>
  refine .bnd (jz (h.mono l)) λτ o o' l' ho=>?_;cases ho with
  | number o s x h=>exact qd (.inr ⟨_,_,o,s,x,rfl,rfl,h⟩)
  | _=>exact qd (.inl ⟨rfl,rfl⟩)
omit hT in
theorem Kr{i j:Nat}{o o':Nat}{s s':Option Nat}(h:BR ρ i j):SR Q P (λ_ _ _=>True) (noView ⟨i,o,s⟩) ρ (noView ⟨j,o',s'⟩) :=
 .bnd (Kq h) λσ a b l hab=>by obtain⟨rfl,rfl⟩:=hab;exact qd trivial
omit hT in
theorem jA{i j:Nat}{o:Nat}{s:Option Nat}(h:BR ρ i j):SR Q P (λσ a b=>∃i j o s x,a=(⟨i,o,s⟩,x)/\b=(⟨j,o,s⟩,x)/\BR σ i j) (qbx ⟨i,o,s⟩) ρ (qbx ⟨j,o,s⟩) :=
 .bnd (q1F h) λσ a b l hab=>by
  rcases hab with⟨rfl,rfl⟩ | ⟨i',j',o',s',x,rfl,rfl,hb⟩
  ·exact qd ⟨_,_,_,_,_,rfl,rfl,h.mono l⟩
  ·exact qd ⟨_,_,_,_,_,rfl,rfl,hb⟩
theorem xY{i j:Nat}{o:Nat}{s:Option Nat}(h:BR ρ i j)(hg:i<Q.globals.size):SR Q P EqR (byteOf ⟨i,o,s⟩) ρ (byteOf ⟨j,o,s⟩):=by
 unfold byteOf;cases s with
 | some s=>exact qd rfl
 | none =>
  dsimp only;refine zy ?_;refine .bnd (Kr h) λσ _ _ l _=>.bnd (xz (h.mono l)) λτ x x' l' hx=>?_;have e:x'=x:=by
   rcases hx with⟨_,h⟩ | ⟨_,hge,_⟩
   ·exact h
   ·omega
  subst e;cases x' with
  | none=>exact qf
  | some en =>
   obtain⟨e,n⟩:=en;dsimp only;rw[yr hT];refine qC (λ_=>qd rfl) λ_=>?_;rw[xQ hT,kN hT,ko hT];cases byteOfCell Q Q.depth e (o % Q.cellsOf e) with
   | none=>exact qf
   | some b=>exact qd rfl
theorem QV{i j i' j':Nat}{o o':Nat}{s s':Option Nat}(h:BR ρ i j)(h':BR ρ i' j')(hG:Gl P ρ) :
  SR Q P EqR (Op.twoPlaces ⟨i,o,s⟩ ⟨i',o',s'⟩) ρ (Op.twoPlaces ⟨j,o,s⟩ ⟨j',o',s'⟩):=by
 unfold Op.twoPlaces;refine zy ?_;dsimp only;by_cases hi:i<Q.globals.size
 ·have hP:P.globals.size=Q.globals.size:=by rw[QM hT]
  have e1:j=i:=(hG i (by omega)).fn h |>.symm;by_cases Z:i'=i
  ·subst Z
   have e2:j'=j:=h'.fn h;subst e2;subst e1;simp only[bne_self_eq_false,Bool.false_or,QM hT];rw[if_neg (by simpa using hi)];exact .bndE (xY hT h hi) λσ a l=>.bndE (xY hT (h'.mono l) hi) λτ b _=>qd rfl
  ·have:(i != i' || decide (i>=Q.globals.size))=true:=by
    simp[Ne.symm Z]
   rw[if_pos this];exact zS
 ·have:(i != i' || decide (i>=Q.globals.size))=true:=by
   have:i>=Q.globals.size:=by omega
   simp[this]
  rw[if_pos this];exact zS
theorem q3G{i j i' j':Nat}{o o':Nat}{s s':Option Nat}(k:IntKind)(h:BR ρ i j)(h':BR ρ i' j')(hG:Gl P ρ) :
  SR Q P VR (Op.addrSub k ⟨i,o,s⟩ ⟨i',o',s'⟩) ρ (Op.addrSub k ⟨j,o,s⟩ ⟨j',o',s'⟩) :=
 .bndE (QV hT h h' hG) λσ a l=>qd (.int _ _)
theorem q40{i j i' j':Nat}{o o':Nat}{s s':Option Nat}(op:BinOp)(h:BR ρ i j)(h':BR ρ i' j')(hG:Gl P ρ) :
  SR Q P VR (Op.addrCmp op ⟨i,o,s⟩ ⟨i',o',s'⟩) ρ (Op.addrCmp op ⟨j,o,s⟩ ⟨j',o',s'⟩) :=
 .bndE (QV hT h h' hG) λσ a l=>by
  obtain⟨x,y⟩:=a;cases op<;>first | exact qd (.bool _) | exact qr
omit hT in
theorem vE{i j:Nat}(h:BR ρ i j)(hk:¬ JunkSet.jk i):SR Q P EqR (shape i) ρ (shape j) :=
 (xz h).imp λσ x x' _ hx=>by
  rcases hx with⟨_,e⟩ | ⟨h,_⟩
  ·exact e
  ·exact absurd h hk
omit hT in
theorem Qi{i j:Nat}(h:BR ρ i j)(hk:JunkSet.jk i):SR Q P (λ_ x x'=>x=some (yH Q,0)/\∃e n,x'=some (e,n)) (shape i) ρ (shape j) :=
 (xz h).imp λσ x x' _ hx=>by
  rcases hx with⟨h,_⟩ | ⟨_,_,h⟩
  ·exact absurd hk h
  ·exact h
omit hT in
theorem q3y{f:TypeInfo->Sem α}{s':Sem β}:SR Q P R (qd3 (yH Q)>>=f) ρ s':=by
 refine .bad ?_;refine Bad.bind (f:=f) ?_;show Bad Q (match Q.info? (yH Q) with
  | some i=>(pure i:Sem TypeInfo)
  | none=>stuck "no such type")
 rw[noInfo];trivial
theorem q3E{i j:Nat}{o:Nat}{s:Option Nat}(h:BR ρ i j)(hk:¬ JunkSet.jk i):SR Q P EqR (byteOf ⟨i,o,s⟩) ρ (byteOf ⟨j,o,s⟩):=by
 unfold byteOf;cases s with
 | some s=>exact qd rfl
 | none =>
  dsimp only;refine zy ?_;refine .bnd (Kr h) λσ _ _ l _=>.bndE (vE (h.mono l) hk) λτ x l'=>?_;cases x with
  | none=>exact qf
  | some en =>
   obtain⟨e,n⟩:=en;dsimp only;rw[yr hT];refine qC (λ_=>qd rfl) λ_=>?_;rw[xQ hT,kN hT,ko hT];cases byteOfCell Q Q.depth e (o % Q.cellsOf e) with
   | none=>exact qf
   | some b=>exact qd rfl
theorem q3H{i j:Nat}{o:Nat}{s:Option Nat}(k:IntKind)(n:Int)(h:BR ρ i j):SR Q P VR (Op.addrMod k ⟨i,o,s⟩ n) ρ (Op.addrMod k ⟨j,o,s⟩ n):=by
 by_cases hk:JunkSet.jk i
 ·refine .bnd (Qi h hk) λσ x x' l hx=>?_
  obtain⟨rfl,e,m,rfl⟩:=hx;exact q3y
 ·refine .bndE (vE h hk) λσ x l=>?_
  cases x with
  | none=>exact qr
  | some en =>
   obtain⟨e,m⟩:=en;refine .bndE (zj hT e) λτ ti l'=>?_;dsimp only;refine qC (λ_=>zS) λ_=>?_;exact .bndE (q3E hT (h.mono (l.trans l')) hk) λυ b _=>qd (.int _ _)
theorem Qh{t t':q7x}{ts Z:Array q7x}{v v' x x':q4k}(h:VR ρ v v')(hx:VR ρ x x') :
  SR Q P PVR (qbk ts t #[v,x]) ρ (qbk Z t' #[v',x']):=by
 have key:∀(p p':Option qai),VR ρ (.pointer p) (.pointer p')->SR Q P PVR (qbk ts t #[.pointer p,x]) ρ (qbk Z t' #[.pointer p',x']):=by
  intro p p' hp;unfold qbk;dsimp only;refine .bndE (QY hx) λσ n l=>?_;refine qC (λ_=>?_) λ_=>?_
  ·cases hp with
   | ptrNil=>exact qr
   | ptr o s h =>
    dsimp only;refine .bnd (Kq (h.mono l)) λτ a b l' hab=>?_;obtain⟨rfl,rfl⟩:=hab;exact qd ⟨.ptr _ _ (h.mono (l.trans l')),by simp⟩
  ·refine qC (λ_=>zS) λ_=>?_
   cases hp with
   | ptrNil=>exact qr
   | @ptr i j o s h =>
    dsimp only;by_cases hk:JunkSet.jk i
    ·refine .bnd (Qi (h.mono l) hk) λτ x x' l' a6=>?_
     obtain⟨rfl,e,m,rfl⟩:=a6;refine .bad ?_;show Bad Q (match qdE Q Q.depth (yH Q) (0 / Q.cellsOf (yH Q)) o n with
      | some off=>(pure (.pointer (some ⟨i,off,s⟩)):Sem q4k)
      | none=>unsupported (.unsafePointer "Add"))
     have:qdE Q Q.depth (yH Q) (0 / Q.cellsOf (yH Q)) o n=none:=by
      unfold qdE;simp[q4w]
     rw[this];trivial
    ·refine .bndE (vE (h.mono l) hk) λτ x l'=>?_
     cases x with
     | none=>exact qr
     | some en =>
      obtain⟨e,m⟩:=en;dsimp only;refine zy ?_;rw[Yz hT,xQ hT,yr hT];cases qdE Q Q.depth e (m / Q.cellsOf e) o n with
      | none=>exact qr
      | some off=>exact qd ⟨.ptr _ _ (h.mono (l.trans l')),by simp⟩
 cases h with
 | ptrNil=>exact key _ _ .ptrNil
 | ptr o s h=>exact key _ _ (.ptr o s h)
 | _=>exact qf
theorem q0i{t t':q7x}{ts Z:Array q7x}{v v' x x':q4k}(h:VR ρ v v')(hx:VR ρ x x') :
  SR Q P VR (qbk ts t #[v,x]) ρ (qbk Z t' #[v',x']):=(Qh hT h hx).imp λ_ _ _ _ h=>h.1
theorem j3{t:q7x}{v v' x x':q4k}(h:VR ρ v v')(hx:VR ρ x x'):SR Q P VR (movedNumber t v x) ρ (movedNumber t v' x'):=by
 have rest:∀σ,Le ρ σ->SR Q P VR (do
   let .pointer (some n):=v | qbk #[] t #[v,x]
   let (a,lost) <- qbx n
   match <- qbk #[] t #[.pointer (some a),x] with
    | .pointer (some b)=>asNumber b lost
    | v=>pure v) σ (do
   let .pointer (some n):=v' | qbk #[] t #[v',x']
   let (a,lost) <- qbx n
   match <- qbk #[] t #[.pointer (some a),x'] with
    | .pointer (some b)=>asNumber b lost
    | v=>pure v):=by
  intro σ l;have hx':=hx.mono l;have Z:SR Q P VR (qbk #[] t #[v,x]) σ (qbk #[] t #[v',x']):=q0i hT (h.mono l) hx';cases h with
  | ptr o s h =>
   dsimp only;refine .bnd (jA (h.mono l)) λτ a b l' hab=>?_;obtain⟨i',j',o',s',lost,rfl,rfl,hb⟩:=hab;dsimp only;refine .bnd (Qh hT (.ptr o' s' hb) (hx'.mono l')) λυ y y' lu a7=>?_;obtain⟨hy,a8⟩:=a7;have a6:SR Q P VR (pure y) υ (pure y'):=qd hy;cases hy with
   | ptr o' s' h'=>exact .bnd (JK (.number _ _ _ h')) λω i j _ hij=>qd (.ptr _ _ hij)
   | wild _ _=>exact absurd rfl (a8.2 _)
   | _=>exact a6
  | _=>exact Z
 unfold movedNumber;refine .bndE (qB hT t) λσ d l=>?_;cases d<;>first | exact rest σ l | exact qr
def q0r(Q:q7m)(t:q7x):Bool :=
 match Q.underlying t with
 | some .unsafePointer=>false
 | _=>true
theorem qK(t:q7x):SR Q P (λ_ a b=>b=a/\Q.underlying t=some a) (qco t) ρ (qco t):=by
 refine zy ?_;rw[yU hT];cases Q.underlying t with
 | some i=>exact qd ⟨rfl,rfl⟩
 | none=>exact qf
def YZ:BinOp->Bool
 | .eql | .neq=>true
 | _=>false
theorem q8i{op:BinOp}(ho:YZ op=false){t:q7x}(ht:q0r Q t=true){v v' x x':q4k}(h:VR ρ v v')(hx:VR ρ x x')(hG:Gl P ρ) :
  SR Q P VR (binOp op t v x) ρ (binOp op t v' x'):=by
 have ints:∀(k:IntKind) (a:Int) (k':IntKind) (b:Int),SR Q P VR (binOp op t (.int k a) (.int k' b)) ρ (binOp op t (.int k a) (.int k' b)):=by
  intro k a k' b;have b6:∀op,SR Q P VR (Op.intDiv op k a b) ρ (Op.intDiv op k a b):=λop=>by
   unfold Op.intDiv;refine qC (λ_=>qx hT hG _) λ_=>?_;cases op<;>first | exact qd (.int _ _) | exact qf
  have Z:∀op,SR Q P VR (Op.shift op k a k' b) ρ (Op.shift op k a k' b):=λop=>by
   unfold Op.shift;refine qC (λ_=>qx hT hG _) λ_=>?_;dsimp only;cases op<;>first | exact qd (.int _ _) | exact qf
  cases op<;>first
   | exact Z .shl
   | exact Z .shr
   | (refine qC (λ_=>qf) λ_=>?_;first | exact b6 .quo | exact b6 .rem | exact qd (.int _ _) | exact qd (.bool _))
   | exact absurd ho (by decide)
 have a6:op=.add->∀(p p':Option qai) (k:IntKind) (b:Int),VR ρ (.pointer p) (.pointer p')->SR Q P VR (binOp .add t (.pointer p) (.int k b)) ρ (binOp .add t (.pointer p') (.int k b)):=by
  intro _ p p' k b hp;refine .bnd (qK hT t) λσ d d' l hd=>?_;obtain⟨rfl,hd⟩:=hd;have:SR Q P VR (movedNumber t (.pointer p) (.int k b)) σ (movedNumber t (.pointer p') (.int k b)):=j3 hT (hp.mono l) (.int k b);unfold q0r at ht;rw[hd] at ht;cases d'<;>first | exact this | cases ht
 have a8:∀(a7:BinOp) {i j i' j' o s o' s'},BR ρ i j->BR ρ i' j'->SR Q P VR (do Op.addrCmp a7 (<- qbx ⟨i,o,s⟩).1 (<- qbx ⟨i',o',s'⟩).1) ρ (do Op.addrCmp a7 (<- qbx ⟨j,o,s⟩).1 (<- qbx ⟨j',o',s'⟩).1):=by
  intro a7 i j i' j' o s o' s' h1 h2;refine .bnd (jA h1) λσ a b l hab=>?_;obtain⟨_,_,_,_,_,rfl,rfl,hb1⟩:=hab;refine .bnd (jA (h2.mono l)) λτ a b l' hab=>?_;obtain⟨_,_,_,_,_,rfl,rfl,b0⟩:=hab;exact q40 hT a7 (hb1.mono l') b0 (hG.mono (l.trans l'))
 have sub:∀{i j i' j' o s o' s'},BR ρ i j->BR ρ i' j'->SR Q P VR (do Op.addrSub .u64 (<- qbx ⟨i,o,s⟩).1 (<- qbx ⟨i',o',s'⟩).1) ρ (do Op.addrSub .u64 (<- qbx ⟨j,o,s⟩).1 (<- qbx ⟨j',o',s'⟩).1):=by
  intro i j i' j' o s o' s' h1 h2;refine .bnd (jA h1) λσ a b l hab=>?_;obtain⟨_,_,_,_,_,rfl,rfl,hb1⟩:=hab;refine .bnd (jA (h2.mono l)) λτ a b l' hab=>?_;obtain⟨_,_,_,_,_,rfl,rfl,b0⟩:=hab;exact q3G hT .u64 (hb1.mono l') b0 (hG.mono (l.trans l'))
 have a9:∀{i j o s} (k:IntKind) (n:Int),BR ρ i j->SR Q P VR (do Op.addrMod k (<- qbx ⟨i,o,s⟩).1 n) ρ (do Op.addrMod k (<- qbx ⟨j,o,s⟩).1 n):=by
  intro i j o s k n h1;refine .bnd (jA h1) λσ a b l hab=>?_;obtain⟨_,_,_,_,_,rfl,rfl,hb1⟩:=hab;exact q3H hT k n hb1
 cases h with
 | int k a =>
  cases hx with
  | int k' b=>exact ints k a k' b
  | ptr o s hb=>cases op<;>first | exact j3 hT (.ptr o s hb) (.int k a) | exact a9 k (a+1) hb | exact qr | exact absurd ho (by decide)
  | ptrNil=>cases op<;>first | exact j3 hT .ptrNil (.int k a) | exact qr | exact absurd ho (by decide)
  | _=>cases op<;>first | exact qf | exact absurd ho (by decide)
 | string a =>
  cases hx with
  | string b =>
   cases op<;>first
    | exact qd (.bool _)
    | exact qf
    | (refine qC (λ_=>qr) λ_=>?_;exact qd (.string _))
    | exact absurd ho (by decide)
  | ptr o s hb=>cases op<;>first | exact qr | exact qf | exact absurd ho (by decide)
  | ptrNil=>cases op<;>first | exact qr | exact qf | exact absurd ho (by decide)
  | _=>cases op<;>first | exact qf | exact absurd ho (by decide)
 | ptr o s hb =>
  cases hx with
  | int k b=>cases op<;>first | exact a6 rfl _ _ k b (.ptr o s hb) | exact j3 hT (.ptr o s hb) (.int k (-b)) | exact a9 k b hb | exact a9 k (b+1) hb | exact qr | exact absurd ho (by decide)
  | ptr o' s' hb'=>cases op<;>first | exact sub hb hb' | exact a8 .lss hb hb' | exact a8 .leq hb hb' | exact a8 .gtr hb hb' | exact a8 .geq hb hb' | exact qr | exact absurd ho (by decide)
  | ptrNil=>cases op<;>first | exact qr | exact absurd ho (by decide)
  | _=>cases op<;>first | exact qr | exact qf | exact absurd ho (by decide)
 | ptrNil =>
  cases hx with
  | int k b=>cases op<;>first | exact a6 rfl _ _ k b .ptrNil | exact j3 hT .ptrNil (.int k (-b)) | exact qr | exact absurd ho (by decide)
  | _=>cases op<;>first | exact qr | exact qf | exact absurd ho (by decide)
 | _ =>
  cases hx with
  | ptr o s hb=>cases op<;>first | exact qr | exact qf | exact absurd ho (by decide)
  | ptrNil=>cases op<;>first | exact qr | exact qf | exact absurd ho (by decide)
  | _=>cases op<;>first | exact qf | exact absurd ho (by decide)
end
end Go.Sim
end
section
namespace Go.Sim
def q5d(Q:q7m)(t:q7x):Bool :=
 match Q.info? t with
 | some i=>match i.desc with | .named n _=>n != "sync.copyChecker" | _=>true
 | none=>true
def eqB(Q:q7m):Nat->q7x->Bool
 | 0,_=>false
 | n+1,t =>
  match Q.underlying t with
  | some .bool | some .string | some (.slice _) | some (.map ..) | some (.func ..)=>true
  | some (.int _)=>q5d Q t
  | some (.struct fs)=>fs.all λf=>f.name == "_" || eqB Q n f.type
  | some (.array _ e)=>eqB Q n e
  | _=>false
theorem zM{Q:q7m}{v:q4k}(hv:v=.tuple #[]\/∃r,v=.chan r)(d:Nat){t:q7x}(ht:∀a b,Q.underlying t≠some (.chan a b))(x:q4k):Bad Q (Op.equalIn d t v x):=by
 cases d with
 | zero=>exact rfl
 | succ d =>
  unfold Op.equalIn;show Bad Q ((match Q.underlying t with | some i=>(pure i:Sem TypeDesc) | none=>stuck "no such type").bind _);cases hu:Q.underlying t with
  | none=>exact rfl
  | some ty =>
   rcases hv with rfl | ⟨r,rfl⟩
   ·cases ty<;>cases x<;>first | exact rfl | (rename_i p;cases p<;>exact rfl)
   ·cases ty<;>first | exact absurd hu (ht _ _) | (cases x<;>first | exact rfl | (rename_i p;cases p<;>exact rfl))
theorem zL{Q:q7m}{v:q4k}(hv:v=.tuple #[]\/∃r,v=.chan r)(d:Nat){t:q7x}(ht:∀a b,Q.underlying t≠some (.chan a b))(x:q4k):Bad Q (Op.equalIn d t x v):=by
 cases d with
 | zero=>exact rfl
 | succ d =>
  unfold Op.equalIn;show Bad Q ((match Q.underlying t with | some i=>(pure i:Sem TypeDesc) | none=>stuck "no such type").bind _);cases hu:Q.underlying t with
  | none=>exact rfl
  | some ty =>
   rcases hv with rfl | ⟨r,rfl⟩
   ·cases ty<;>cases x<;>first | exact rfl | (rename_i p;cases p<;>exact rfl) | (rename_i p _;cases p<;>exact rfl) | (rename_i p _ _;cases p<;>exact rfl)
   ·cases ty<;>first | exact absurd hu (ht _ _) | (cases x<;>first | exact rfl | (rename_i p;cases p<;>exact rfl) | (rename_i p _;cases p<;>exact rfl) | (rename_i p _ _;cases p<;>exact rfl))
theorem jP{Q:q7m}{n:Nat}{t:q7x}(h:eqB Q n t=true):∀a b,Q.underlying t≠some (.chan a b):=by
 intro a b e;cases n with
 | zero=>cases h
 | succ n =>
  unfold eqB at h;rw[e] at h;cases h
section
variable[JunkSet]{Q P:q7m}(hT:P.toTables=Q.toTables){ρ:Ren}{α β γ:Type}{R:Rel α β}
theorem zA{σT:Type}{K:Ren->Prop}(hK:∀ρ σ,Le ρ σ->K ρ->K σ){f f':α->σT->Sem (ForInStep σT)}(l:List α)(h:∀a∈l,∀ρ b,K ρ->SR Q P EqR (f a b) ρ (f' a b)):∀(ρ:Ren) (b:σT),K ρ->SR Q P EqR (forIn l b f) ρ (forIn l b f'):=by
 induction l with
 | nil=>intro ρ b _;exact qd rfl
 | cons a l ih =>
  intro ρ b k;rw[List.forIn_cons,List.forIn_cons];refine .bndE (h a (List.mem_cons_self ..) ρ b k) λσ s lσ=>?_;cases s with
  | done b=>exact qd rfl
  | yield b=>exact ih (λa ha=>h a (List.mem_cons_of_mem _ ha)) σ b (hK _ _ lσ k)
include hT
theorem QC:∀(n d:Nat) {ρ:Ren} {t:q7x} {x x' y y':q4k},eqB Q n t=true->VR ρ x x'->VR ρ y y'->Gl P ρ ->
  SR Q P EqR (Op.equalIn d t x y) ρ (Op.equalIn d t x' y'):=by
 intro n;induction n with
 | zero=>intro d ρ t x x' y y' h;cases h
 | succ n ih =>
  intro d ρ t x x' y y' h hx hy hG;cases d with
  | zero=>exact qr
  | succ d =>
   unfold Op.equalIn;refine .bnd (qK hT t) λσ ty a9 l Z=>?_;obtain⟨rfl,Z⟩:=Z;replace hx:=hx.mono l;replace hy:=hy.mono l;replace hG:=hG.mono l;unfold eqB at h;rw[Z] at h;cases a9 with
   | bool=>cases hx<;>first | exact qf | (cases hy<;>first | exact qf | exact qd rfl)
   | string=>cases hx<;>first | exact qf | (cases hy<;>first | exact qf | exact qd rfl)
   | slice e=>cases hx<;>first | exact qf | (cases hy<;>first | exact qf | exact qd rfl)
   | map k e=>cases hx<;>first | exact qf | (cases hy<;>first | exact qf | exact qd rfl)
   | func a b c=>cases hx<;>first | exact qf | (cases hy<;>first | exact qf | exact qd rfl)
   | int k =>
    have b0:∀{i j i' j' o s o' s'},BR σ i j->BR σ i' j'->SR Q P EqR (do
      let (a,b):=((<- qbx ⟨i,o,s⟩).1,(<- qbx ⟨i',o',s'⟩).1)
      if a.block == b.block && a.block<(<- program).globals.size then return (<- byteOf a) == (<- byteOf b)
      let .named "sync.copyChecker" _:=(<- qd3 t).desc | unsupported .addressObserved
      if a == b then pure true else unsupported .addressObserved) σ (do
      let (a,b):=((<- qbx ⟨j,o,s⟩).1,(<- qbx ⟨j',o',s'⟩).1)
      if a.block == b.block && a.block<(<- program).globals.size then return (<- byteOf a) == (<- byteOf b)
      let .named "sync.copyChecker" _:=(<- qd3 t).desc | unsupported .addressObserved
      if a == b then pure true else unsupported .addressObserved):=by
     intro i j i' j' o s o' s' h1 h2;refine .bnd (jA h1) λσ a b l hab=>?_;obtain⟨_,_,_,_,_,rfl,rfl,hb1⟩:=hab;refine .bnd (jA (h2.mono l)) λτ a b l' hab=>?_;obtain⟨_,_,_,_,_,rfl,rfl,a7⟩:=hab;dsimp only;refine zy ?_
     rename_i i1 j1 o1 s1 x1 i2 j2 o2 s2 x2
     have hP:P.globals.size=Q.globals.size:=by rw[QM hT]
     by_cases hc:(i1 == i2 && decide (i1<Q.globals.size))=true
     ·rw[if_pos hc]
      simp only[q85,beq_iff_eq,decide_eq_true_eq] at hc;obtain⟨rfl,hlt⟩:=hc;have e:j2=j1:=a7.fn (hb1.mono l');subst e;have e1:j2=i1:=(((hG.mono l).mono l') i1 (by omega)).fn a7 |>.symm;rw[if_pos (by simp[e1,hP,hlt])];exact .bndE (xY hT (hb1.mono l') hlt) λυ a lu=>.bndE (xY hT (a7.mono lu) hlt) λω b _=>qd rfl
     ·rw[if_neg hc]
      refine .bad ?_;show Bad Q ((qd3 t).bind _);have a6:∃ti,Q.info? t=some ti:=by
       unfold Program.underlying at Z;cases hq:Q.info? t with
       | none=>rw[hq] at Z;cases Z
       | some ti=>exact⟨ti,rfl⟩
      obtain⟨ti,a8⟩:=a6;unfold q5d at h;simp only[a8] at h;show Bad Q ((match Q.info? t with
       | some i=>(pure i:Sem TypeInfo)
       | none=>stuck "no such type").bind _)
      rw[a8];show Bad Q (match ti.desc with
       | .named "sync.copyChecker" _=>if((⟨i1,o1,s1⟩:qai) == ⟨i2,o2,s2⟩)=true then pure true else unsupported .addressObserved
       | _=>unsupported .addressObserved)
      split
      ·rename_i u hd
       rw[hd] at h;simp at h
      ·trivial
    cases hx with
    | int k1 a =>
     cases hy with
     | int k2 b=>exact qC (λ_=>qd rfl) λ_=>qf
     | ptr o s hb =>
      cases a with
      | ofNat m=>cases m with
       | zero=>exact qd rfl
       | succ m=>exact qr
      | negSucc m=>exact qr
     | ptrNil=>exact qr
     | _=>exact qf
    | ptr o s hb =>
     cases hy with
     | int k2 b =>
      cases b with
      | ofNat m=>cases m with
       | zero=>exact qd rfl
       | succ m=>exact qr
      | negSucc m=>exact qr
     | ptr o' s' hb'=>exact b0 hb hb'
     | ptrNil=>exact qr
     | _=>exact qr
    | ptrNil=>cases hy<;>exact qr
    | _=>cases hy<;>first | exact qf | exact qr
   | struct fs =>
    cases hx with
    | agg h1 h2 =>
     cases hy with
     | agg h3 h4 =>
      dsimp only;refine zy ?_;rw[q83 hT];refine qC (λ_=>zS) λ_=>?_;rw[<- qd8,<- qd8];dsimp only at h;rw[qaD] at h;refine .bndE (zA (K:=λω=>Le σ ω) (λ_ _ l k=>k.trans l) _ (λf hf υ b lu=>?_) σ _ (.refl σ)) λυ r lu=>?_
      ·refine qC (λhne=>?_) λ_=>qd rfl
       have b6:eqB Q n f.type=true:=by
        have:=h f (qbw.1 hf);simp only[qbC,beq_iff_eq] at this;exact this.resolve_left hne
       exact .bnd (jp hT (AsR.mono lu ⟨h1,h2⟩) _) λω1 p p' l1 hp=>.bnd (jp hT (AsR.mono (lu.trans l1) ⟨h3,h4⟩) _) λω2 q q' l2 hq =>
        .bndE (ih d b6 (hp.mono l2) hq (hG.mono ((lu.trans l1).trans l2))) λω3 r _=>qC (λ_=>qd rfl) λ_=>qd rfl
      ·obtain⟨r,u⟩:=r
       cases r<;>exact qd rfl
     | _=>exact qf
    | _=>exact qf
   | array len e =>
    cases hx with
    | agg h1 h2 =>
     cases hy with
     | agg h3 h4 =>
      dsimp only;refine .bndE (qN hT e) λτ n l'=>?_;rw[qbf,qbf];refine .bndE (zA (K:=λω=>Le σ ω) (λ_ _ l k=>k.trans l) _ (λf hf υ b lu=>?_) τ _ l') λυ r lu=>?_
      ·exact .bnd (jp hT (AsR.mono lu ⟨h1,h2⟩) _) λω1 p p' l1 hp=>.bnd (jp hT (AsR.mono (lu.trans l1) ⟨h3,h4⟩) _) λω2 q q' l2 hq =>
        .bndE (ih d h (hp.mono l2) hq (hG.mono ((lu.trans l1).trans l2))) λω3 r _=>qC (λ_=>qd rfl) λ_=>qd rfl
      ·obtain⟨r,u⟩:=r
       cases r<;>exact qd rfl
     | _=>exact qf
    | _=>exact qf
   | _=>cases h
theorem JN:∀(n d:Nat) {ρ:Ren} {t:q7x} {x x' y y':q4k},eqB Q n t=true->VR ρ x x'->VR ρ y y' ->
  SR Q P EqR (Op.eqGuardIn d t x y) ρ (Op.eqGuardIn d t x' y'):=by
 intro n;induction n with
 | zero=>intro d ρ t x x' y y' h;cases h
 | succ n ih =>
  intro d ρ t x x' y y' h hx hy;cases d with
  | zero=>exact qr
  | succ d =>
   unfold Op.eqGuardIn;refine .bnd (qK hT t) λσ ty a6 l Z=>?_;obtain⟨rfl,Z⟩:=Z;replace hx:=hx.mono l;replace hy:=hy.mono l;unfold eqB at h;rw[Z] at h;cases a6 with
   | struct fs =>
    cases hx with
    | agg h1 h2 =>
     cases hy with
     | agg h3 h4 =>
      dsimp only;rw[<- qd8,<- qd8];dsimp only at h;rw[qaD] at h;refine .bndE (zA (K:=λω=>Le σ ω) (λ_ _ l k=>k.trans l) _ (λf hf υ b lu=>?_) σ _ (.refl σ)) λυ r lu=>?_
      ·refine qC (λhne=>?_) λ_=>qd rfl
       have a7:eqB Q n f.type=true:=by
        have:=h f (qbw.1 hf);simp only[qbC,beq_iff_eq] at this;exact this.resolve_left hne
       exact .bnd (jp hT (AsR.mono lu ⟨h1,h2⟩) _) λω1 p p' l1 hp=>.bnd (jp hT (AsR.mono (lu.trans l1) ⟨h3,h4⟩) _) λω2 q q' l2 hq =>
        .bndE (ih d a7 (hp.mono l2) hq) λω3 r _=>qC (λ_=>qd rfl) λ_=>qd rfl
      ·obtain⟨r,u⟩:=r
       cases r<;>exact qd rfl
     | wild _ hn=>cases y'<;>first | exact qd rfl | cases hn
     | _=>exact qd rfl
    | wild _ hn=>cases x'<;>first | exact qd rfl | cases hn
    | _=>exact qd rfl
   | array len e =>
    cases hx with
    | agg h1 h2 =>
     cases hy with
     | agg h3 h4 =>
      dsimp only;refine .bndE (qN hT e) λτ n l'=>?_;rw[qbf,qbf];refine .bndE (zA (K:=λω=>Le σ ω) (λ_ _ l k=>k.trans l) _ (λf hf υ b lu=>?_) τ _ l') λυ r lu=>?_
      ·exact .bnd (jp hT (AsR.mono lu ⟨h1,h2⟩) _) λω1 p p' l1 hp=>.bnd (jp hT (AsR.mono (lu.trans l1) ⟨h3,h4⟩) _) λω2 q q' l2 hq =>
        .bndE (ih d h (hp.mono l2) hq) λω3 r _=>qC (λ_=>qd rfl) λ_=>qd rfl
      ·obtain⟨r,u⟩:=r
       cases r<;>exact qd rfl
     | wild _ hn=>cases y'<;>first | exact qd rfl | cases hn
     | _=>exact qd rfl
    | wild _ hn=>cases x'<;>first | exact qd rfl | cases hn
    | _=>exact qd rfl
   | interface ms=>cases h
   | _=>cases hx<;>first | exact qd rfl | (cases hy<;>exact qd rfl)
def kc:qa4->Bool
 | .const .nilIface=>true
 | _=>false
def eqOk(Q:q7m)(t:q7x)(x y:qa4):Bool:=eqB Q 6 t || (kc x || kc y) && (match Q.underlying t with | some (.interface _)=>true | _=>false)
theorem sr_eql{op:BinOp}(ho:YZ op=true){t:q7x}(ht:eqB Q 6 t=true){v v' x x':q4k}(h:VR ρ v v')(hx:VR ρ x x')(hG:Gl P ρ) :
  SR Q P VR (binOp op t v x) ρ (binOp op t v' x'):=by
 have e:SR Q P VR (do pure (.bool (<- Op.equal t v x))) ρ (do pure (.bool (<- Op.equal t v' x'))):=.bndE (QC hT 6 _ ht h hx hG) λσ b _=>qd (.bool _);have n:SR Q P VR (do pure (.bool (!(<- Op.equal t v x)))) ρ (do pure (.bool (!(<- Op.equal t v' x')))):=.bndE (QC hT 6 _ ht h hx hG) λσ b _=>qd (.bool _);cases op<;>first | exact absurd ho (by decide) | skip
 ·cases h<;>first | exact e | exact .bad (Bad.bind (zM (.inl rfl) _ (jP ht) _) _) | exact .bad (Bad.bind (zM (.inr ⟨_,rfl⟩) _ (jP ht) _) _) | (cases hx<;>first | exact e | exact .bad (Bad.bind (zL (.inl rfl) _ (jP ht) _) _) | exact .bad (Bad.bind (zL (.inr ⟨_,rfl⟩) _ (jP ht) _) _) | exact qd (.bool _) | exact qC (λ_=>qf) λ_=>qd (.bool _))
 ·cases h<;>first | exact n | exact .bad (Bad.bind (zM (.inl rfl) _ (jP ht) _) _) | exact .bad (Bad.bind (zM (.inr ⟨_,rfl⟩) _ (jP ht) _) _) | (cases hx<;>first | exact n | exact .bad (Bad.bind (zL (.inl rfl) _ (jP ht) _) _) | exact .bad (Bad.bind (zL (.inr ⟨_,rfl⟩) _ (jP ht) _) _) | exact qd (.bool _) | exact qC (λ_=>qf) λ_=>qd (.bool _))
end
end Go.Sim
end
section
namespace Go.Sim
section
variable[JunkSet]{Q P:q7m}(hT:P.toTables=Q.toTables){ρ:Ren}{α β γ:Type}{R:Rel α β}
include hT
theorem q8e{op:BinOp}(ho:YZ op=true){t:q7x}(ht:∃ms,Q.underlying t=some (.interface ms)){v v' x x':q4k}(h:VR ρ v v')(hx:VR ρ x x')(hn:v=.nilIface\/x=.nilIface) :
  SR Q P VR (binOp op t v x) ρ (binOp op t v' x'):=by
 obtain⟨ms,a7⟩:=ht;have Z:∀a b,Q.underlying t≠some (.chan a b):=λa b e=>by rw[a7] at e;cases e
 have key:SR Q P EqR (Op.equal t v x) ρ (Op.equal t v' x'):=by
  refine .bnd (qK hT t) λσ ty a8 l a6=>?_;obtain⟨rfl,a6⟩:=a6;rw[a7] at a6;cases a6;rcases hn with rfl | rfl
  ·cases h
   cases hx<;>first | exact qd rfl | exact qf
  ·cases hx
   cases h<;>first | exact qd rfl | exact qf
 have e:SR Q P VR (do pure (.bool (<- Op.equal t v x))) ρ (do pure (.bool (<- Op.equal t v' x'))):=.bndE key λσ b _=>qd (.bool _);have n:SR Q P VR (do pure (.bool (!(<- Op.equal t v x)))) ρ (do pure (.bool (!(<- Op.equal t v' x')))):=.bndE key λσ b _=>qd (.bool _);cases op<;>first | exact absurd ho (by decide) | skip
 ·rcases hn with rfl | rfl
  ·cases h
   cases hx<;>first | exact e | exact .bad (Bad.bind (zL (.inl rfl) _ Z _) _) | exact .bad (Bad.bind (zL (.inr ⟨_,rfl⟩) _ Z _) _)
  ·cases hx
   cases h<;>first | exact e | exact .bad (Bad.bind (zM (.inl rfl) _ Z _) _) | exact .bad (Bad.bind (zM (.inr ⟨_,rfl⟩) _ Z _) _)
 ·rcases hn with rfl | rfl
  ·cases h
   cases hx<;>first | exact n | exact .bad (Bad.bind (zL (.inl rfl) _ Z _) _) | exact .bad (Bad.bind (zL (.inr ⟨_,rfl⟩) _ Z _) _)
  ·cases hx
   cases h<;>first | exact n | exact .bad (Bad.bind (zM (.inl rfl) _ Z _) _) | exact .bad (Bad.bind (zM (.inr ⟨_,rfl⟩) _ Z _) _)
theorem JP{op:BinOp}{t:q7x}{x y:qa4}(ht:YZ op=true->eqOk Q t x y=true){v v' u u':q4k}(h:VR ρ v v')(hu:VR ρ u u')(hx:kc x=true->v=.nilIface)(hy:kc y=true->u=.nilIface)(hw:YZ op=true->∀w,(w=v\/w=u)->w≠.chan none) :
  SR Q P (λ_ _ _=>True) (eqGuard op t x y v u) ρ (eqGuard op t x y v' u'):=by
 have a6:YZ op=true->SR Q P (λ_ _ _=>True) (eqGuard .eql t x y v u) ρ (eqGuard .eql t x y v' u'):=by
  intro ho;have ht:=ht ho;have a7:=hw ho v (.inl rfl);have Z:=hw ho u (.inr rfl);unfold eqOk at ht;simp only[qbC,q85] at ht;cases h with
  | wild _ _=>exact absurd rfl a7
  | nilIface =>
   cases hu with
   | nilIface =>
    refine qC (λh=>absurd h (by decide)) λ_=>?_;refine qC (λ_=>qd trivial) λhc=>?_;rcases ht with ht | ⟨hn,_⟩
    ·refine .bndE (JN hT 6 _ ht .nilIface .nilIface) λσ b _=>?_
     exact qC (λ_=>qr) λ_=>qd trivial
    ·exfalso
     apply hc;rcases hn with hn | hn
     ·cases x<;>first | rfl | (exact absurd hn (by simp[kc]))
     ·cases y<;>first | exact absurd hn Bool.false_ne_true | (simp;done)
   | wild _ _=>exact absurd rfl Z
   | _=>exact qd trivial
  | agg h1 h2 =>
   cases hu with
   | agg h3 h4 =>
    refine qC (λh=>absurd h (by decide)) λ_=>?_;refine zy (zy ?_);rw[q0C hT,xQ hT];refine qC (λ_=>qd trivial) λ_=>?_;rcases ht with ht | ⟨hn,_⟩
    ·refine .bndE (JN hT 6 _ ht (.agg h1 h2) (.agg h3 h4)) λσ b _=>?_
     exact qC (λ_=>qr) λ_=>qd trivial
    ·rcases hn with hn | hn
     ·have:=hx hn;cases this
     ·have:=hy hn;cases this
   | wild _ _=>exact absurd rfl Z
   | _=>exact qd trivial
  | _=>exact qd trivial
 cases op<;>first | exact a6 rfl | exact qd trivial
theorem bad_eqT{op:BinOp}(ho:YZ op=true){t:q7x}(ht:∀a b,Q.underlying t≠some (.chan a b)){x y:qa4}{v u:q4k}(h:v=.chan none\/u=.chan none):Bad Q (do eqGuard op t x y v u;binOp op t v u):=by
 rcases h with rfl | rfl
 ·cases op<;>first | (cases ho;done) | exact Bad.bind (zM (.inr ⟨_,rfl⟩) _ ht _) _
 ·cases op<;>first | (cases ho;done) | (cases v<;>exact Bad.bind (zL (.inr ⟨_,rfl⟩) _ ht _) _)
omit hT in
theorem q3C{v v':q4k}(h:VR ρ v v')(i:Nat):SR Q P VR (Instr.extract v i) ρ (Instr.extract v' i):=by
 cases h with
 | @tuple a a' h1 h2 =>
  have ha:AsR ρ a a':=⟨h1,h2⟩
  unfold Instr.extract;dsimp only;cases hc:a[i]? with
  | none=>exact qf
  | some x =>
   obtain⟨y,hy,hv⟩:=ha.get hc;rw[hy];exact qd hv
 | _=>exact qf
theorem q8d(t:q7x){v v':q4k}(h:VR ρ v v')(i:Nat):SR Q P VR (Instr.field t v i) ρ (Instr.field t v' i):=by
 refine .bndE (qB hT t) λσ d l=>?_;cases d with
 | struct fs =>
  dsimp only;cases fs[i]? with
  | none=>exact qf
  | some f=>exact .bnd (q8h (h.mono l)) λτ a a' l' ha=>jp hT ha _
 | _=>exact qf
theorem q8c(hG:Gl P ρ)(t:q7x){v v' x x':q4k}(h:VR ρ v v')(hx:VR ρ x x'):SR Q P VR (Instr.index t v x) ρ (Instr.index t v' x'):=by
 refine .bndE (vG hx) λσ ki l=>?_;obtain⟨k,i⟩:=ki;refine .bndE (qB hT t) λτ d l'=>?_;have h':=h.mono (l.trans l');have Z:=hG.mono (l.trans l');cases d with
 | array len e =>
  cases h' with
  | agg h1 h2 =>
   dsimp only;refine qC (λ_=>?_) λ_=>j4 hT Z _ _ _ _;exact .bndE (qN hT e) λυ n lu=>jp hT (AsR.mono lu ⟨h1,h2⟩) _
  | _=>exact qf
 | string =>
  cases h' with
  | string s =>
   dsimp only;split
   ·exact qd (.int _ _)
   ·exact j4 hT Z _ _ _ _
  | _=>exact qf
 | _=>exact qf
theorem Zv(t:q7x){v v':q4k}(h:VR ρ v v'):SR Q P VR (Instr.makeInterface t v) ρ (Instr.makeInterface t v'):=by
 refine .bndE (qB hT t) λσ d l=>?_;cases d<;>first | exact qd (.iface t (h.mono l)) | exact qf
theorem q87{op:UnOp}{v v':q4k}(h:VR ρ v v'):SR Q P VR (Op.unary op v) ρ (Op.unary op v'):=by
 cases h<;>cases op<;>first | exact qf | exact qr | exact qd (.int _ _) | exact qd (.bool _)
theorem YP(hG:Gl P ρ){t a:q7x}(hz:kA Q a=true)(c:Bool){v v':q4k}(h:VR ρ v v'):SR Q P VR (qcE v t a c) ρ (qcE v' t a c):=by
 have a6:∀{σ:Ren} {u u':q4k},VR σ u u'->SR Q P VR (pure (if c then .tuple #[u,.bool true] else u):Sem q4k) σ (pure (if c then .tuple #[u',.bool true] else u')):=by
  intro σ u u' hu;cases c with
  | true=>exact qd (AsR.tuple (ze.2 (.cons hu (.cons (.bool _) .nil))))
  | false=>exact qd hu
 have Z:∀{σ:Ren} (s d:Option q7x) (m:String),Le ρ σ->SR Q P VR (if c then do pure (.tuple #[<- zeroValue a,.bool false]) else qcv (.typeAssertion s d a m):Sem q4k) σ (if c then do pure (.tuple #[<- zeroValue a,.bool false]) else qcv (.typeAssertion s d a m)):=by
  intro σ s d m l;cases c with
  | true=>exact .bnd (zi hT hz) λτ z z' _ a7=>qd (AsR.tuple (ze.2 (.cons a7 (.cons (.bool _) .nil))))
  | false=>exact qx hT (hG.mono l) (.typeAssertion s d a m)
 unfold qcE;dsimp only;refine .bndE (qB hT a) λσ d l=>?_;have h':=h.mono l;cases d with
 | interface ms =>
  cases h' with
  | nilIface=>exact Z none none "" l
  | iface ty hv =>
   dsimp only;refine .bndE (zj hT ty) λτ ti l'=>?_;split
   ·exact a6 (.iface ty (hv.mono l'))
   ·exact Z none (some ty) _ (l.trans l')
  | _=>exact qf
 | _ =>
  cases h' with
  | nilIface=>exact Z (some t) none "" l
  | iface ty hv =>
   dsimp only;by_cases e:ty=a
   ·rw[if_pos e,if_pos e];exact a6 hv
   ·rw[if_neg e,if_neg e];exact Z (some t) (some ty) "" l
  | _=>exact qf
def sizeB(Q:q7m)(t:q7x):Bool :=
 match Q.info? t with
 | some i=>i.size != 0
 | none=>true
theorem q3x{t:q7x}(h:sizeB Q t=true):SR Q P (λ_ a b=>b=a/\a≠0) (sizeOf t) ρ (sizeOf t):=by
 refine .bnd (vD hT t) λσ i i' l hi=>?_;obtain⟨rfl,hi⟩:=hi;refine qd ⟨rfl,?_⟩;unfold sizeB at h;rw[hi] at h;simpa using h
def q0G(Q:q7m)(s:q7x)(f:Nat):Bool :=
 match Q.underlying s with
 | some (.struct fs)=>match fs[f]? with | some f=>sizeB Q f.type | none=>true
 | _=>true
theorem q3B{s:q7x}{f:Nat}(hf:q0G Q s f=true){v v':q4k}(h:VR ρ v v'):SR Q P VR (Instr.fieldAt s v f) ρ (Instr.fieldAt s v' f):=by
 refine .bnd (qK hT s) λσ d d' l hd=>?_;obtain⟨rfl,hd⟩:=hd;unfold q0G at hf;rw[hd] at hf;cases d' with
 | struct fs =>
  dsimp only at hf ⊢;cases hfs:fs[f]? with
  | none=>exact qf
  | some fd =>
   rw[hfs] at hf;dsimp only at hf ⊢;refine .bnd (yz (h.mono l)) λτ a b l' hab=>?_;obtain⟨i,j,o,sp,rfl,rfl,hb⟩:=hab;show SR Q P VR (fieldPlace ⟨i,o,sp⟩ fd>>=λp=>pure (.pointer (some p))) τ (fieldPlace ⟨j,o,sp⟩ fd>>=λp=>pure (.pointer (some p)));refine .bnd (R:=AdR) ?_ λυ p q _ Z=>by obtain⟨i',j',o',s',rfl,rfl,hb'⟩:=Z;exact qd (.ptr _ _ hb')
   refine .bnd (q3x hT hf) λυ n n' lu hn=>?_;obtain⟨rfl,hn⟩:=hn;rw[if_neg hn,if_neg hn];obtain⟨o1,s1,e1,e2⟩:=jS i j o fd.offset sp;rw[e1,e2];exact qd ⟨_,_,_,_,rfl,rfl,hb.mono lu⟩
 | _=>exact qf
theorem q3A(hG:Gl P ρ)(t:q7x){v v' x x':q4k}(h:VR ρ v v')(hx:VR ρ x x'):SR Q P VR (Instr.indexAt t v x) ρ (Instr.indexAt t v' x'):=by
 unfold Instr.indexAt;refine .bndE (vG hx) λσ ki l=>?_;obtain⟨k,i⟩:=ki;dsimp only;refine .bndE (qB hT t) λτ d l'=>?_;have h':=h.mono (l.trans l');have a6:=hG.mono (l.trans l');have fin:∀(υ:Ren) (b b':Option qai) (len:Nat) (e:q7x) (Z:Bool),Le τ υ->VR υ (.pointer b) (.pointer b') ->
   SR Q P VR (match b with
    | some a=>if 0<=i/\i<len then do pure (.pointer (some (a.add (i.toNat*(<- sizeOf e))))) else if Z then unsupported (.noEntry "op/indexAddr.an index out of range at an array of length 0 or 1 (ledger 616)") else qd5 k i len .index
    | none=>qd5 k i 0 .index) υ (match b' with
    | some a=>if 0<=i/\i<len then do pure (.pointer (some (a.add (i.toNat*(<- sizeOf e))))) else if Z then unsupported (.noEntry "op/indexAddr.an index out of range at an array of length 0 or 1 (ledger 616)") else qd5 k i len .index
    | none=>qd5 k i 0 .index):=by
  intro υ b b' len e Z lu hb;cases hb with
  | ptrNil=>exact j4 hT (a6.mono lu) _ _ _ _
  | @ptr i1 j1 o s hb =>
   dsimp only;refine qC (λ_=>?_) λ_=>qC (λ_=>qr) λ_=>j4 hT (a6.mono lu) _ _ _ _;refine .bndE (qN hT e) λω n l2=>?_;obtain⟨o1,s1,e1,e2⟩:=jS i1 j1 o (i.toNat*n) s;rw[e1,e2];exact qd (.ptr _ _ (hb.mono l2))
 have go:∀(υ:Ren) (b b':Option qai) (len:Nat) (e:q7x),Le τ υ->VR υ (.pointer b) (.pointer b')->SR Q P VR (do
    let Z:=len<=1 && (match <- qco t with | .array ..=>true | _=>false)
    match b with
    | some a=>if 0<=i/\i<len then do pure (.pointer (some (a.add (i.toNat*(<- sizeOf e))))) else if Z then unsupported (.noEntry "op/indexAddr.an index out of range at an array of length 0 or 1 (ledger 616)") else qd5 k i len .index
    | none=>qd5 k i 0 .index) υ (do
    let Z:=len<=1 && (match <- qco t with | .array ..=>true | _=>false)
    match b' with
    | some a=>if 0<=i/\i<len then do pure (.pointer (some (a.add (i.toNat*(<- sizeOf e))))) else if Z then unsupported (.noEntry "op/indexAddr.an index out of range at an array of length 0 or 1 (ledger 616)") else qd5 k i len .index
    | none=>qd5 k i 0 .index):=λυ b b' len e lu hb =>
   .bndE (qB hT t) λω d l2=>fin ω b b' len e _ (lu.trans l2) (hb.mono l2)
 cases d with
 | array len e =>
  refine .bnd (yz h') λυ a b lu hab=>?_;obtain⟨i1,j1,o,s,rfl,rfl,hb⟩:=hab;exact go υ _ _ len e lu (.ptr o s hb)
 | slice e =>
  cases h' with
  | sliceNil n c=>exact go τ none none n e (.refl _) .ptrNil
  | slice o s n c hb=>exact go τ _ _ n e (.refl _) (.ptr o s hb)
  | _=>exact zk
 | _=>exact zk
theorem yt(hG:Gl P ρ){x x':q4k}(h:VR ρ x x')(y:Nat)(c:BoundsCode):SR Q P EqR (qck x y c) ρ (qck x' y c):=by
 refine .bndE (vG h) λσ ki l=>?_;obtain⟨k,i⟩:=ki;exact qC (λ_=>qd rfl) λ_=>j4 hT (hG.mono l) _ _ _ _
def QQ(ρ:Ren)(a b:Option q4k):Prop:=(a=none/\b=none)\/∃x y,a=some x/\b=some y/\VR ρ x y
theorem zZ(hG:Gl P ρ)(b:Bool)(len cap:Nat){lo lo' hi a7 mx Z:Option q4k}(h1:QQ ρ lo lo')(h2:QQ ρ hi a7)(h3:QQ ρ mx Z) :
  SR Q P EqR (Instr.sliceBounds b len cap lo hi mx) ρ (Instr.sliceBounds b len cap lo' a7 Z):=by
 have low:∀(σ:Ren) (m h:Nat) (c:BoundsCode),Le ρ σ->SR Q P EqR (do
   let l <- match lo with
    | some v=>qck v h c
    | none=>pure 0
   pure (l,h,m)) σ (do
   let l <- match lo' with
    | some v=>qck v h c
    | none=>pure 0
   pure (l,h,m)):=by
  intro σ m h c l;rcases h1 with⟨rfl,rfl⟩ | ⟨x,y,rfl,rfl,hv⟩
  ·exact qd rfl
  ·exact .bndE (yt hT (hG.mono l) (hv.mono l) _ _) λτ a _=>qd rfl
 have a6:∀(σ:Ren) (m:Nat) (c1 c2 c3:BoundsCode),Le ρ σ->SR Q P EqR (do
   let h <- match hi,mx with
    | some v,some _=>qck v m c1
    | some v,none=>qck v m c2
    | none,none=>pure len
    | none,some _=>stuck "Slice: max without high"
   let l <- match lo with
    | some v=>qck v h c3
    | none=>pure 0
   pure (l,h,m)) σ (do
   let h <- match a7,Z with
    | some v,some _=>qck v m c1
    | some v,none=>qck v m c2
    | none,none=>pure len
    | none,some _=>stuck "Slice: max without high"
   let l <- match lo' with
    | some v=>qck v h c3
    | none=>pure 0
   pure (l,h,m)):=by
  intro σ m c1 c2 c3 l;rcases h3 with⟨rfl,rfl⟩ | ⟨x,y,rfl,rfl,hv⟩
  ·rcases h2 with⟨rfl,rfl⟩ | ⟨x,y,rfl,rfl,hv⟩
   ·exact low σ _ _ _ l
   ·exact .bndE (yt hT (hG.mono l) (hv.mono l) _ _) λυ a l'=>low υ _ _ _ (l.trans l')
  ·rcases h2 with⟨rfl,rfl⟩ | ⟨x,y,rfl,rfl,hv⟩
   ·exact zk
   ·exact .bndE (yt hT (hG.mono l) (hv.mono l) _ _) λυ a l'=>low υ _ _ _ (l.trans l')
 have es:Z.isSome=mx.isSome:=by rcases h3 with⟨rfl,rfl⟩ | ⟨x,y,rfl,rfl,_⟩<;>rfl
 unfold Instr.sliceBounds;rw[es];rcases h3':mx with _ | x
 ·have e2:Z=none:=by rcases h3 with⟨_,rfl⟩ | ⟨x,y,rfl,rfl,_⟩<;>first | rfl | cases h3'
  subst h3';subst e2;exact a6 ρ cap _ _ _ (.refl ρ)
 ·obtain⟨y,e2,hv⟩:∃y,Z=some y/\VR ρ x y:=by
   rcases h3 with⟨rfl,_⟩ | ⟨x',y,rfl,e2,hv⟩
   ·cases h3'
   ·cases h3';exact⟨y,e2,hv⟩
  subst h3';subst e2;exact .bndE (yt hT hG hv _ _) λτ a l=>a6 τ a _ _ _ l
theorem q8a(hG:Gl P ρ)(t:q7x){v v':q4k}(h:VR ρ v v'){lo lo' hi a7 mx a6:Option q4k}(h1:QQ ρ lo lo')(h2:QQ ρ hi a7)(h3:QQ ρ mx a6) :
  SR Q P VR (Instr.slice t v lo hi mx) ρ (Instr.slice t v' lo' a7 a6):=by
 have Z:∀{σ:Ren} {a b:Option q4k},Le ρ σ->QQ ρ a b->QQ σ a b:=λl h=>h.imp id λ⟨x,y,e1,e2,hv⟩=>⟨x,y,e1,e2,hv.mono l⟩
 refine .bndE (qB hT t) λσ d l=>?_;have h':=h.mono l;cases d with
 | string =>
  cases h' with
  | string s =>
   dsimp only;have e:a6.isSome=mx.isSome:=by rcases h3 with⟨rfl,rfl⟩ | ⟨x,y,rfl,rfl,_⟩<;>rfl
   rw[e];refine qC (λ_=>zk) λ_=>?_;exact .bndE (zZ hT (hG.mono l) false _ _ (Z l h1) (Z l h2) (.inl ⟨rfl,rfl⟩)) λτ r l'=>qd (.string _)
  | _=>exact qf
 | slice e =>
  cases h' with
  | sliceNil n c =>
   refine .bndE (zZ hT (hG.mono l) true _ _ (Z l h1) (Z l h2) (Z l h3)) λτ r l'=>?_;obtain⟨a,b,c'⟩:=r;refine .bndE (qN hT e) λυ z _=>?_;have e1:(if c'=a then(none:Option qai) else Option.map (λ(x:qai)=>x.add (a*z)) none)=none:=by split<;>rfl
   rw[e1];exact qd (.sliceNil _ _)
  | @slice i1 j1 o s n c hb =>
   refine .bndE (zZ hT (hG.mono l) true _ _ (Z l h1) (Z l h2) (Z l h3)) λτ r l'=>?_;obtain⟨a,b,c'⟩:=r;refine .bndE (qN hT e) λυ z l2=>?_;obtain⟨o1,s1,e1,e2⟩:=jS i1 j1 o (a*z) s;by_cases hc:c'=a
   ·rw[if_pos hc,if_pos hc]
    exact qd (.slice _ _ _ _ (hb.mono (l'.trans l2)))
   ·rw[if_neg hc,if_neg hc]
    simp only[qaC,e1,e2];exact qd (.slice _ _ _ _ (hb.mono (l'.trans l2)))
  | _=>exact qf
 | pointer arr =>
  refine .bnd (Kv hT (hG.mono l) h') λτ a b l' hab=>?_;obtain⟨i1,j1,o,s,rfl,rfl,hb⟩:=hab;refine .bndE (qB hT arr) λυ d l2=>?_;cases d with
  | array n e =>
   dsimp only;have lu:=(l.trans l').trans l2;refine .bndE (zZ hT (hG.mono lu) false _ _ (Z lu h1) (Z lu h2) (Z lu h3)) λω r l3=>?_;obtain⟨a,b,c'⟩:=r;refine .bndE (qN hT e) λψ z l4=>?_;dsimp only;obtain⟨o1,s1,e1,e2⟩:=jS i1 j1 o (a*z) s;by_cases hc:c'=a
   ·rw[if_pos hc,if_pos hc]
    exact qd (.slice _ _ _ _ (hb.mono ((l2.trans l3).trans l4)))
   ·rw[if_neg hc,if_neg hc,e1,e2]
    exact qd (.slice _ _ _ _ (hb.mono ((l2.trans l3).trans l4)))
  | _=>exact qf
 | _=>exact qf
theorem q3w(hG:Gl P ρ)(t:q7x){v v':q4k}(h:VR ρ v v'){lo lo' hi a7 mx a6:Option q4k}(h1:QQ ρ lo lo')(h2:QQ ρ hi a7)(h3:QQ ρ mx a6) :
  SR Q P VR (Instr.sliceAt t v lo hi mx) ρ (Instr.sliceAt t v' lo' a7 a6):=by
 have Z:∀{σ:Ren} {a b:Option q4k},Le ρ σ->QQ ρ a b->QQ σ a b:=λl h=>h.imp id λ⟨x,y,e1,e2,hv⟩=>⟨x,y,e1,e2,hv.mono l⟩
 refine .bndE (qB hT t) λσ d l=>?_;have h':=h.mono l;have plain:SR Q P VR (Instr.slice t v lo hi mx) σ (Instr.slice t v' lo' a7 a6):=q8a hT (hG.mono l) t h' (Z l h1) (Z l h2) (Z l h3);cases d with
 | array n e =>
  refine .bnd (yz h') λτ a b l' hab=>?_;obtain⟨i1,j1,o,s,rfl,rfl,hb⟩:=hab;have lu:=l.trans l';refine .bndE (zZ hT (hG.mono lu) false _ _ (Z lu h1) (Z lu h2) (Z lu h3)) λω r l3=>?_;obtain⟨a,b,c'⟩:=r;refine .bndE (qN hT e) λψ z l4=>?_;obtain⟨o1,s1,e1,e2⟩:=jS i1 j1 o (a*z) s;by_cases hc:c'=a
  ·rw[if_pos hc,if_pos hc]
   exact qd (.slice _ _ _ _ (hb.mono (l3.trans l4)))
  ·rw[if_neg hc,if_neg hc,e1,e2]
   exact qd (.slice _ _ _ _ (hb.mono (l3.trans l4)))
 | _=>exact plain
end
end Go.Sim
end
section
namespace Go.Sim
section
variable[JunkSet]{Q P:q7m}(hT:P.toTables=Q.toTables){ρ:Ren}{α β γ:Type}{R:Rel α β}
theorem JM{v v':q4k}(h:VR ρ v v'):SR Q P EqR (Builtin.lenOf v) ρ (Builtin.lenOf v'):=by
 cases h<;>first | exact qd rfl | exact qf
theorem zw(size n:Nat){v v':q4k}(h:VR ρ v v'):SR Q P AsR (Builtin.firstCells size n v) ρ (Builtin.firstCells size n v'):=by
 cases h with
 | sliceNil=>exact qd .nil
 | slice o s _ _ hb=>exact QW _ hb
 | string s =>
  refine qd ⟨rfl,λi x y hx hy=>?_⟩;rw[hx] at hy;cases hy;rw[Array.getElem?_map] at hx;cases hb:(s.extract 0 n).data[i]? with
  | none=>rw[hb] at hx;cases hx
  | some b=>rw[hb] at hx;cases hx;exact .int _ _
 | _=>exact qf
theorem AsR.getBang{a b:Array q4k}(h:AsR ρ a b)(i:Nat):VR ρ a[i]! b[i]!:=by
 rw[Array.getElem!_eq_getD,Array.getElem!_eq_getD];exact h.getD i (.bool _)
theorem kO{n:Nat}{f g:Nat->q4k}(h:∀i,VR ρ (f i) (g i)):AsR ρ ((Array.range n).map f) ((Array.range n).map g):=by
 refine⟨by simp,λi x y hx hy=>?_⟩;simp only[Array.getElem?_map] at hx hy;cases hr:(Array.range n)[i]? with
 | none=>rw[hr] at hx;cases hx
 | some k=>rw[hr] at hx hy;cases hx;cases hy;exact h k
theorem AsR.zeroCells{z z':Array q4k}(h:AsR ρ z z')(n:Nat):AsR ρ (qbq z n) (qbq z' n):=by
 unfold qbq;rw[<- h.1];exact kO λi=>h.getBang _
theorem QD(n:Nat):SR Q P (λ_ _ _=>True) (askRoom n) ρ (askRoom n):=by
 unfold askRoom;refine qC (λ_=>?_) λ_=>qd trivial;exact .inr ⟨rfl,_,rfl,(),rfl,trivial⟩
def NP(Q:q7m){α:Type}:Sem α->Prop
 | .pure _=>True
 | .load _ _ k=>∀v,NP Q (k v)
 | .store _ _ _ k=>NP Q k
 | .new o k=>zC o=false/\∀r,NP Q (k r)
 | .shape _ k=>∀x,NP Q (k x)
 | .freeze _ _ k=>NP Q k
 | .frozen _ k=>∀b,NP Q (k b)
 | .getObj _ k=>∀o,NP Q (k o)
 | .setObj _ o k=>zC o=false/\NP Q k
 | .choose _ k=>∀n,NP Q (k n)
 | .sys _ k=>∀r,NP Q (k r)
 | .program k=>NP Q (k Q)
 | .mark _ k=>NP Q k
 | .halt h=>odd h=false
theorem NP.bind{s:Sem α}{f:α->Sem γ}(h:NP Q s)(hf:∀a,NP Q (f a)):NP Q (s>>=f):=by
 show NP Q (s.bind f);induction s with
 | pure a=>exact hf a
 | load m a k ih=>exact λv=>ih v (h v)
 | store m a v k ih=>exact ih h
 | new o k ih=>exact⟨h.1,λv=>ih v (h.2 v)⟩
 | shape r k ih=>exact λv=>ih v (h v)
 | freeze a n k ih=>exact ih h
 | frozen a k ih=>exact λv=>ih v (h v)
 | getObj r k ih=>exact λv=>ih v (h v)
 | setObj r o k ih=>exact⟨h.1,ih h.2⟩
 | choose q k ih=>exact λv=>ih v (h v)
 | sys c k ih=>exact λv=>ih v (h v)
 | program k ih=>exact ih Q h
 | mark m k ih=>exact ih h
 | halt x=>exact h
theorem Bad.of_np{s:Sem α}{f:α->Sem γ}(h:NP Q s)(hf:∀a,Bad Q (f a)):Bad Q (s>>=f):=by
 show Bad Q (s.bind f);induction s with
 | pure a=>exact hf a
 | load m a k ih=>exact λv=>ih v (h v)
 | store m a v k ih=>exact ih h
 | new o k ih=>exact⟨h.1,λv=>ih v (h.2 v)⟩
 | shape r k ih=>exact λv=>ih v (h v)
 | freeze a n k ih=>exact ih h
 | frozen a k ih=>exact λv=>ih v (h v)
 | getObj r k ih=>exact λv=>ih v (h v)
 | setObj r o k ih=>exact⟨h.1,ih h.2⟩
 | choose q k ih=>exact λv=>ih v (h v)
 | sys c k ih=>exact λv=>ih v (h v)
 | program k ih=>exact ih Q h
 | mark m k ih=>exact ih h
 | halt x=>exact h
theorem np_holds(a:qai)(c:Nat):NP Q (Builtin.holdsCells a c):=λx=>by
 cases x with
 | none=>trivial
 | some p=>trivial
theorem ZW(size Z n:Nat)(base:Option qai)(x:q4k):NP Q (Builtin.mayShare size Z n base x):=by
 have rest:∀b:Bool,NP Q (if(!b)=true then(pure true:Sem Bool) else match x with
   | .slice (some b) _ _=>do pure (!(<- Builtin.holdsCells b (n*size)) || base.any (·.block == b.block))
   | _=>pure false):=λb=>by
  split
  ·trivial
  ·split
   ·exact NP.bind (np_holds _ _) λ_=>trivial
   ·trivial
 unfold Builtin.mayShare;cases base with
 | none=>exact rest true
 | some a=>exact NP.bind (np_holds _ _) λp=>NP.bind (s:=frozen _) (λb=>trivial) λq=>rest _
theorem q20{v v':q4k}(h:VR ρ v v'):(∃b b' n c,v=.slice b n c/\v'=.slice b' n c/\VR ρ (.pointer b) (.pointer b'))\/∀b n c,v≠.slice b n c:=by
 cases h with
 | sliceNil n c=>exact .inl ⟨none,none,n,c,rfl,rfl,.ptrNil⟩
 | slice o s n c hb=>exact .inl ⟨_,_,n,c,rfl,rfl,.ptr o s hb⟩
 | _=>exact .inr λb n c=>by simp
theorem VR.slice_of{b b':Option qai}(hb:VR ρ (.pointer b) (.pointer b'))(n c:Nat):VR ρ (.slice b n c) (.slice b' n c):=by
 cases hb with
 | ptrNil=>exact .sliceNil n c
 | ptr o s hb=>exact .slice o s n c hb
def appB(Q:q7m)(ts:Array q7x):Bool :=
 (match ts[0]? with
  | some st=>match Q.underlying st with | some (.slice e)=>kA Q e | _=>true
  | none=>true) &&
 (match ts[1]? with
  | some xt=>match Q.underlying xt with | some (.int _)=>false | _=>true
  | none=>true)
include hT in
theorem q67(hG:Gl P ρ){ts:Array q7x}{t:q7x}{a a':Array q4k}(h:AsR ρ a a')(hB:appB Q ts=true) :
  SR Q P VR (Builtin.append_ ts t a) ρ (Builtin.append_ ts t a'):=by
 unfold appB at hB;simp only[q85] at hB;obtain⟨a6,a8⟩:=hB;unfold Builtin.append_;cases ht0:ts[0]? with
 | none=>exact qf
 | some st =>
  rw[ht0] at a6;cases h0:a[0]? with
  | none=>exact qf
  | some s0 =>
   obtain⟨c9,e0,hs⟩:=h.get h0;cases h1:a[1]? with
   | none=>exact qf
   | some x =>
    obtain⟨x',e1,hx⟩:=h.get h1;rw[e0,e1];dsimp only;refine .bnd (qK hT st) λσ d d' l hd=>?_;obtain⟨rfl,hd⟩:=hd;dsimp only at a6;rw[hd] at a6;cases d' with
    | slice e =>
     dsimp only at a6 ⊢;rcases q20 (hs.mono l) with⟨b,b',Z,a9,rfl,rfl,hb⟩ | hns
     ·dsimp only
      refine .bndE (qN hT e) λτ size l1=>?_;cases ht1:ts[1]? with
      | none =>
       dsimp only;simp only[q9g,if_false,Bool.not_false,if_true,false_or,pure_bind];have LL:=l.trans l1;have LB:=l1;refine .bndE (JM (hx.mono LL)) λυ n lu=>?_;have L2:=LL.trans lu;have a7:=hb.mono (LB.trans lu);refine qC (λ_=>?_) λ_=>?_
       ·refine .bnd (zw size n (hx.mono L2)) λω c c' l2 hc=>?_
        have b7:=a7.mono l2;cases b7 with
        | ptrNil=>exact qd (.sliceNil _ _)
        | @ptr i j o s hbb =>
         dsimp only;obtain⟨o1,s1,e1,e2⟩:=jS i j o (Z*size) s;rw[e1,e2];exact .bnd (jn (ze.1 hc) 0 hbb) λψ _ _ l3 _=>qd (.slice _ _ _ _ (hbb.mono l3))
       ·refine .bndE (zj hT e) λω ti l2=>?_
        refine qC (λ_=>?_) λ_=>?_
        ·exact .bnd (R:=λ_ _ _=>False) (qx hT (hG.mono (L2.trans l2)) _) λ_ _ _ _ hf=>hf.elim
        ·refine .bndE (zj hT e) λω2 b9 l3=>?_
         refine qC (λ_=>?_) λ_=>?_
         ·exact .bad (Bad.bind (Bad.of_np (ZW _ _ _ _ _) λb=>by cases b<;>trivial) _)
         ·refine .bndE vd λω3 nc l4=>?_
          refine .bndE (zj hT e) λω4 b8 l5=>?_;refine .bnd (QD _) λω5 _ _ l6 _=>?_;have L6:=((((l2.trans l3).trans l4).trans l5).trans l6)
          refine .bnd (zw size Z ((a7.mono L6).slice_of Z a9)) λω6 c c' l7 hc=>?_;refine .bnd (zw size n (hx.mono ((L2.trans L6).trans l7))) λω7 d d' l8 b6=>?_;refine .bnd (zi hT a6) λω8 z z' l9 hz=>?_;refine .bnd (kY ((((hc.mono l8).append b6).mono l9).append (hz.cells.zeroCells _))) λω9 a b c3 hab=>?_;obtain⟨i,j,rfl,rfl,hij⟩:=hab;exact qd (.slice _ _ _ _ hij)
      | some xt =>
       rw[ht1] at a8;dsimp only at a8 ⊢;refine .bnd (qK hT xt) λυ dx c8 l2 b0=>?_;obtain⟨rfl,b0⟩:=b0;rw[b0] at a8;cases c8 with
       | int k=>cases a8
       | _ =>
        simp only[q9g,if_false,Bool.not_false,if_true,false_or,pure_bind];have LL:=(l.trans l1).trans l2;have LB:=l1.trans l2;refine .bndE (JM (hx.mono LL)) λυ n lu=>?_;have L2:=LL.trans lu;have a7:=hb.mono (LB.trans lu);refine qC (λ_=>?_) λ_=>?_
        ·refine .bnd (zw size n (hx.mono L2)) λω c c' l2 hc=>?_
         have b7:=a7.mono l2;cases b7 with
         | ptrNil=>exact qd (.sliceNil _ _)
         | @ptr i j o s hbb =>
          dsimp only;obtain⟨o1,s1,e1,e2⟩:=jS i j o (Z*size) s;rw[e1,e2];exact .bnd (jn (ze.1 hc) 0 hbb) λψ _ _ l3 _=>qd (.slice _ _ _ _ (hbb.mono l3))
        ·refine .bndE (zj hT e) λω ti l2=>?_
         refine qC (λ_=>?_) λ_=>?_
         ·exact .bnd (R:=λ_ _ _=>False) (qx hT (hG.mono (L2.trans l2)) _) λ_ _ _ _ hf=>hf.elim
         ·refine .bndE (zj hT e) λω2 b9 l3=>?_
          refine qC (λ_=>?_) λ_=>?_
          ·exact .bad (Bad.bind (Bad.of_np (ZW _ _ _ _ _) λb=>by cases b<;>trivial) _)
          ·refine .bndE vd λω3 nc l4=>?_
           refine .bndE (zj hT e) λω4 b8 l5=>?_;refine .bnd (QD _) λω5 _ _ l6 _=>?_;have L6:=((((l2.trans l3).trans l4).trans l5).trans l6)
           refine .bnd (zw size Z ((a7.mono L6).slice_of Z a9)) λω6 c c' l7 hc=>?_;refine .bnd (zw size n (hx.mono ((L2.trans L6).trans l7))) λω7 d d' l8 b6=>?_;refine .bnd (zi hT a6) λω8 z z' l9 hz=>?_;refine .bnd (kY ((((hc.mono l8).append b6).mono l9).append (hz.cells.zeroCells _))) λω9 a b c3 hab=>?_;obtain⟨i,j,rfl,rfl,hij⟩:=hab;exact qd (.slice _ _ _ _ hij)
     ·split
      ·exact absurd rfl (hns _ _ _)
      ·exact qf
    | _=>exact qf
end
end Go.Sim
end
section
namespace Go.Sim
def lenB(Q:q7m)(ts:Array q7x):Bool:=match ts[0]? with | some t=>(match Q.underlying t with | some (.chan _ _)=>false | _=>true) | none=>true
section
variable[JunkSet]{Q P:q7m}(hT:P.toTables=Q.toTables){ρ:Ren}{α β γ:Type}{R:Rel α β}
include hT
theorem sr_copy{ts:Array q7x}{t:q7x}{a a':Array q4k}(h:AsR ρ a a'):SR Q P VR (Builtin.copy_ ts t a) ρ (Builtin.copy_ ts t a'):=by
 unfold Builtin.copy_;cases ht0:ts[0]? with
 | none=>exact qf
 | some dt =>
  cases h0:a[0]? with
  | none=>exact qf
  | some d =>
   obtain⟨d',e0,hd⟩:=h.get h0;cases h1:a[1]? with
   | none=>exact qf
   | some x =>
    obtain⟨x',e1,hx⟩:=h.get h1;rw[e0,e1];dsimp only;refine .bndE (qB hT dt) λσ u l=>?_;cases u with
    | slice e =>
     dsimp only;rcases q20 (hd.mono l) with⟨b,b',a6,a7,rfl,rfl,hb⟩ | hns
     ·dsimp only
      refine .bndE (JM (hx.mono l)) λτ n l1=>.bndE (qN hT e) λυ size l2=>?_;refine .bnd (zw size _ (hx.mono ((l.trans l1).trans l2))) λω c c' l3 hc=>?_;have Z:=hb.mono ((l1.trans l2).trans l3);cases Z with
      | ptrNil=>exact qd (.int _ _)
      | ptr o s hbb=>exact .bnd (jn (ze.1 hc) 0 hbb) λψ _ _ l3 _=>qd (.int _ _)
     ·split
      ·exact absurd rfl (hns _ _ _)
      ·exact qf
    | _=>exact qf
theorem sr_len{ts:Array q7x}{t:q7x}{a a':Array q4k}(hB:lenB Q ts=true)(h:AsR ρ a a'):SR Q P VR (Builtin.len_ ts t a) ρ (Builtin.len_ ts t a'):=by
 unfold Builtin.len_;cases ht0:ts[0]? with
 | none=>exact qf
 | some dt =>
  cases h0:a[0]? with
  | none=>exact qf
  | some d =>
   obtain⟨d',e0,hd⟩:=h.get h0;rw[e0];dsimp only;refine .bnd (qK hT dt) λσ u u' l hu=>?_;obtain⟨rfl,hu⟩:=hu;have Z:=hd.mono l;cases u' with
   | array n e=>exact qd (.int _ _)
   | pointer arr =>
    refine .bndE (qB hT arr) λτ u l=>?_;cases u with
    | array n e=>exact qd (.int _ _)
    | _=>exact qf
   | string=>cases Z<;>first | exact qf | exact qd (.int _ _)
   | slice e=>cases Z<;>first | exact qf | exact qd (.int _ _)
   | map k e =>
    cases Z with
    | mapNil=>exact qd (.int _ _)
    | map hb =>
     refine .bnd (jz hb) λτ o o' l' ho=>?_;cases ho with
     | @map es es' c he =>
      dsimp only;have:es.size=es'.size:=he.length;rw[this];exact qd (.int _ _)
     | _=>exact qf
    | _=>exact qf
   | chan a b =>
    unfold lenB at hB;rw[ht0] at hB;dsimp only at hB;rw[hu] at hB;cases hB
   | _=>exact qf
theorem sr_cap{ts:Array q7x}{t:q7x}{a a':Array q4k}(hB:lenB Q ts=true)(h:AsR ρ a a'):SR Q P VR (Builtin.cap_ ts t a) ρ (Builtin.cap_ ts t a'):=by
 unfold Builtin.cap_;cases ht0:ts[0]? with
 | none=>exact qf
 | some dt =>
  cases h0:a[0]? with
  | none=>exact qf
  | some d =>
   obtain⟨d',e0,hd⟩:=h.get h0;rw[e0];dsimp only;refine .bnd (qK hT dt) λσ u u' l hu=>?_;obtain⟨rfl,hu⟩:=hu;have Z:=hd.mono l;cases u' with
   | array n e=>exact qd (.int _ _)
   | pointer arr =>
    refine .bndE (qB hT arr) λτ u l=>?_;cases u with
    | array n e=>exact qd (.int _ _)
    | _=>exact qf
   | slice e=>cases Z<;>first | exact qf | exact qd (.int _ _)
   | chan a b =>
    unfold lenB at hB;rw[ht0] at hB;dsimp only at hB;rw[hu] at hB;cases hB
   | _=>exact qf
omit hT in
theorem sr_min2{v v' x x':q4k}(h:VR ρ v v')(hx:VR ρ x x'):SR Q P VR (Builtin.min2 v x) ρ (Builtin.min2 v' x'):=by
 cases h with
 | int k n=>cases hx<;>first | exact qd (.int _ _) | exact qf | exact qr
 | string s =>
  cases hx with
  | string u=>exact(qd (VR.string _):SR Q P VR (pure (Value.string _)) ρ (pure (Value.string _)))
  | _=>first | exact qf | exact qr
 | ptr o s hb=>exact qr
 | _=>cases hx<;>first | exact qf | exact qr
omit hT in
theorem sr_max2{v v' x x':q4k}(h:VR ρ v v')(hx:VR ρ x x'):SR Q P VR (Builtin.max2 v x) ρ (Builtin.max2 v' x'):=by
 cases h with
 | int k n=>cases hx<;>first | exact qd (.int _ _) | exact qf | exact qr
 | string s =>
  cases hx with
  | string u=>exact(qd (VR.string _):SR Q P VR (pure (Value.string _)) ρ (pure (Value.string _)))
  | _=>first | exact qf | exact qr
 | ptr o s hb=>exact qr
 | _=>cases hx<;>first | exact qf | exact qr
omit hT in
theorem q1H{f f':q4k->q4k->Sem q4k}(hf:∀{σ:Ren} {v v' x x':q4k},VR σ v v'->VR σ x x'->SR Q P VR (f v x) σ (f' v' x')):∀{l l':List q4k} {ρ:Ren} {v v':q4k},LsR (VR ρ) l l'->VR ρ v v' ->
  SR Q P VR (l.foldlM f v) ρ (l'.foldlM f' v'):=by
 intro l;induction l with
 | nil=>intro l' ρ v v' h hv;cases h;exact qd hv
 | cons a l ih =>
  intro l' ρ v v' h hv;cases h with
  | cons ha hl =>
   rw[List.foldlM_cons,List.foldlM_cons];exact .bnd (hf hv ha) λσ x x' lσ hx=>ih (hl.imp λ_ _ k=>k.mono lσ) hx
omit hT in
theorem sr_min{ts:Array q7x}{t:q7x}{a a':Array q4k}(h:AsR ρ a a'):SR Q P VR (Builtin.min_ ts t a) ρ (Builtin.min_ ts t a'):=by
 have hl:=ze.1 h;unfold Builtin.min_;generalize a.toList=l at hl ⊢;generalize a'.toList=l' at hl ⊢;cases hl with
 | nil=>exact qf
 | cons hx hr=>exact q1H (λh hx=>sr_min2 h hx) hr hx
omit hT in
theorem sr_max{ts:Array q7x}{t:q7x}{a a':Array q4k}(h:AsR ρ a a'):SR Q P VR (Builtin.max_ ts t a) ρ (Builtin.max_ ts t a'):=by
 have hl:=ze.1 h;unfold Builtin.max_;generalize a.toList=l at hl ⊢;generalize a'.toList=l' at hl ⊢;cases hl with
 | nil=>exact qf
 | cons hx hr=>exact q1H (λh hx=>sr_max2 h hx) hr hx
def xN(Q:q7m)(t:q7x):Bool:=match Q.underlying t with | some (.slice e)=>kA Q e | _=>true
theorem q8f{ts:Array q7x}{t:q7x}{a a':Array q4k}(h:AsR ρ a a')(hB:(match ts[0]? with | some st=>xN Q st | none=>true)=true):SR Q P VR (Builtin.clear_ ts t a) ρ (Builtin.clear_ ts t a'):=by
 unfold Builtin.clear_;cases ht0:ts[0]? with
 | none=>exact qf
 | some dt =>
  rw[ht0] at hB;cases h0:a[0]? with
  | none=>exact qf
  | some d =>
   obtain⟨d',e0,hd⟩:=h.get h0;rw[e0];dsimp only at hB ⊢;refine .bnd (qK hT dt) λσ u u' l hu=>?_;obtain⟨rfl,hu⟩:=hu;unfold xN at hB;rw[hu] at hB;have Z:=hd.mono l;have fin:∀υ,SR Q P VR (pure (.tuple #[]):Sem q4k) υ (pure (.tuple #[])):=λυ=>qd (AsR.tuple .nil);cases Z with
   | mapNil=>cases u'<;>exact fin _
   | sliceNil n c=>cases u'<;>exact fin _
   | @map i j hb =>
    have go:SR Q P VR (do
      let .map _ clock <- getObj i | stuck "clear: map expected"
      setObj i (.map #[] clock)
      pure (.tuple #[])) σ (do
      let .map _ clock <- getObj j | stuck "clear: map expected"
      setObj j (.map #[] clock)
      pure (.tuple #[])):=by
     refine .bnd (jz hb) λτ o o' l' ho=>?_;cases ho with
     | map c he=>exact .bnd (jy (hb.mono l') (.map c .nil)) λυ _ _ _ _=>fin υ
     | _=>exact qf
    cases u'<;>exact go
   | slice o s n c hb =>
    cases n with
    | zero=>cases u'<;>exact fin _
    | succ n =>
     cases u' with
     | slice e =>
      refine .bnd (zi hT hB) λτ z z' l' hz=>?_;exact .bnd (jn (ze.1 (hz.cells.zeroCells _)) 0 (hb.mono l')) λυ _ _ _ _=>fin υ
     | _=>exact qf
   | _=>cases u'<;>exact qf
theorem q0l(hG:Gl P ρ){t:q7x}(hB:xN Q t=true){v v' x x':q4k}(h:VR ρ v v')(hx:VR ρ x x'):SR Q P VR (Instr.makeSlice t v x) ρ (Instr.makeSlice t v' x'):=by
 refine .bnd (qK hT t) λσ d d' l hd=>?_;obtain⟨rfl,hd⟩:=hd;unfold xN at hB;rw[hd] at hB;cases d' with
 | slice e =>
  dsimp only at hB ⊢;refine .bndE (QY (h.mono l)) λτ len l1=>.bndE (QY (hx.mono (l.trans l1))) λυ cap l2=>?_;refine .bndE (zj hT e) λω ti l3=>?_;have L:=((l.trans l1).trans l2).trans l3;have HG:=hG.mono L;have Z:∀(σ:Ren) (m:String) {f f':PUnit->Sem q4k},Le ω σ->SR Q P VR ((qcv (.error m):Sem PUnit)>>=f) σ ((qcv (.error m):Sem PUnit)>>=f'):=λσ m f f' lσ=>.bnd (R:=λ_ _ _=>False) (qx hT (HG.mono lσ) _) λ_ _ _ _ hf=>hf.elim;have a6:∀(σ:Ren) (n:Nat) {z z':Array q4k} (ln cp:Nat),AsR σ z z'->SR Q P VR (do
    let a <- newRow e ((Array.range n).map λx=>z[x % z.size]!)
    pure (.slice (some a) ln cp)) σ (do
    let a <- newRow e ((Array.range n).map λx=>z'[x % z'.size]!)
    pure (.slice (some a) ln cp)):=λσ n z z' ln cp hz=>by
   refine .bnd (kY (by rw[<- hz.1];exact kO λi=>hz.getBang _)) λω9 a b a7 hab=>?_;obtain⟨i,j,rfl,rfl,hij⟩:=hab;exact qd (.slice _ _ _ _ hij)
  refine qC (λ_=>?_) λ_=>?_
  ·refine qC (λ_=>Z ω _ (.refl ω)) λ_=>qC (λ_=>Z ω _ (.refl ω)) λ_=>?_
   exact .bndE vd λω1 n l4=>Z ω1 _ l4
  ·refine .bnd (QD _) λω1 _ _ l4 _=>.bndE (qN hT e) λω2 size l5=>?_
   refine qC (λ_=>a6 ω2 _ _ _ .nil) λ_=>?_;exact .bnd (zi hT hB) λω4 z z' _ hz=>a6 ω4 _ _ _ hz.cells
 | _=>exact qf
theorem YT{t:q7x}(hB:xN Q t=true)(n:Nat){ps Z:Array (Nat × q4k)}(h:LsR (q07 ρ) ps.toList Z.toList):SR Q P VR (Instr.buildSlice t n ps) ρ (Instr.buildSlice t n Z):=by
 refine .bnd (qK hT t) λσ d d' l hd=>?_;obtain⟨rfl,hd⟩:=hd;unfold xN at hB;rw[hd] at hB;cases d' with
 | slice e =>
  dsimp only at hB ⊢;refine .bndE (qN hT e) λτ size l1=>?_;refine qC (λ_=>zS) λ_=>?_;have fin:∀(υ:Ren) {z z':Array q4k},Le τ υ->AsR υ z z'->SR Q P VR (do
    let some cells:=qds (λi=>some (i*size,size)) ((Array.range (n*size)).map (λx=>z[x % z.size]!)) ps.toList | stuck "buildSlice: a part of the wrong size"
    pure (.slice (some (<- newRow e cells)) n n)) υ (do
    let some cells:=qds (λi=>some (i*size,size)) ((Array.range (n*size)).map (λx=>z'[x % z'.size]!)) Z.toList | stuck "buildSlice: a part of the wrong size"
    pure (.slice (some (<- newRow e cells)) n n)):=by
   intro υ z z' lu hz;have hp:LsR (q07 υ) ps.toList Z.toList:=h.imp λ_ _ x=>⟨x.1,x.2.mono ((l.trans l1).trans lu)⟩
   have hc:AsR υ ((Array.range (n*size)).map (λx=>z[x % z.size]!)) ((Array.range (n*size)).map (λx=>z'[x % z'.size]!)):=by rw[<- hz.1];exact kO λi=>hz.getBang _
   rcases q2C (λi=>some (i*size,size)) _ _ _ _ hp hc with⟨e1,e2⟩ | ⟨r,r',e1,e2,hr⟩
   ·rw[e1,e2];exact qf
   ·rw[e1,e2]
    refine .bnd (kY hr) λω a b _ hab=>?_;obtain⟨i,j,rfl,rfl,hij⟩:=hab;exact qd (.slice _ _ _ _ hij)
  refine qC (λ_=>fin τ (.refl τ) .nil) λ_=>?_;exact .bnd (zi hT hB) λυ z z' lu hz=>fin υ lu hz.cells
 | _=>exact qf
theorem q3z(t:q7x){r r':Option q4k}(h:QQ ρ r r'):SR Q P VR (Instr.makeMap t r) ρ (Instr.makeMap t r'):=by
 have fin:∀σ,SR Q P VR (do pure (.map (some (<- newObj (.map #[] 0))))) σ (do pure (.map (some (<- newObj (.map #[] 0))))):=λσ=>.bnd (JK (.map 0 .nil)) λτ i j _ hij=>qd (.map hij);unfold Instr.makeMap;rcases h with⟨rfl,rfl⟩ | ⟨x,y,rfl,rfl,hv⟩
 ·exact fin ρ
 ·refine .bndE (qB hT t) λσ d l=>?_
  cases d with
  | map k e=>exact .bndE (QY (hv.mono l)) λτ n _=>fin τ
  | _=>exact qf
theorem ZS(em:Bool):∀(n d:Nat) {ρ:Ren} {t:q7x} {x x':q4k},eqB Q n t=true->VR ρ x x'->SR Q P (λ_ _ _=>True) (qcF em d t x) ρ (qcF em d t x'):=by
 intro n;induction n with
 | zero=>intro d ρ t x x' h;cases h
 | succ n ih =>
  intro d ρ t x x' h hx;cases d with
  | zero=>exact qr
  | succ d =>
   unfold qcF;refine .bnd (qK hT t) λσ ty a6 l Z=>?_;obtain⟨rfl,Z⟩:=Z;replace hx:=hx.mono l;unfold eqB at h;rw[Z] at h;cases a6 with
   | interface ms=>cases h
   | struct fs =>
    cases hx with
    | agg h1 h2 =>
     dsimp only;rw[<- qd8,<- qd8];dsimp only at h;rw[qaD] at h;refine .bndE (zA (K:=λω=>Le σ ω) (λ_ _ l k=>k.trans l) _ (λf hf υ b lu=>?_) σ _ (.refl σ)) λυ r lu=>qd trivial;refine qC (λhne=>?_) λ_=>qd rfl;have a7:eqB Q n f.type=true:=by
      have:=h f (qbw.1 hf);simp only[qbC,beq_iff_eq] at this;exact this.resolve_left hne
     exact .bnd (jp hT (AsR.mono lu ⟨h1,h2⟩) _) λω1 p p' l1 hp=>.bnd (ih d a7 hp) λω3 _ _ _ _=>qd rfl
    | _=>exact qf
   | array len e =>
    cases hx with
    | agg h1 h2 =>
     dsimp only;rw[qbf,qbf];refine .bndE (zA (K:=λω=>Le σ ω) (λ_ _ l k=>k.trans l) _ (λf hf υ b lu=>?_) σ _ (.refl σ)) λυ r lu=>qd trivial;exact .bndE (qN hT e) λω0 n l0=>.bnd (jp hT (AsR.mono (lu.trans l0) ⟨h1,h2⟩) _) λω1 p p' l1 hp=>.bnd (ih d h hp) λω3 _ _ _ _=>qd rfl
    | _=>exact qf
   | _=>cases hx<;>exact qd trivial
def q1f(ρ:Ren)(a b:Option (Nat × q4k)):Prop:=(a=none/\b=none)\/∃i x y,a=some (i,x)/\b=some (i,y)/\VR ρ x y
omit hT in
theorem q44(d:TypeDesc){x x' y y':q4k}(hx:VR ρ x x')(hy:VR ρ y y'):Instr.sameNow d x' y'=Instr.sameNow d x y:=by
 have out:∀{u:q4k},exotic u=true->∀d v,Instr.sameNow d u v=none/\Instr.sameNow d v u=none:=by
  intro u hu d v;cases u<;>first | (cases hu;done) | (cases d<;>cases v<;>exact⟨rfl,rfl⟩)
 cases hx with
 | wild _ h=>rw[(out h d _).1,(out (u:=.chan none) rfl d _).1]
 | _=>first
  | (cases d<;>rfl)
  | (
    cases hy with
   | wild _ h=>rw[(out h d _).2,(out (u:=.chan none) rfl d _).2]
   | _=>cases d<;>rfl)
omit hT in
theorem q2A(d:TypeDesc){k k':q4k}(hk:VR ρ k k'):∀{es es':List qct} (i:Nat),LsR (yP ρ) es es' ->
  (Instr.findNow d k es i=none/\Instr.findNow d k' es' i=none)\/∃r r',Instr.findNow d k es i=some r/\Instr.findNow d k' es' i=some r'/\q1f ρ r r':=by
 intro es;induction es with
 | nil=>intro es' i h;cases h;exact .inr ⟨none,none,rfl,rfl,.inl ⟨rfl,rfl⟩⟩
 | cons e es ih =>
  intro es' i h;cases h with
  | cons he hes =>
   simp only[Instr.findNow,q44 d hk he.key];cases Instr.sameNow d k e.key with
   | none=>exact .inl ⟨rfl,rfl⟩
   | some b =>
    cases b with
    | true=>exact .inr ⟨_,_,rfl,rfl,.inr ⟨i,_,_,rfl,rfl,he.val⟩⟩
    | false=>exact ih (i+1) hes
theorem YQ{t:q7x}(ht:eqB Q 6 t=true){k k':q4k}:∀{es es':List qct} {ρ:Ren} (i:Nat),VR ρ k k'->Gl P ρ->LsR (yP ρ) es es' ->
  SR Q P q1f (Instr.findAsking t k es i) ρ (Instr.findAsking t k' es' i):=by
 intro es;induction es with
 | nil=>intro es' ρ i hk hG h;cases h;exact qd (.inl ⟨rfl,rfl⟩)
 | cons e es ih =>
  intro es' ρ i hk hG h;cases h with
  | cons he hes =>
   refine .bndE (QC hT 6 _ ht hk he.key hG) λσ b l=>?_;refine qC (λ_=>qd (.inr ⟨i,_,_,rfl,rfl,he.val.mono l⟩)) λ_=>?_;exact ih (i+1) (hk.mono l) (hG.mono l) (hes.imp λ_ _ x=>x.mono l)
theorem JO{t:q7x}(ht:eqB Q 6 t=true){k k':q4k}{es es':List qct}(hk:VR ρ k k')(hG:Gl P ρ)(h:LsR (yP ρ) es es') :
  SR Q P q1f (Instr.findKey t k es) ρ (Instr.findKey t k' es'):=by
 refine .bndE (qB hT t) λσ d l=>?_;have h':LsR (yP σ) es es':=h.imp λ_ _ x=>x.mono l;rcases q2A d (hk.mono l) 0 h' with⟨e1,e2⟩ | ⟨r,r',e1,e2,hr⟩
 ·rw[e1,e2];exact YQ hT ht 0 (hk.mono l) (hG.mono l) h'
 ·rw[e1,e2];exact qd hr
end
end Go.Sim
end
section
namespace Go.Sim
section
variable[JunkSet]{Q P:q7m}(hT:P.toTables=Q.toTables){ρ:Ren}{α β γ:Type}{R:Rel α β}
include hT
def Ya(Q:q7m)(t:q7x):Bool:=match Q.underlying t with | some (.map k e)=>eqB Q 6 k && kA Q e | _=>true
theorem q64(hG:Gl P ρ){t:q7x}(hB:Ya Q t=true)(c:Bool){m m' k k':q4k}(hm:VR ρ m m')(hk:VR ρ k k'):SR Q P VR (Instr.lookup t m k c) ρ (Instr.lookup t m' k' c):=by
 refine .bnd (qK hT t) λσ d d' l hd=>?_;obtain⟨rfl,hd⟩:=hd;unfold Ya at hB;rw[hd] at hB;cases d' with
 | map kt et =>
  dsimp only at hB ⊢;simp only[q85] at hB;have fin:∀(τ:Ren) {es es':Array qct},Le ρ τ->LsR (yP τ) es.toList es'.toList->SR Q P VR (do
    qcF es.isEmpty 10000 kt k
    let (v,ok) <- match <- Instr.findKey kt k es.toList with
     | some (_,v)=>pure (v,true)
     | none=>pure (<- zeroValue et,false)
    pure (if c then .tuple #[v,.bool ok] else v)) τ (do
    qcF es'.isEmpty 10000 kt k'
    let (v,ok) <- match <- Instr.findKey kt k' es'.toList with
     | some (_,v)=>pure (v,true)
     | none=>pure (<- zeroValue et,false)
    pure (if c then .tuple #[v,.bool ok] else v)):=by
   intro τ es es' lτ he;have Z:es'.isEmpty=es.isEmpty:=by
    have:=he.length;simp only[Array.length_toList] at this;simp[Array.isEmpty,this]
   rw[Z];refine .bnd (ZS hT _ 6 _ hB.1 (hk.mono lτ)) λυ _ _ l1 _=>?_;refine .bnd (JO hT hB.1 (hk.mono (lτ.trans l1)) (hG.mono (lτ.trans l1)) (he.imp λ_ _ x=>x.mono l1)) λω r r' l2 hr=>?_;have last:∀(ψ:Ren) {v v':q4k} (ok:Bool),VR ψ v v'->SR Q P VR (pure (if c then .tuple #[v,.bool ok] else v):Sem q4k) ψ (pure (if c then .tuple #[v',.bool ok] else v')):=by
    intro ψ v v' ok hv;cases c with
    | true=>exact qd (AsR.tuple (ze.2 (.cons hv (.cons (.bool _) .nil))))
    | false=>exact qd hv
   rcases hr with⟨rfl,rfl⟩ | ⟨i,x,y,rfl,rfl,hv⟩
   ·exact .bnd (zi hT hB.2) λψ z z' _ hz=>last ψ false hz
   ·exact last ω true hv
  cases(hm.mono l) with
  | mapNil=>exact fin σ l .nil
  | map hb =>
   refine .bnd (jz hb) λτ o o' l' ho=>?_;cases ho with
   | map c he=>exact fin τ (l.trans l') he
   | _=>exact zk
  | _=>exact zk
 | _=>exact qf
omit hT in
theorem LsR.get{α β:Type}{R:α->β->Prop}{l:List α}{m:List β}(h:LsR R l m)(i:Nat):(l[i]?=none/\m[i]?=none)\/∃x y,l[i]?=some x/\m[i]?=some y/\R x y:=by
 induction h generalizing i with
 | nil=>exact .inl ⟨by simp,by simp⟩
 | cons hx hl ih =>
  cases i with
  | zero=>exact .inr ⟨_,_,rfl,rfl,hx⟩
  | succ i=>simpa using ih i
omit hT in
theorem q30{es es':Array qct}(h:LsR (yP ρ) es.toList es'.toList)(i:Nat){f g:qct->qct}(hf:∀e e',yP ρ e e'->yP ρ (f e) (g e')):LsR (yP ρ) (es.modify i f).toList (es'.modify i g).toList:=by
 rw[q5k] at h ⊢;simp only[Array.length_toList,Array.getElem?_toList] at h ⊢;refine⟨by simpa using h.1,λj x y hx hy=>?_⟩;rw[Array.getElem?_modify] at hx hy;by_cases e:i=j
 ·rw[if_pos e] at hx hy
  cases hx':es[j]? with
  | none=>rw[hx'] at hx;cases hx
  | some a =>
   cases hy':es'[j]? with
   | none=>rw[hy'] at hy;cases hy
   | some b =>
    rw[hx'] at hx;rw[hy'] at hy;cases hx;cases hy;exact hf _ _ (h.2 j a b hx' hy')
 ·rw[if_neg e] at hx hy
  exact h.2 j x y hx hy
def q5u(Q:q7m)(s d:q7x):Bool:=match Q.underlying s,Q.underlying d with | some (.int _),some (.int _)=>true | _,_=>false
theorem q3D{s d:q7x}(hB:q5u Q s d=true){v v':q4k}(h:VR ρ v v'):SR Q P VR (convert s d v) ρ (convert s d v'):=by
 refine .bnd (qK hT s) λσ a a' l ha=>.bnd (qK hT d) λτ b b' l' hb=>?_;obtain⟨rfl,ha⟩:=ha;obtain⟨rfl,hb⟩:=hb;unfold q5u at hB;rw[ha,hb] at hB;cases a' with
 | int k1 =>
  cases b' with
  | int k2 =>
   cases h with
   | int k n=>exact qd (.int _ _)
   | _=>first | exact qr | exact qf
  | _=>cases hB
 | _=>cases b'<;>cases hB
end
end Go.Sim
end
section
namespace Go.Sim
inductive zH [JunkSet] (ρ:Ren):qdb->qdb->Prop
 | value {v v':q4k}:VR ρ v v'->zH ρ (.value v) (.value v')
 | skip:zH ρ .skip .skip
 | enter {f:qam} {a a':Array q4k}:JunkSet.okf f->AsR ρ a a'->zH ρ (.enter f a) (.enter f a')
 | round {l l':Nat} (f:qam) {t t':Array q4k} {a b:qbs}:BR ρ l l'->AsR ρ t t'->JunkSet.okg f->JunkSet.okc a->JunkSet.okc b->zH ρ (.round l f t a b) (.round l' f t' a b)
 | defer {d d':qba}:yF ρ d d'->zH ρ (.defer d) (.defer d')
 | recover:zH ρ .recover .recover
def biB(Q:q7m)(b:Builtin)(ts:Array q7x):Bool :=
 match b with
 | .append=>appB Q ts
 | .len | .cap=>lenB Q ts
 | .copy | .min | .max | .recover | .panic=>true
 | .clear=>match ts[0]? with | some st=>xN Q st | none=>true
 | _=>false
structure Pair[JunkSet](Q P:q7m):Prop where
 bis:∀b ts,JunkSet.okb b ts->biB Q b ts=true
 tables:P.toTables=Q.toTables
 funcs:∀f,JunkSet.okf f->∃fq fp,Q.funcs[f]?=some fq/\P.funcs[f]?=some fp/\fq.body.isNone=false/\fp.body.isNone=false/\(fq.name == "runtime.NumGoroutine")=false/\(fp.name == "runtime.NumGoroutine")=false
 meths:∀n,JunkSet.okm n->∀t i m,Q.info? t=some i->i.methods.find? (·.name == n)=some m->m.path=#[]/\∃f b,m.func=some (f,b)/\JunkSet.okf f/\∀e,Q.underlying t=some (.pointer e)->b=true
 nometh:∀i,Q.info? 0=some i->(i.methods.find? (·.name == "")).isNone=true
section
variable[JunkSet]{Q P:q7m}(H:Pair Q P){ρ:Ren}{α β γ:Type}{R:Rel α β}
theorem yd{l l':Nat}(h:BR ρ l l'):SR Q P Qs (Instr.getLoop l) ρ (Instr.getLoop l') :=
 .bnd (jz h) λσ o o' _ ho=>by
  cases ho with
  | loop h=>exact qd h
  | _=>exact qf
theorem K3:∀{ps:List (Tmp × q4k)} {Z:List (Tmp × q4k)} {t t':Array q4k},LsR (λa b=>b.1=a.1/\VR ρ a.2 b.2) ps Z->AsR ρ t t' ->
  AsR ρ (ps.foldl (λtmps (x:Tmp × q4k)=>tmps.setIfInBounds x.1 x.2) t) (Z.foldl (λtmps (x:Tmp × q4k)=>tmps.setIfInBounds x.1 x.2) t'):=by
 intro ps;induction ps with
 | nil=>intro Z t t' h ht;cases h;exact ht
 | cons p ps ih =>
  intro Z t t' h ht;cases h with
  | @cons _ q _ qs hp hps =>
   obtain⟨a,x⟩:=p;obtain⟨b,y⟩:=q;obtain⟨rfl,hv⟩:=hp;simp only[List.foldl_cons];exact ih hps (ht.set _ hv)
theorem zip_rel{ps:List Tmp}:∀{a a':List q4k},LsR (VR ρ) a a'->LsR (λ(a b:Tmp × q4k)=>b.1=a.1/\VR ρ a.2 b.2) (ps.zip a) (ps.zip a'):=by
 induction ps with
 | nil=>intro a a' h;exact .nil
 | cons p ps ih =>
  intro a a' h;cases h with
  | nil=>exact .nil
  | cons hx hl=>exact .cons ⟨rfl,hx⟩ (ih hl)
theorem q86{l l':Nat}(h:BR ρ l l'){a a':Array q4k}(ha:AsR ρ a a'):SR Q P zH (Instr.yield l a) ρ (Instr.yield l' a'):=by
 refine .bnd (yd h) λσ r r' lσ hr=>?_;dsimp only;rw[hr.params,<- ha.1,hr.fn,hr.assign,hr.body];refine qC (λ_=>zk) λ_=>q1D ?_;refine qd (.round _ (h.mono lσ) ?_ hr.okF hr.okA hr.okB);rw[<- qdC,<- qdC,Array.toList_zip,Array.toList_zip];exact K3 (zip_rel (ze.1 (ha.mono lσ))) hr.tmps
include H
theorem ZT{f:qam}(hf:JunkSet.okf f){a a':Array q4k}(ha:AsR ρ a a'):SR Q P zH (callFunc f a) ρ (callFunc f a'):=by
 obtain⟨fq,fp,h1,h2,h3,h4,h5,h6⟩:=H.funcs f hf;refine zy ?_;rw[h1,h2];dsimp only;rw[h5,h6,h3,h4];exact qd (.enter hf ha)
theorem q63(n:String)(hn:JunkSet.okm n)(a6 Z:Nat)(hff:(a6=0↔Z=0)){t:q7x}{v v':q4k}(h:VR ρ v v') :
  SR Q P (λσ a b=>b.1=a.1/\JunkSet.okf a.1/\VR σ a.2 b.2) (method a6 t v n) ρ (method Z t v' n):=by
 cases a6 with
 | zero=>exact qr
 | succ k =>
  cases Z with
  | zero=>omega
  | succ k' =>
   unfold method;refine .bnd (vD H.tables t) λσ i i' l hi=>?_;obtain⟨rfl,hi⟩:=hi;cases hm:i'.methods.find? (·.name == n) with
   | none=>exact qf
   | some m =>
    obtain⟨hp,f,b,hf,hok,a7⟩:=H.meths n hn t i' m hi hm;dsimp only;rw[hp,hf];have e:(follow (#[]:Array FieldStep).toList t (.val v))=pure (t,.val v):=rfl;have e':(follow (#[]:Array FieldStep).toList t (.val v'))=pure (t,.val v'):=rfl;rw[e,e'];have key:SR Q P VR (receiverAt t (.val v) b (if(#[]:Array FieldStep).isEmpty=true then some ((n.splitOn ".").getLastD n) else none)) σ (receiverAt t (.val v') b (if(#[]:Array FieldStep).isEmpty=true then some ((n.splitOn ".").getLastD n) else none)):=by
     refine .bnd (qK H.tables t) λτ d d' l' hd=>?_;obtain⟨rfl,hd⟩:=hd;have hv:=h.mono (l.trans l');cases d' with
     | pointer e =>
      have:=a7 e hd;subst this;exact qd hv
     | _ =>
      cases b with
      | true=>exact qf
      | false=>exact qd hv
    exact SR.bnd (S:=λσ a b=>b.1=a.1/\JunkSet.okf a.1/\VR σ a.2 b.2) (f:=λr=>pure (f,r)) (f':=λr=>pure (f,r)) key λτ r r' _ hr=>qd ⟨rfl,hok,hr⟩
theorem YS(hG:Gl P ρ)(n:String)(hn:JunkSet.okm n){v v':q4k}(h:VR ρ v v'){a a':Array q4k}(ha:AsR ρ a a'):SR Q P zH (callMethod v n a) ρ (callMethod v' n a'):=by
 cases h with
 | iface t hv =>
  refine zy ?_;have:P.types.size=Q.types.size:=by rw[H.tables]
  rw[this];refine .bnd (q63 H n hn _ _ Iff.rfl hv) λσ a b l hab=>?_;obtain⟨f,r⟩:=a;obtain⟨f',r'⟩:=b;obtain⟨rfl,hok,hr⟩:=hab;exact ZT H hok ((AsR.one hr).append (ha.mono l))
 | nilIface=>exact(qx H.tables hG .nilDeref:SR Q P zH (qcv .nilDeref) ρ (qcv .nilDeref))
 | _=>exact qf
omit [JunkSet] H in
theorem Qp{α:Type}(hn:∀i,Q.info? 0=some i->(i.methods.find? (·.name == "")).isNone=true)(f:TypeInfo->Sem α)(hf:∀i,i.methods.find? (·.name == "")=none->Bad Q (f i)):Bad Q (qd3 0>>=f):=by
 show Bad Q ((match Q.info? 0 with | some i=>(pure i:Sem TypeInfo) | none=>stuck "no such type").bind f);cases h:Q.info? 0 with
 | none=>exact rfl
 | some i=>exact hf i (by simpa using hn i h)
theorem YH(a:Array q4k):Bad Q (callMethod (.iface 0 .nilIface) "" a):=by
 show Bad Q ((method (Q.types.size+_) 0 .nilIface "").bind _);refine Bad.bind ?_ _;generalize Q.types.size+_=n;cases n with
 | zero=>exact rfl
 | succ n =>
  unfold method;refine Qp H.nometh _ λi hi=>?_;rw[hi];exact rfl
theorem q7g:Bad Q (do
  if(<- nilAhead ((<- program).types.size+Made.depth) 0 .nilIface "") != some false then
   unsupported (.noEntry "op/nilCheck.the method's receiver behind this interface value is a nil pointer, or cannot be seen to be none, and the arguments act or may panic (ledger 612)")
  pure (Next.value (.func (.method "") #[.iface 0 .nilIface] #[]))):=by
 show Bad Q ((nilAhead (Q.types.size+Made.depth) 0 .nilIface "").bind _);cases hn:Q.types.size+Made.depth with
 | zero=>exact rfl
 | succ n =>
  refine Bad.bind ?_ _;unfold nilAhead;refine Qp H.nometh _ λi hi=>?_;rw[hi];exact rfl
omit H in
theorem sr_env:SR Q P EqR (sys .env) ρ (sys .env):=.inr ⟨rfl,_,rfl,λr=>⟨r,rfl,rfl⟩⟩
theorem q1E:SR Q P EqR Instr.panicnil ρ Instr.panicnil:=by
 unfold Instr.panicnil;refine .bndE sr_env λσ r l=>?_;cases r with
 | strings e =>
  dsimp only;refine zy ?_;have:P.godebug=Q.godebug:=by rw[H.tables]
  rw[this];exact qd rfl
 | _=>exact qf
theorem JJ{R:Rel q4k q4k}{v v':q4k}(hG:Gl P ρ)(h:VR ρ v v'):SR Q P R (Instr.panic v) ρ (Instr.panic v'):=by
 cases h with
 | iface t hv=>exact(jI (.iface t hv):SR Q P R (goPanic _) ρ (goPanic _))
 | nilIface =>
  show SR Q P R (Instr.panicnil>>=_) ρ (Instr.panicnil>>=_);refine .bndE (q1E H) λσ n l=>?_;exact qC (λ_=>jI .nilIface) λ_=>qx H.tables (hG.mono l) _
 | _=>exact qf
theorem jH{s s':Sem q4k}(h:SR Q P VR s ρ s'):SR Q P zH (do pure (.value (<- s))) ρ (do pure (.value (<- s'))):=.bnd h λσ a b _ hab=>qd (.value hab)
theorem sr_u{s s':Sem Unit}(h:SR Q P (λ_ _ _=>True) s ρ s'):SR Q P zH (do s;pure .skip) ρ (do s';pure .skip):=.bnd h λσ a b _ _=>qd .skip
theorem q3F(hG:Gl P ρ){b:Builtin}{ts:Array q7x}{t:q7x}{cs:Array Bool}(hB:biB Q b ts=true){a a':Array q4k}(ha:AsR ρ a a') :
  SR Q P zH (builtin b ts t cs a) ρ (builtin b ts t cs a'):=by
 cases b<;>first | (cases hB;done) | skip
 ·exact jH H (q67 H.tables hG ha hB)
 ·exact jH H (sr_cap H.tables hB ha)
 ·exact jH H (q8f H.tables ha hB)
 ·exact jH H (sr_copy H.tables ha)
 ·exact jH H (sr_len H.tables hB ha)
 ·exact jH H (sr_max ha)
 ·exact jH H (sr_min ha)
 ·exact jH H (JJ H hG (ha.getD 0 .nilIface))
 ·exact qd .recover
theorem QA{v v':q4k}(h:VR ρ v v'){a a':Array q4k}(ha:AsR ρ a a'):SR Q P yF (Deferred.ofValue v a) ρ (Deferred.ofValue v' a'):=by
 cases h with
 | func hf h1 h2 h3 h4=>exact qd (.mk (.fn hf ⟨h3,h4⟩) (AsR.append ⟨h1,h2⟩ ha))
 | nilFunc=>exact qd (.mk .nil ha)
 | meth n b c=>exact qd (.bound rfl (by simp[qcr]) ⟨_,_,rfl⟩)
 | _=>exact qf
theorem kZ(hG:Gl P ρ){d d':qba}(h:yF ρ d d'):SR Q P zH (invoke d.target d.args) ρ (invoke d'.target d'.args):=by
 obtain⟨t,a⟩:=d;obtain⟨t',a'⟩:=d';rcases h with⟨ht,ha⟩ | ⟨h1,h2,_⟩
 case bound =>
  dsimp only at h1 h2 ⊢;subst h1;unfold invoke;dsimp only;rw[h2];exact .bad (YH H _)
 dsimp only at ht ha ⊢;cases ht with
 | fn hf hc =>
  cases hf with
  | func f hok=>exact ZT H hok (ha.append hc)
  | yield hb=>exact q86 hb ha
 | meth n hn =>
  unfold invoke;dsimp only;cases h0:a[0]? with
  | none=>exact qf
  | some r =>
   obtain⟨r',e,hr⟩:=ha.get h0;rw[e,<- ha.1];exact YS H hG n hn hr (ha.extract _ _)
 | nil=>exact(qx H.tables hG .nilDeref:SR Q P zH (qcv .nilDeref) ρ (qcv .nilDeref))
 | builtin b ts t cs hB=>exact q3F H hG (H.bis _ _ hB) ha
 | collected hb=>exact qf
end
end Go.Sim
end
section
namespace Go.Sim
inductive qF [JunkSet] (Q:q7m):qa4->Prop
 | tmp (t:Tmp):qF Q (.tmp t)
 | const {v:q4k}:kP v->qF Q (.const v)
 | global {g:Nat}:g<Q.globals.size->qF Q (.global g)
 | func {f:qam}:JunkSet.okf f->qF Q (.func f)
def je[JunkSet](Q:q7m)(l:List qa4):Prop:=∀x∈l,qF Q x
inductive yJ [JunkSet] (Q:q7m):Call->Prop
 | value {f:qa4} {a:Array qa4} {ts:Array q7x}:qF Q f->je Q a.toList->yJ Q ⟨.value f,a,ts⟩
 | invoke {r:qa4} {n:String} {a:Array qa4} {ts:Array q7x}:qF Q r->JunkSet.okm n->je Q a.toList->yJ Q ⟨.invoke r n,a,ts⟩
 | builtin {b:Builtin} {a:Array qa4} {ts:Array q7x}:JunkSet.okb b ts->je Q a.toList->yJ Q ⟨.builtin b,a,ts⟩
inductive qJ [JunkSet] (Q:q7m):Op->Prop
 | move {x:qa4}:qF Q x->qJ Q (.move x)
 | assign {x:qa4}:qF Q x->qJ Q (.assign x)
 | pick {c a b:qa4}:qF Q c->qF Q a->qF Q b->qJ Q (.pick c a b)
 | alloc {t:q7x}:kA Q t=true->qJ Q (.alloc t)
 | box {t:q7x} {x:qa4}:qF Q x->qJ Q (.box t x)
 | build {t:q7x} {ps:Array (Nat × qa4)}:kA Q t=true->je Q (ps.toList.map (·.2))->qJ Q (.build t ps)
 | buildSlice {t:q7x} {n:Nat} {ps:Array (Nat × qa4)}:xN Q t=true->je Q (ps.toList.map (·.2))->qJ Q (.buildSlice t n ps)
 | load {t:q7x} {x:qa4}:qF Q x->qJ Q (.load t x)
 | store {t:q7x} {a x:qa4}:qF Q a->qF Q x->qJ Q (.store t a x)
 | nilCheck {x:qa4}:qF Q x->qJ Q (.nilCheck x)
 | arith {op:BinOp} {t u:q7x} {x y:qa4}:YZ op=false->q0r Q t=true->qF Q x->qF Q y->qJ Q (.binOp op t x y u)
 | eql {op:BinOp} {t u:q7x} {x y:qa4}:YZ op=true->eqOk Q t x y=true->qF Q x->qF Q y->qJ Q (.binOp op t x y u)
 | unOp {op:UnOp} {t:q7x} {x:qa4}:qF Q x->qJ Q (.unOp op t x)
 | convert {s d:q7x} {x:qa4}:q5u Q s d=true->qF Q x->qJ Q (.convert s d x)
 | makeInterface {t:q7x} {x:qa4}:qF Q x->qJ Q (.makeInterface t x)
 | makeFunc {f:qam} {a b:Array qa4}:JunkSet.okf f->je Q a.toList->je Q b.toList->qJ Q (.makeFunc (.func f) a b)
 | makeMap {t:q7x} {r:Option qa4}:je Q r.toList->qJ Q (.makeMap t r)
 | makeSlice {t:q7x} {l c:qa4}:xN Q t=true->qF Q l->qF Q c->qJ Q (.makeSlice t l c)
 | slice {t:q7x} {x:qa4} {l h m:Option qa4}:qF Q x->je Q l.toList->je Q h.toList->je Q m.toList->qJ Q (.slice t x l h m)
 | fieldAddr {t:q7x} {x:qa4} {f:Nat}:q0G Q t f=true->qF Q x->qJ Q (.fieldAddr t x f)
 | field {t:q7x} {x:qa4} {f:Nat}:qF Q x->qJ Q (.field t x f)
 | indexAddr {t:q7x} {x i:qa4}:qF Q x->qF Q i->qJ Q (.indexAddr t x i)
 | index {t:q7x} {x i:qa4}:qF Q x->qF Q i->qJ Q (.index t x i)
 | lookup {t:q7x} {x i:qa4} {c:Bool}:Ya Q t=true->qF Q x->qF Q i->qJ Q (.lookup t x i c)
 | mapUpdate {t:q7x} {m k x:qa4}:Ya Q t=true->qF Q m->qF Q k->qF Q x->qJ Q (.mapUpdate t m k x)
 | insert {t:q7x} {m k x:qa4}:Ya Q t=true->qF Q m->qF Q k->qF Q x->qJ Q (.insert t m k x)
 | typeAssert {x:qa4} {t a:q7x} {c:Bool}:kA Q a=true->qF Q x->qJ Q (.typeAssert x t a c)
 | extract {x:qa4} {i:Nat}:qF Q x->qJ Q (.extract x i)
 | call {c:Call}:yJ Q c->qJ Q (.call c)
 | defer {c:Call}:yJ Q c->qJ Q (.defer c)
 | panic {x:qa4}:qF Q x->qJ Q (.panic x)
section
variable[JunkSet]{Q P:q7m}(H:Pair Q P){ρ:Ren}{e e':qa4->q4k}
theorem vM(he:∀x,qF Q x->VR ρ (e x) (e' x)){a:Array qa4}(ha:je Q a.toList):AsR ρ (a.map e) (a.map e'):=by
 refine⟨by simp,λi x y hx hy=>?_⟩;rw[Array.getElem?_map] at hx hy;cases h:a[i]? with
 | none=>rw[h] at hx;cases hx
 | some o =>
  rw[h] at hx hy;cases hx;cases hy;exact he o (ha o (by rw[qbw];exact qaF h))
theorem KC(he:∀x,qF Q x->VR ρ (e x) (e' x)){ps:Array (Nat × qa4)}(ha:je Q (ps.toList.map (·.2))) :
  LsR (q07 ρ) (ps.map λ(x:Nat × qa4)=>(x.1,e x.2)).toList (ps.map λ(x:Nat × qa4)=>(x.1,e' x.2)).toList:=by
 simp only[Array.toList_map];generalize ps.toList=l at ha;induction l with
 | nil=>exact .nil
 | cons p l ih=>exact .cons ⟨rfl,he _ (ha _ (List.mem_cons_self ..))⟩ (ih λx hx=>ha x (List.mem_cons_of_mem _ hx))
theorem Js(he:∀x,qF Q x->VR ρ (e x) (e' x)){o:Option qa4}(ho:je Q o.toList):QQ ρ (o.map e) (o.map e'):=by
 cases o with
 | none=>exact .inl ⟨rfl,rfl⟩
 | some x=>exact .inr ⟨_,_,rfl,rfl,he x (ho x (by simp))⟩
theorem ZD(hc:∀v,e (.const v)=v){x:qa4}(h:kc x=true):e x=.nilIface:=by
 unfold kc at h;split at h
 ·exact hc _
 ·cases h
include H
theorem vF(he:∀x,qF Q x->VR ρ (e x) (e' x)){c:Call}(hc:yJ Q c)(t:q7x):SR Q P yF (resolve e c t) ρ (resolve e' c t):=by
 cases hc with
 | value hf ha=>exact QA H (he _ hf) (vM he ha)
 | invoke hr hn ha=>exact qd (.mk (.meth _ hn) ((AsR.one (he _ hr)).append (vM he ha)))
 | builtin hb ha=>exact qd (.mk (.builtin _ _ _ _ hb) (vM he ha))
def isMap:Op->Bool
 | .mapUpdate .. | .insert ..=>true
 | _=>false
theorem Kt(he:∀x,qF Q x->VR ρ (e x) (e' x))(hG:Gl P ρ)(hn:Inj ρ)(hc:∀v,e (.const v)=v){o:qaG}(ho:qJ Q o.op)(hmu:isMap o.op=false):SR Q P zH (execOp e o) ρ (execOp e' o):=by
 have T:=H.tables;obtain⟨dst,op,ty,pos,after,guard⟩:=o;dsimp only at ho hmu;cases ho with
 | move h=>exact qd (.value (he _ h))
 | assign h=>exact qd (.value (he _ h))
 | pick h1 h2 h3 =>
  refine .bndE (q66 (he _ h1)) λσ b l=>?_;refine qd (.value ?_);cases b with
  | true=>exact(he _ h2).mono l
  | false=>exact(he _ h3).mono l
 | alloc h=>exact jH H (q8j T h)
 | box h=>exact jH H (sr_box _ (he _ h))
 | build h1 h2=>exact jH H (q8g T h1 (KC he h2))
 | buildSlice h1 h2=>exact jH H (YT T h1 _ (KC he h2))
 | load h=>exact jH H (q65 T _ (he _ h))
 | store h1 h2=>exact sr_u H (q3v T _ (he _ h1) (he _ h2))
 | @nilCheck x h =>
  have hv:=he _ h;unfold execOp;dsimp only;generalize e x=v at hv ⊢;generalize e' x=v' at hv ⊢;have Z:SR Q P zH (pure (.value v)) ρ (pure (.value v')):=qd (.value hv);cases hv with
  | ptrNil=>exact qx T hG .nilDeref
  | nilIface=>exact qx T hG .nilDeref
  | nilFunc=>exact qx T hG .nilDeref
  | func hf h1 h2 h3 h4 =>
   cases hf with
   | func f hok=>exact Z
   | yield hb=>exact Z
  | wild _ h=>cases v'<;>first | exact Z | (cases h;done) | (rename_i p;cases p<;>first | exact Z | (cases h;done)) | (rename_i p _ _;cases p<;>first | exact Z | (cases h;done))
  | meth n a c=>exact .bad (q7g H)
  | _=>exact Z
 | arith h1 h2 h3 h4 =>
  refine jH H (.bnd (JP T (λh=>by rw[h1] at h;cases h) (he _ h3) (he _ h4) ?_ ?_ ?_) λσ _ _ l _=>q8i T h1 h2 ((he _ h3).mono l) ((he _ h4).mono l) (hG.mono l))
  ·exact λhx=>ZD hc hx
  ·exact λhx=>ZD hc hx
  ·exact λh=>by rw[h1] at h;cases h
 | @eql op t u x y h1 h2 h3 h4 =>
  have a7:∀a b,Q.underlying t≠some (.chan a b):=by
   unfold eqOk at h2;simp only[qbC,q85] at h2;rcases h2 with h2 | ⟨_,h5⟩
   ·exact jP h2
   ·intro a b e
    rw[e] at h5;cases h5
  by_cases hw:e x=.chan none\/e y=.chan none
  ·exact .bad (Bad.bind (bad_eqT T h1 a7 hw) _)
  have a6:∀w,(w=e x\/w=e y)->w≠.chan none:=λw h e'=>hw (by rcases h with rfl | rfl;exact .inl e';exact .inr e');refine jH H (.bnd (JP T (λ_=>h2) (he _ h3) (he _ h4) (λhx=>ZD hc hx) (λhx=>ZD hc hx) (λ_=>a6)) λσ _ _ l _=>?_);unfold eqOk at h2;simp only[qbC,q85] at h2;rcases h2 with h2 | ⟨h2,h5⟩
  ·exact sr_eql T h1 h2 ((he _ h3).mono l) ((he _ h4).mono l) (hG.mono l)
  ·refine q8e T h1 ?_ ((he _ h3).mono l) ((he _ h4).mono l) (h2.imp (ZD hc) (ZD hc))
   split at h5
   ·exact⟨_,‹_›⟩
   ·cases h5
 | unOp h=>exact jH H (q87 T (he _ h))
 | convert h1 h2=>exact jH H (q3D T h1 (he _ h2))
 | makeInterface h=>exact jH H (Zv T _ (he _ h))
 | makeFunc h1 h2 h3=>exact qd (.value (.func (.func _ h1) (vM he h2).1 (vM he h2).2 (vM he h3).1 (vM he h3).2))
 | makeMap h=>exact jH H (q3z T _ (Js he h))
 | makeSlice h1 h2 h3=>exact jH H (q0l T hG h1 (he _ h2) (he _ h3))
 | slice h1 h2 h3 h4=>exact jH H (q3w T hG _ (he _ h1) (Js he h2) (Js he h3) (Js he h4))
 | fieldAddr h1 h2=>exact jH H (q3B T h1 (he _ h2))
 | field h=>exact jH H (q8d T _ (he _ h) _)
 | indexAddr h1 h2=>exact jH H (q3A T hG _ (he _ h1) (he _ h2))
 | index h1 h2=>exact jH H (q8c T hG _ (he _ h1) (he _ h2))
 | lookup h1 h2 h3=>exact jH H (q64 T hG h1 _ (he _ h2) (he _ h3))
 | mapUpdate h1 h2 h3 h4=>cases hmu
 | insert h1 h2 h3 h4=>cases hmu
 | typeAssert h1 h2=>exact jH H (YP T hG h1 _ (he _ h2))
 | extract h=>exact jH H (q3C (he _ h) _)
 | call h=>exact .bnd (vF H he h _) λσ d d' l hd=>kZ H (hG.mono l) hd
 | defer h=>exact .bnd (vF H he h _) λσ d d' l hd=>qd (.defer hd)
 | panic h=>exact jH H (JJ H hG (he _ h))
end
end Go.Sim
end
section
namespace Go.Sim
inductive qz [JunkSet] (Q:q7m):qbs->Prop
 | skip:qz Q .skip
 | region {id:Nat} {ops:Array qaG} {d:Bool}:(∀o∈ops.toList,qJ Q o.op)->qz Q (.region id ops d)
 | seq {a b:qbs}:qz Q a->qz Q b->qz Q (.seq a b)
 | cond {c:qa4} {a b:qbs}:qF Q c->qz Q a->qz Q b->qz Q (.cond c a b)
 | block {id:Nat} {c:qbs}:qz Q c->qz Q (.block id c)
 | loop {c:qbs}:qz Q c->qz Q (.loop c)
 | rangeFunc {f:qa4} {ps:Array Tmp} {a c:qbs}:qF Q f->qz Q a->qz Q c->qz Q (.rangeFunc f ps a c)
 | exit (id:Nat):qz Q (.exit id)
 | scope {c:qbs}:qz Q c->qz Q (.scope c)
 | label (l:Nat):qz Q (.label l)
 | goto (l:Nat):qz Q (.goto l)
 | ret:qz Q .ret
inductive zh [JunkSet] (Q:q7m) (ρ:Ren):qcG->qcG->Prop
 | code {c:qbs}:qz Q c->zh Q ρ (.code c) (.code c)
 | inBlock (id:Nat):zh Q ρ (.inBlock id) (.inBlock id)
 | inLoop {c:qbs}:qz Q c->zh Q ρ (.inLoop c) (.inLoop c)
 | inScope {c:qbs}:qz Q c->zh Q ρ (.inScope c) (.inScope c)
 | inRegion {ops:Array qaG} (l:List Nat):(∀o∈ops.toList,qJ Q o.op)->zh Q ρ (.inRegion ops l) (.inRegion ops l)
 | inRangeFunc {l l':Nat}:BR ρ l l'->zh Q ρ (.inRangeFunc l) (.inRangeFunc l')
 | endRangeFunc {l l':Nat}:BR ρ l l'->zh Q ρ (.endRangeFunc l) (.endRangeFunc l')
 | beginRound:zh Q ρ .beginRound .beginRound
structure Zl[JunkSet](ρ:Ren)(a b:PanicEntry):Prop where
 v:VR ρ a.v b.v
 rcv:b.recovered=a.recovered
 goexit:b.goexit=a.goexit
inductive ku [JunkSet] (ρ:Ren):FrameMode->FrameMode->Prop
 | run:ku ρ .run .run
 | returning:ku ρ .returning .returning
 | panicking {l l':List PanicEntry}:LsR (Zl ρ) l l'->ku ρ (.panicking l) (.panicking l')
def OBR(ρ:Ren)(a b:Option Nat):Prop:=(a=none/\b=none)\/∃i j,a=some i/\b=some j/\BR ρ i j
structure qu[JunkSet](Q P:q7m)(ρ:Ren)(f f':q7n):Prop where
 fn:f'.fn=f.fn
 same:∃g,Q.funcs[f.fn]?=some g/\P.funcs[f.fn]?=some g
 okf:Q.inits.idxOf? f.fn=none
 tmps:AsR ρ f.tmps f'.tmps
 todo:LsR (zh Q ρ) f.todo f'.todo
 defers:LsR (yF ρ) f.defers f'.defers
 mode:ku ρ f.mode f'.mode
 kind:f'.kind=f.kind
 round:OBR ρ f.roundOf f'.roundOf
section
variable[JunkSet]{Q P:q7m}{ρ σ:Ren}
theorem zh.mono(l:Le ρ σ){a b:qcG}(h:zh Q ρ a b):zh Q σ a b:=by
 cases h with
 | code h=>exact .code h
 | inBlock id=>exact .inBlock id
 | inLoop h=>exact .inLoop h
 | inScope h=>exact .inScope h
 | inRegion l h=>exact .inRegion l h
 | inRangeFunc h=>exact .inRangeFunc (h.mono l)
 | endRangeFunc h=>exact .endRangeFunc (h.mono l)
 | beginRound=>exact .beginRound
theorem Zl.mono(l:Le ρ σ){a b:PanicEntry}(h:Zl ρ a b):Zl σ a b:=⟨h.v.mono l,h.rcv,h.goexit⟩
theorem ku.mono(l:Le ρ σ){a b:FrameMode}(h:ku ρ a b):ku σ a b:=by
 cases h with
 | run=>exact .run
 | returning=>exact .returning
 | panicking h=>exact .panicking (h.imp λ_ _ k=>k.mono l)
theorem OBR.mono(l:Le ρ σ){a b:Option Nat}(h:OBR ρ a b):OBR σ a b:=h.imp id λ⟨i,j,e1,e2,hb⟩=>⟨i,j,e1,e2,hb.mono l⟩
theorem qu.mono(l:Le ρ σ){f f':q7n}(h:qu Q P ρ f f'):qu Q P σ f f' :=
 ⟨h.fn,h.same,h.okf,h.tmps.mono l,h.todo.imp λ_ _ k=>k.mono l,h.defers.imp λ_ _ k=>k.mono l,h.mode.mono l,h.kind,h.round.mono l⟩
structure kw[JunkSet](Q P:q7m)(ρ:Ren)(g g':q4y):Prop where
 frame:qu Q P ρ g.frame g'.frame
 callers:LsR (qu Q P ρ) g.callers g'.callers
 st:g.status=.running
 st':g'.status=.running
 dy:g.dying=none
 dy':g'.dying=none
theorem yV(ρ:Ren):VR ρ q4D undef:=AsR.tuple .nil
theorem qu.eval(hG:Gl P ρ)(hg:P.globals.size=Q.globals.size){f f':q7n}(h:qu Q P ρ f f'){x:qa4}(hx:qF Q x):VR ρ (f.eval x) (f'.eval x):=by
 cases hx with
 | tmp t=>exact h.tmps.getD t (yV ρ)
 | const hv=>exact hv.vr ρ
 | @global g hl=>exact .ptr 0 none (hG g (by omega))
 | func hf=>exact .func (.func _ hf) rfl (λi x y hx=>by simp at hx) rfl (λi x y hx=>by simp at hx)
theorem qu.finish{f f':q7n}(h:qu Q P ρ f f'){v v':q4k}(hv:VR ρ v v'):qu Q P ρ (f.finish v) (f'.finish v'):=by
 obtain⟨fn,tmps,todo,defers,mode,kind,ro⟩:=f;obtain⟨b6,a7,a6,Z,a8,a9,b0⟩:=f';have ht:=h.todo;dsimp only at ht;unfold Frame.finish;dsimp only;cases ht with
 | nil=>exact h
 | cons hx hl =>
  cases hx with
  | @inRegion ops l hops =>
   cases l with
   | nil=>exact h
   | cons i l =>
    dsimp only;refine⟨h.fn,h.same,h.okf,?_,.cons (.inRegion l hops) hl,h.defers,h.mode,h.kind,h.round⟩;dsimp only;split
    ·exact h.tmps.set _ hv
    ·exact h.tmps
  | inRangeFunc hb=>exact⟨h.fn,h.same,h.okf,h.tmps,.cons (.endRangeFunc hb) hl,h.defers,h.mode,h.kind,h.round⟩
  | beginRound=>exact⟨h.fn,h.same,h.okf,h.tmps,hl,h.defers,h.mode,h.kind,h.round⟩
  | _=>exact h
theorem qu.raise{f f':q7n}(h:qu Q P ρ f f'){l l':List PanicEntry}(hl:LsR (Zl ρ) l l'):qu Q P ρ (f.raise l) (f'.raise l'):=by
 obtain⟨fn,tmps,todo,defers,mode,kind,ro⟩:=f;obtain⟨b6,a7,a6,Z,a8,a9,b0⟩:=f';have hm:=h.mode;dsimp only at hm;unfold Frame.raise;cases hm with
 | run=>exact⟨h.fn,h.same,h.okf,h.tmps,h.todo,h.defers,.panicking hl,h.kind,h.round⟩
 | returning=>exact⟨h.fn,h.same,h.okf,h.tmps,h.todo,h.defers,.panicking hl,h.kind,h.round⟩
 | panicking hc=>exact⟨h.fn,h.same,h.okf,h.tmps,h.todo,h.defers,.panicking (hl.append hc),h.kind,h.round⟩
theorem q4o{id:Nat}:∀{l l':List qcG},LsR (zh Q ρ) l l'->(exitTo id l=none/\exitTo id l'=none)\/∃k k',exitTo id l=some k/\exitTo id l'=some k'/\LsR (zh Q ρ) k k':=by
 intro l l' h;induction h with
 | nil=>exact .inl ⟨rfl,rfl⟩
 | cons hx hl ih =>
  cases hx with
  | inBlock j =>
   simp only[exitTo];split
   ·exact .inr ⟨_,_,rfl,rfl,hl⟩
   ·exact ih
  | _=>exact ih
theorem q0F{l:Nat}:∀{c r:qbs},qz Q c->findLabel c l=some r->qz Q r:=by
 intro c;induction c with
 | seq a b iha ihb =>
  intro r h hr;cases h with
  | seq ha hb =>
   simp only[findLabel] at hr;split at hr
   ·rename_i rest e
    cases hr;exact .seq (iha ha e) hb
   ·exact ihb hb hr
 | label j =>
  intro r h hr;simp only[findLabel] at hr;split at hr
  ·cases hr;exact .skip
  ·cases hr
 | _=>intro r h hr;cases hr
theorem q4j{j:Nat}:∀{l l':List qcG},LsR (zh Q ρ) l l'->(gotoIn j l=none/\gotoIn j l'=none)\/∃k k',gotoIn j l=some k/\gotoIn j l'=some k'/\LsR (zh Q ρ) k k':=by
 intro l l' h;induction h with
 | nil=>exact .inl ⟨rfl,rfl⟩
 | cons hx hl ih =>
  cases hx with
  | @inScope c hc =>
   simp only[gotoIn];cases hf:findLabel c j with
   | none=>exact ih
   | some r=>exact .inr ⟨_,_,rfl,rfl,.cons (.code (q0F hc hf)) (.cons (.inScope hc) hl)⟩
  | _=>exact ih
theorem q3i(ops:Array qaG){t t':Array q4k}(h:AsR ρ t t')(j:Nat):yielded ops t' j=yielded ops t j:=by
 unfold yielded;cases((ops[j]?).bind (·.dst)) with
 | none=>rfl
 | some d =>
  simp only[Option.bind_some];cases ht:t[d]? with
  | none=>rw[h.get_none ht]
  | some v =>
   obtain⟨v',Z,hr⟩:=h.get ht;rw[Z];cases hr<;>first | rfl | (rename_i h;cases v'<;>first | rfl | cases h)
theorem yY(P:q7m)(fn:qam)(es:Array qaz):∀e∈seen P fn es,e∈es:=by
 have key:∀(l:List qaz) (x:Bool × Array qaz) (all:List qaz),(∀e∈x.2,e∈all)->(∀e∈l,e∈all) ->
   ∀e∈(l.foldl (λ(y:Bool × Array qaz) (e:qaz)=>match e.loc with
    | .mark (.extern f)=>((P.funcs[f]?).any (·.norace),y.2)
    | _=>(y.1,if y.1 && !e.sync then y.2 else y.2.push e)) x).2,e∈all:=by
  intro l;induction l with
  | nil=>intro x all hx _;exact hx
  | cons a l ih =>
   intro x all hx hl;rw[List.foldl_cons];refine ih _ all ?_ λe he=>hl e (List.mem_cons_of_mem _ he);intro e he;split at he
   ·exact hx e he
   ·dsimp only at he
    split at he
    ·exact hx e he
    ·rcases Array.mem_push.1 he with he | rfl
     ·exact hx e he
     ·exact hl _ (List.mem_cons_self ..)
 intro e he;have:=key es.toList ((P.funcs[fn]?).any (·.norace),#[]) es.toList (by simp) (λe he=>he) e;rw[qbw] at this;apply this;unfold seen at he;dsimp only at he;rw[<- qdC] at he;exact he
end
end Go.Sim
end
section
namespace Go.Sim
section
variable[JunkSet]{Q P:q7m}{ρ:Ren}{α β:Type}{R:Rel α β}
def SM(Q P:q7m)[JunkSet]{α β:Type}(R:Rel α β)(s:Sem α)(ρ:Ren)(s':Sem β):Prop :=
 ∀{base D:Nat} {wq w:q2v},base<=ρ.length->WR Q base ρ wq w->zq D wq w->(rwR (s.run Q wq)).drawn<=D->vC (s.run Q wq) ->
  ∃σ wq' w' es',ResR R σ (s.run Q wq) wq' (s'.run P w) w'/\s'.events P w #[]=es'/\(∀e∈es',kz base σ e)/\WR Q base σ wq' w'/\Eff base ρ σ w w'
theorem SR.sm{s:Sem α}{s':Sem β}(h:SR Q P R s ρ s'):SM Q P R s ρ s':=λhb hw ht hd hf=>by
 obtain⟨σ,wq',w',es',h1,h2,h3,h4,_,h5,_⟩:=SR.runs (es:=#[]) h hb hw ht hd hf;exact⟨σ,wq',w',es',h1,by show(s'.runT P _ #[]).2=es';rw[h2];simp,h3,h4,h5⟩
def wk:qbe:=.extern "map.whichKeyStays" 2
def muTail(kt:q7x)(k v:q4k)(r:Nat)(es:Array qct)(clock:Nat)(Z:Nat->Sem q4k):Sem Unit:=do
 qcF false 10000 kt k
 match <- Instr.findKey kt k es.toList with
 | some (i,_)=>do
  let key <- Z i
  setObj r (.map (es.modify i λe=>{ e with key,val:=v }) clock)
 | none=>setObj r (.map (es.push { key:=k,val:=v,born:=clock }) (clock+1))
def z6(es:Array qct)(i:Nat)(k:q4k):q4k:=((es[i]?).map (·.key)).getD k
def kg(kt:q7x)(k:q4k)(es:Array qct):Sem (Option (Nat × q4k)):=do
 qcF false 10000 kt k
 Instr.findKey kt k es.toList
def jq(k v:q4k)(r:Nat)(es:Array qct)(clock:Nat)(Z:Nat->Sem q4k):Option (Nat × q4k)->Sem Unit
 | some (i,_)=>do
  let key <- Z i
  setObj r (.map (es.modify i λe=>{ e with key,val:=v }) clock)
 | none=>setObj r (.map (es.push { key:=k,val:=v,born:=clock }) (clock+1))
theorem yu{t:q7x}{k v:q4k}{w:q2v}{kt et:q7x}(ht:P.underlying t=some (.map kt et)){r:Nat}{es:Array qct}{clock:Nat}(hr:w.heap[r]?=some (.map es clock)) :
  (qb4 t (.map (some r)) k v).run P w=(kg kt k es>>=jq k v r es clock (λi=>qat (z6 es i k) k)).run P w /\
  (qb4 t (.map (some r)) k v).events P w #[]=(kg kt k es>>=jq k v r es clock (λi=>qat (z6 es i k) k)).events P w #[⟨.obj r,false,false⟩]:=by
 have e:qb4 t (.map (some r)) k v=(qco t).bind λd=>(match d with
   | .map kt _=>(getObj r).bind λo=>(match o with
    | .map es clock=>(kg kt k es>>=jq k v r es clock (λi=>qat (z6 es i k) k))
    | _=>stuck "MapUpdate: map expected")
   | _=>stuck "MapUpdate: map type expected"):=by
  unfold qb4;show(qco t).bind _=_
  congr 1
  funext d
  cases d<;>try rfl
  show(getObj r).bind _=(getObj r).bind _
  congr 1
  funext o
  cases o<;>try rfl
  exact(Sem.bind_assoc' _ _ _).symm
 have hu:∀es,(qco t).runT P w es=(.ok (.map kt et) w,es):=λes=>by
  show(match P.underlying t with | some i=>(pure i:Sem TypeDesc) | none=>stuck "no such type").runT P w es=_;rw[ht];rfl
 have ho:∀es',(getObj r).runT P w es'=(.ok (.map es clock) w,es'.push ⟨.obj r,false,false⟩):=λes'=>by
  simp only[getObj,qdf,hr];rfl
 have key:∀es',(qb4 t (.map (some r)) k v).runT P w es'=(kg kt k es>>=jq k v r es clock (λi=>qat (z6 es i k) k)).runT P w (es'.push ⟨.obj r,false,false⟩):=λes'=>by
  rw[e,Sem.runT_bind',hu];dsimp only;rw[Sem.runT_bind',ho]
 refine⟨?_,?_⟩
 ·rw[<- Sem.runT_fst P _ w #[],key,Sem.runT_fst]
 ·show((qb4 t (.map (some r)) k v).runT P w #[]).2=_
  rw[key];rfl
omit [JunkSet] in
theorem ba_eq(a b:ByteArray)(h:(a == b)=true):a=b:=by
 obtain⟨a⟩:=a;obtain⟨b⟩:=b;have h2:(a == b)=true:=h;rw[eq_of_beq h2]
omit [JunkSet] in
theorem q5x:∀(n:Nat) {x y:q4k},qbE n x y=true->x=y:=by
 intro n;induction n with
 | zero =>
  intro x y h;cases x<;>cases y<;>first | (cases h;done) | rfl | (rw[ba_eq _ _ h];done) | (simp only[qbE,q85,beq_iff_eq] at h;simp[h];done) | (simp only[qbE,q85,beq_iff_eq] at h;obtain⟨h1,h2⟩:=h;subst h1 h2;rfl)
 | succ n ih =>
  intro x y h;cases x<;>cases y<;>first | (cases h;done) | rfl | (rw[ba_eq _ _ h];done) | skip
  all_goals simp only[qbE,q85,beq_iff_eq] at h
  case agg.agg a b =>
   obtain⟨h1,h2⟩:=h
   congr 1
   refine Array.ext h1 λi a6 Z=>?_;rw[qaf] at h2;have:(a[i],b[i])∈a.toList.zip b.toList:=by
    rw[List.mem_iff_getElem];refine⟨i,by simp;omega,by simp⟩
   exact ih (h2 _ this)
  case iface.iface t v u w =>
   rw[h.1,ih h.2]
  all_goals first | (simp[h];done) | (obtain⟨h1,h2⟩:=h;subst h1 h2;rfl) | (obtain⟨⟨h1,h2⟩,h3⟩:=h;subst h1 h2 h3;rfl)
def yZ(s:Bool)(n0:Nat)(old new:q4k):Sem q4k :=
 if s then pure (if qbE 10000 old new then new else if n0=0 then new else old)
 else choose wk>>=λn=>pure (if qbE 10000 old new then new else if n=0 then new else old)
theorem sr_plan{x x' y y':q4k}(hx:VR ρ x x')(hy:VR ρ y y')(n0:Nat):SR Q P VR (qat x y) ρ (yZ (qbE 10000 x y) n0 x' y'):=by
 unfold qat yZ;by_cases hs:qbE 10000 x y=true
 ·rw[if_pos hs,if_pos hs]
  refine qd ?_;split
  ·exact hy
  ·split
   ·exact hy
   ·rw[<- q5x _ hs];exact hx
 ·rw[if_neg hs,if_neg hs]
  refine .bndE vd λσ n l=>?_;refine qd ?_;by_cases Z:qbE 10000 x' y'=true
  ·rw[if_pos Z]
   split
   ·exact hy.mono l
   ·rw[<- q5x _ Z];exact hx.mono l
  ·rw[if_neg Z]
   split
   ·exact hy.mono l
   ·exact hx.mono l
def But(d:Nat):qd7 α->qd7 α
 | .ok a u=>.ok a { u with drawn:=d }
 | .halt h u=>.halt h { u with drawn:=d }
omit [JunkSet] in
theorem YA(r:qd7 α):But (rwR r).drawn r=r:=by cases r<;>rfl
omit [JunkSet] in
theorem JU(r:Nat)(o:Obj)(u:q2v)(d:Nat):(setObj r o).run P { u with drawn:=d }=But d ((setObj r o).run P u)/\∀es,(setObj r o).events P { u with drawn:=d } es=(setObj r o).events P u es:=by
 have e:setObj r o=Sem.setObj r o (.pure ()):=rfl;rw[e];refine⟨?_,λes=>?_⟩
 ·simp only[qar]
  show(match u.heap[r]? with | some (.cells ..)=>_ | some _=>_ | none=>_)=But d (match u.heap[r]? with | some (.cells ..)=>_ | some _=>_ | none=>_);cases u.heap[r]? with
  | none=>rfl
  | some x=>cases x<;>rfl
 ·unfold Sem.events
  simp only[qdf];cases hh:u.heap[r]? with
  | none=>rfl
  | some x=>cases x<;>rfl
omit [JunkSet] in
theorem q8x{k v:q4k}{r:Nat}{es:Array qct}{clock:Nat}{s:Nat->Bool}{u:q2v}(x:Option (Nat × q4k)) :
  ∃d,(jq k v r es clock (λi=>qat (z6 es i k) k) x).run P u=But d ((jq k v r es clock (λi=>yZ (s i) (wk.cut (u.tape u.drawn wk)) (z6 es i k) k) x).run P u) /\
   ∀es',(jq k v r es clock (λi=>qat (z6 es i k) k) x).events P u es'=(jq k v r es clock (λi=>yZ (s i) (wk.cut (u.tape u.drawn wk)) (z6 es i k) k) x).events P u es':=by
 cases x with
 | none=>exact⟨_,(YA _).symm,λ_=>rfl⟩
 | some x =>
  obtain⟨i,y⟩:=x;simp only[jq,qb1,qdk];have Z:(choose wk).run P u=.ok (wk.cut (u.tape u.drawn wk)) { u with drawn:=u.drawn+1 }:=rfl;have a6:∀es',(choose wk).events P u es'=es':=λes'=>rfl;by_cases hb:qbE 10000 (z6 es i k) k=true
  ·have h1:(qat (z6 es i k) k).run P u=.ok k u:=by unfold qat;rw[if_pos hb];rfl
   have h2:∀es',(qat (z6 es i k) k).events P u es'=es':=λes'=>by unfold qat;rw[if_pos hb];rfl
   rw[h1];simp only[h2];cases hs:s i with
   | true =>
    have h3:(yZ true (wk.cut (u.tape u.drawn wk)) (z6 es i k) k).run P u=.ok k u:=by unfold yZ;rw[if_pos rfl,if_pos hb];rfl
    have h4:∀es',(yZ true (wk.cut (u.tape u.drawn wk)) (z6 es i k) k).events P u es'=es':=λes'=>by unfold yZ;rw[if_pos rfl];rfl
    rw[h3];refine⟨_,(YA _).symm,λes'=>?_⟩;rw[h4]
   | false =>
    have h3:(yZ false (wk.cut (u.tape u.drawn wk)) (z6 es i k) k).run P u=.ok k { u with drawn:=u.drawn+1 }:=by
     unfold yZ;rw[if_neg (by simp),qb1,Z];simp only[qb2,if_pos hb];rfl
    have h4:∀es',(yZ false (wk.cut (u.tape u.drawn wk)) (z6 es i k) k).events P u es'=es':=λes'=>by
     unfold yZ;rw[if_neg (by simp),qdk,Z,a6];rfl
    rw[h3];simp only[h4,qb2,Result.evThen_ok];have:=JU (P:=P) r (.map (es.modify i λe=>{ e with key:=k,val:=v }) clock) { u with drawn:=u.drawn+1 } u.drawn;exact⟨u.drawn,this.1,λes'=>this.2 es'⟩
  ·have h1:(qat (z6 es i k) k).run P u=.ok (if wk.cut (u.tape u.drawn wk)=0 then k else z6 es i k) { u with drawn:=u.drawn+1 }:=by
    unfold qat;rw[if_neg hb,qb1];show((choose wk).run P u).andThen _=_;rw[Z];rfl
   have h2:∀es',(qat (z6 es i k) k).events P u es'=es':=λes'=>by
    unfold qat;rw[if_neg hb,qdk];show((choose wk).run P u).evThen _ _=_;rw[Z,show(choose (.extern "map.whichKeyStays" 2)).events P u es'=es' from rfl];rfl
   rw[h1];simp only[h2];cases hs:s i with
   | true =>
    have h3:(yZ true (wk.cut (u.tape u.drawn wk)) (z6 es i k) k).run P u=.ok (if wk.cut (u.tape u.drawn wk)=0 then k else z6 es i k) u:=by unfold yZ;rw[if_pos rfl,if_neg hb];rfl
    have h4:∀es',(yZ true (wk.cut (u.tape u.drawn wk)) (z6 es i k) k).events P u es'=es':=λes'=>by unfold yZ;rw[if_pos rfl];rfl
    rw[h3];simp only[h4,qb2,Result.evThen_ok];have:=JU (P:=P) r (.map (es.modify i λe=>{ e with key:=if wk.cut (u.tape u.drawn wk)=0 then k else z6 es i k,val:=v }) clock) u (u.drawn+1);exact⟨u.drawn+1,this.1,λes'=>this.2 es'⟩
   | false =>
    have h3:(yZ false (wk.cut (u.tape u.drawn wk)) (z6 es i k) k).run P u=.ok (if wk.cut (u.tape u.drawn wk)=0 then k else z6 es i k) { u with drawn:=u.drawn+1 }:=by
     unfold yZ;rw[if_neg (by simp),qb1,Z];simp only[qb2,if_neg hb];rfl
    have h4:∀es',(yZ false (wk.cut (u.tape u.drawn wk)) (z6 es i k) k).events P u es'=es':=λes'=>by
     unfold yZ;rw[if_neg (by simp),qdk,Z,a6];rfl
    rw[h3];refine⟨_,(YA _).symm,λes'=>?_⟩;rw[h4]
theorem Ks(hT:P.toTables=Q.toTables)(hG:Gl P ρ){kt:q7x}(hB:eqB Q 6 kt=true){k k' v v':q4k}(hk:VR ρ k k')(hv:VR ρ v v'){r j:Nat}(hb:BR ρ r j){es es':Array qct}(he:LsR (yP ρ) es.toList es'.toList)(clock n0:Nat) :
  SR Q P (λ_ _ _=>True) (kg kt k es>>=jq k v r es clock (λi=>qat (z6 es i k) k)) ρ (kg kt k' es'>>=jq k' v' j es' clock (λi=>yZ (qbE 10000 (z6 es i k) k) n0 (z6 es' i k') k')):=by
 have a6:SR Q P q1f (kg kt k es) ρ (kg kt k' es') :=
  .bnd (ZS hT _ 6 _ hB hk) λυ _ _ l1 _=>JO hT hB (hk.mono l1) (hG.mono l1) (he.imp λ_ _ x=>x.mono l1)
 refine .bnd a6 λω x x' l2 hr=>?_;have Z:=he.imp λ_ _ x=>yP.mono l2 x;rcases hr with⟨rfl,rfl⟩ | ⟨i,y,y',rfl,rfl,hv2⟩
 ·refine jy (hb.mono l2) (.map _ ?_)
  simp only[Array.toList_push];exact Z.append (.cons ⟨hk.mono l2,hv.mono l2,rfl⟩ .nil)
 ·have a7:VR ω (z6 es i k) (z6 es' i k'):=by
   have:=Z.get i;simp only[Array.getElem?_toList] at this;unfold z6;rcases this with⟨e1,e2⟩ | ⟨a,b,e1,e2,hab⟩
   ·rw[e1,e2];exact hk.mono l2
   ·rw[e1,e2];exact hab.key
  refine .bnd (sr_plan a7 (hk.mono l2) n0) λψ key b0 l3 a8=>?_;exact jy (hb.mono (l2.trans l3)) (.map _ (q30 (Z.imp λ_ _ x=>x.mono l3) i λe e' a9=>⟨a8,hv.mono (l2.trans l3),a9.born⟩))
theorem q2g(hT:P.toTables=Q.toTables)(hG:Gl P ρ){t:q7x}{base:Nat}{wq w:q2v}(hw:WR Q base ρ wq w){m m' k k' v v':q4k}(hm:VR ρ m m')(hf:vC ((qb4 t m k v).run Q wq)) :
  SR Q P (λ_ _ _=>True) (qb4 t m k v) ρ (qb4 t m' k' v') \/
   ∃r j kt et es es' clock,m=.map (some r)/\m'=.map (some j)/\BR ρ r j/\Q.underlying t=some (.map kt et)/\wq.heap[r]?=some (.map es clock)/\w.heap[j]?=some (.map es' clock)/\LsR (yP ρ) es.toList es'.toList:=by
 by_cases Z:∃r j,m=.map (some r)/\m'=.map (some j)/\BR ρ r j
 ·obtain⟨r,j,rfl,rfl,hb⟩:=Z
  by_cases hu:∃kt et,Q.underlying t=some (.map kt et)
  ·obtain⟨kt,et,hu⟩:=hu
   right;have hlt:r<wq.heap.size:=by rw[<- hw.len];exact(q7G.1 hb).1
   have hbad:∀o,wq.heap[r]?=some o->(∀es c,o≠.map es c)->False:=λo ho hn=>by
    have h1:(qco t).run Q wq=.ok (.map kt et) wq:=by
     show(match Q.underlying t with | some i=>(pure i:Sem TypeDesc) | none=>stuck "no such type").run Q wq=_;rw[hu];rfl
    unfold qb4 at hf;rw[qb1,h1] at hf;simp only[qb2,qb1] at hf;have h2:(getObj r).run Q wq=.ok o wq\/∃s,(getObj r).run Q wq=.halt (.stuck s) wq:=by
     simp only[getObj,qar,ho];cases o<;>first | exact .inl rfl | exact .inr ⟨_,rfl⟩
    rcases h2 with h2 | ⟨s,h2⟩
    ·rw[h2] at hf
     simp only[qb2] at hf;cases o<;>first | exact hn _ _ rfl | exact absurd hf (by intro h;cases h)
    ·rw[h2] at hf
     exact absurd hf (by intro h;cases h)
   cases ho:wq.heap[r]? with
   | none=>rw[Array.getElem?_eq_none_iff] at ho;omega
   | some o =>
    by_cases hn:∃es c,o=.map es c
    ·obtain⟨es,c,rfl⟩:=hn
     rcases hw.obj r j _ hb ho with⟨_,h2,_⟩ | ⟨_,o',h2,h3⟩
     ·cases h2
     ·cases h3 with
      | @map _ es' _ he=>exact⟨r,j,kt,et,es,es',c,rfl,rfl,hb,hu,ho,h2,he⟩
    ·exact(hbad o ho λes c e=>hn ⟨es,c,e⟩).elim
  ·left
   refine .bnd (qK hT t) λσ d d' l hd=>?_;obtain⟨rfl,hd⟩:=hd;cases d' with
   | map kt et=>exact absurd ⟨kt,et,hd⟩ hu
   | _=>exact qf
 ·left
  refine .bnd (qK hT t) λσ d d' l hd=>?_;obtain⟨rfl,hd⟩:=hd;cases d' with
  | map kt et =>
   cases hm with
   | mapNil=>exact qx hT (hG.mono l) _
   | map hb=>exact absurd ⟨_,_,rfl,rfl,hb⟩ Z
   | _=>exact qf
  | _=>exact qf
theorem q2i{t kt et:q7x}(hB:Ya Q t=true)(hu:Q.underlying t=some (.map kt et)):eqB Q 6 kt=true:=by
 unfold Ya at hB;rw[hu] at hB;simp only[q85] at hB;exact hB.1
theorem QZ(hT:P.toTables=Q.toTables)(hG:Gl P ρ){t:q7x}(hB:Ya Q t=true){m m' k k' v v':q4k}(hm:VR ρ m m')(hk:VR ρ k k')(hv:VR ρ v v') :
  SM Q P (λ_ _ _=>True) (qb4 t m k v) ρ (qb4 t m' k' v'):=by
 intro base D wq w hb hw ht hd hf;rcases q2g hT hG hw hm hf with h | ⟨r,j,kt,et,es,es',clock,rfl,rfl,hbr,hu,hq,hp,he⟩
 ·exact h.sm hb hw ht hd hf
 ·have a8:P.underlying t=some (.map kt et):=by rw[yU hT];exact hu
  obtain⟨r1,_⟩:=yu (P:=Q) (t:=t) (k:=k) (v:=v) hu hq;obtain⟨r2,e2⟩:=yu (P:=P) (t:=t) (k:=k') (v:=v') a8 hp;rw[r1] at hd hf ⊢;rw[r2,e2]
  let n0:Nat:=match (kg kt k' es').run P w with | .ok _ u=>wk.cut (u.tape u.drawn wk) | .halt _ _=>0
  obtain⟨σ,wq1,w1,ev,h1,h2,h3,h4,_,h5,_⟩:=SR.runs (es:=#[⟨.obj j,false,false⟩]) (Ks hT hG (q2i hB hu) hk hv hbr he clock n0) hb hw ht hd hf;have Z:∃d,(kg kt k' es'>>=jq k' v' j es' clock (λi=>qat (z6 es' i k') k')).run P w=But d ((kg kt k' es'>>=jq k' v' j es' clock (λi=>yZ (qbE 10000 (z6 es i k) k) n0 (z6 es' i k') k')).run P w) /\
    ∀a6,(kg kt k' es'>>=jq k' v' j es' clock (λi=>qat (z6 es' i k') k')).events P w a6=(kg kt k' es'>>=jq k' v' j es' clock (λi=>yZ (qbE 10000 (z6 es i k) k) n0 (z6 es' i k') k')).events P w a6:=by
   simp only[qb1,qdk];have a7:n0=match (kg kt k' es').run P w with | .ok _ u=>wk.cut (u.tape u.drawn wk) | .halt _ _=>0:=rfl
   generalize (kg kt k' es').run P w=res at a7;cases res with
   | ok x u =>
    simp only[qb2,Result.evThen_ok];rw[a7];obtain⟨d,g1,g2⟩:=q8x (P:=P) (k:=k') (v:=v') (r:=j) (es:=es') (clock:=clock) (s:=λi=>qbE 10000 (z6 es i k) k) (u:=u) x;exact⟨d,g1,λa6=>g2 _⟩
   | halt x u=>exact⟨u.drawn,rfl,λ_=>rfl⟩
  obtain⟨d,b0,a9⟩:=Z;rw[b0,a9];refine⟨σ,wq1,{ w1 with drawn:=d },#[⟨.obj j,false,false⟩]++ev,?_,by unfold Sem.events;exact h2,?_,?_,?_⟩
  ·generalize qar Q _ wq=x at h1
   generalize qar P _ w=y at h1;cases h1 with
   | ok _ _ h=>exact .ok _ _ h
   | panic _ _ h=>exact .panic _ _ h
  ·intro e he
   rcases qcj.1 he with he | he
   ·simp only[qcl,List.mem_singleton] at he
    subst he;refine .obj false (hbr.mono h5.le) (Nat.le_of_not_lt λhlt=>?_);obtain⟨c,e,f,h6,_⟩:=hw.low r hlt;rw[hq] at h6;cases h6
   ·exact h3 e he
  ·exact⟨h4.len,h4.nodup,h4.lt,h4.obj,h4.low,h4.env,h4.below,h4.gar⟩
  ·exact⟨h5.le,h5.tape,h5.os,h5.output,h5.size,h5.keep,h5.fresh,h5.mine⟩
theorem SM.u{s s':Sem Unit}(h:SM Q P (λ_ _ _=>True) s ρ s'):SM Q P zH (do s;pure .skip) ρ (do s';pure .skip):=by
 intro base D wq w hb hw ht hd hf;have e1:∀(p:q7m) (x:Sem Unit) (u:q2v),((do x;pure Next.skip:Sem qdb)).run p u=match x.run p u with | .ok _ u'=>.ok .skip u' | .halt h u'=>.halt h u':=λp x u=>by
  rw[qb1];cases x.run p u<;>rfl
 have e2:∀(p:q7m) (x:Sem Unit) (u:q2v),((do x;pure Next.skip:Sem qdb)).events p u #[]=x.events p u #[]:=λp x u=>by
  rw[qdk];cases x.run p u<;>rfl
 rw[e1] at hd hf ⊢;have a6:(rwR (s.run Q wq)).drawn<=D:=by cases hx:s.run Q wq<;>(rw[hx] at hd;exact hd)
 have Z:vC (s.run Q wq):=by cases hx:s.run Q wq<;>(rw[hx] at hf;exact hf)
 obtain⟨σ,wq1,w1,ev,h1,h2,h3,h4,h5⟩:=h hb hw ht a6 Z;refine⟨σ,wq1,w1,ev,?_,by rw[e2];exact h2,h3,h4,h5⟩;rw[e1];generalize qar Q _ wq=x at h1;generalize qar P _ w=y at h1;cases h1 with
 | ok _ _ h=>exact .ok _ _ .skip
 | panic _ _ h=>exact .panic _ _ h
theorem Ky(H:Pair Q P){e e':qa4->q4k}(he:∀x,qF Q x->VR ρ (e x) (e' x))(hG:Gl P ρ)(hn:Inj ρ)(hc:∀v,e (.const v)=v){o:qaG}(ho:qJ Q o.op):SM Q P zH (execOp e o) ρ (execOp e' o):=by
 cases hmu:isMap o.op with
 | false=>exact(Kt H he hG hn hc ho hmu).sm
 | true =>
  obtain⟨dst,op,ty,pos,after,guard⟩:=o;dsimp only at ho hmu;cases ho with
  | mapUpdate h1 h2 h3 h4=>exact SM.u (QZ H.tables hG h1 (he _ h2) (he _ h3) (he _ h4))
  | insert h1 h2 h3 h4=>exact SM.u (QZ H.tables hG h1 (he _ h2) (he _ h3) (he _ h4))
  | _=>cases hmu
end
end Go.Sim
end
section
namespace Go.Sim
structure Duo[JunkSet](Q P:q7m):Prop extends Pair Q P where
 codes:∀c,JunkSet.okc c↔qz Q c
 rfr:Q.follows .rangeFuncRecover=true
 bodies:∀f g,JunkSet.okf f->Q.funcs[f]?=some g->P.funcs[f]?=some g->∀c,g.body=some c->qz Q c
 inits:∀f,JunkSet.okf f->Q.inits.idxOf? f=none
 same:∀f,JunkSet.okg f↔(∃g,Q.funcs[f]?=some g/\P.funcs[f]?=some g)/\Q.inits.idxOf? f=none
def YK[JunkSet](Q P:q7m)(ρ:Ren)(g g':q4y):Prop :=
 (Q.funcs[g.frame.fn]?=P.funcs[g.frame.fn]?/\kw Q P ρ g g') \/
 ∃f k a a' c c' cs cs',Q.funcs[f]?≠P.funcs[f]?/\JunkSet.okf f/\g={ frame:=q9v Q f a k,callers:=c::cs,status:=.running,dying:=none }/\g'={ frame:=q9v P f a' k,callers:=c'::cs',status:=.running,dying:=none } /\
  AsR ρ a a'/\qu Q P ρ c c'/\LsR (qu Q P ρ) cs cs'/\(c.mode≠.run\/∀x l,c.todo≠.code x::l)
theorem YK.k[JunkSet]{Q P:q7m}{ρ:Ren}{g g':q4y}(h:kw Q P ρ g g'):YK Q P ρ g g' :=
 .inl ⟨by obtain⟨x,h1,h2⟩:=h.frame.same;rw[h1,h2],h⟩
def kJ[JunkSet](Q P:q7m)(base D:Nat)(ρ:Ren)(wq w:q2v)(r r':qby):Prop :=
 ∀gq' wq' esq,r=.go gq' wq' esq->wq'.drawn<=D->gq'.status=.running->gq'.dying=none ->
  ∃σ g' w' es,r'=.go g' w' es/\YK Q P σ gq' g'/\WR Q base σ wq' w'/\True/\Eff base ρ σ w w'/\(∀e∈es,kz base σ e)/\True/\wq.drawn<=wq'.drawn
section
variable[JunkSet]{Q P:q7m}(H:Duo Q P){ρ:Ren}{base D:Nat}{wq w:q2v}
theorem Duo.gsize(H:Duo Q P):P.globals.size=Q.globals.size:=by rw[H.tables]
theorem enterR(H:Duo Q P){f:qam}(hf:JunkSet.okf f)(hs:Q.funcs[f]?=P.funcs[f]?){a a':Array q4k}(ha:AsR ρ a a')(k:CallKind):qu Q P ρ (q9v Q f a k) (q9v P f a' k):=by
 obtain⟨fq,fp,h1,h2,h3,_⟩:=H.funcs f hf;have e:fp=fq:=by rw[h1,h2] at hs;exact(Option.some.inj hs).symm
 subst e;refine⟨rfl,⟨fp,h1,h2⟩,H.inits f hf,?_,?_,.nil,.run,rfl,.inl ⟨rfl,rfl⟩⟩
 ·unfold q9v
  dsimp only;rw[h1,h2,<- ha.1];refine ha.append ⟨rfl,λi x y hx hy=>?_⟩;rw[Array.getElem?_replicate] at hx hy;split at hx
  ·rename_i hlt
   rw[if_pos hlt] at hy;cases hx;cases hy;exact yV ρ
  ·cases hx
 ·unfold q9v
  dsimp only;rw[h1,h2];cases hb:fp.body with
  | none=>rw[hb] at h3;cases h3
  | some c=>simp only[Option.bind_some,hb,q72];exact .cons (.code (H.bodies f fp hf h1 h2 c hb)) .nil
theorem enterK(H:Duo Q P){f:qam}(hf:JunkSet.okf f){a a':Array q4k}(ha:AsR ρ a a'){c c':q7n}(hc:qu Q P ρ c c'){cs cs':List q7n}(hcs:LsR (qu Q P ρ) cs cs')(hm:c.mode≠.run\/∀x l,c.todo≠.code x::l)(k:CallKind):YK Q P ρ { frame:=q9v Q f a k,callers:=c::cs,status:=.running,dying:=none } { frame:=q9v P f a' k,callers:=c'::cs',status:=.running,dying:=none }:=by
 by_cases hs:Q.funcs[f]?=P.funcs[f]?
 ·exact .k ⟨enterR H hf hs ha k,.cons hc hcs,rfl,rfl,rfl,rfl⟩
 ·exact .inr ⟨f,k,a,a',c,c',cs,cs',hs,hf,rfl,rfl,ha,hc,hcs,hm⟩
theorem roundR(H:Duo Q P){l l':Nat}{f:qam}(hs:∃g,Q.funcs[f]?=some g/\P.funcs[f]?=some g)(hi:Q.inits.idxOf? f=none){t t':Array q4k}{a b:qbs}(hb:BR ρ l l')(ht:AsR ρ t t')(ha:qz Q a)(hc:qz Q b)(k:CallKind) :
  qu Q P ρ (Frame.round l f t a b k) (Frame.round l' f t' a b k) :=
 ⟨rfl,hs,hi,ht,.cons (.code ha) (.cons .beginRound (.cons (.code hc) .nil)),.nil,.run,rfl,.inr ⟨l,l',rfl,rfl,hb⟩⟩
theorem ResR.world{α β:Type}{R:Rel α β}{r:qd7 α}{Z:q2v}{r':qd7 β}{w2:q2v}(h:ResR R ρ r Z r' w2):rwR r=Z:=by
 cases h<;>rfl
theorem zd(hw:WR Q base ρ wq w)(ht:zq D wq w){g g':q4y}(h:g.status=.running->g.dying=none->kw Q P ρ g g'):kJ Q P base D ρ wq w (.go g wq) (.go g' w):=by
 intro gq' wq' esq e hD hs hd;cases e;exact⟨ρ,g',w,#[],rfl,.k (h hs hd),hw,trivial,.refl base w,by simp,trivial,q4u _⟩
theorem zt{o:Outcome}{u:q2v}{es:Array qaz}{r':qby}:kJ Q P base D ρ wq w (.ended o u es) r':=by
 intro _ _ _ e;cases e
theorem xq{f f':q7n}(hf:qu Q P ρ f f'):∀{cs cs':List q7n},LsR (qu Q P ρ) cs cs' ->
  (q92 f cs=none/\q92 f' cs'=none)\/∃v v' k k',q92 f cs=some (v,k)/\q92 f' cs'=some (v',k')/\VR ρ v v'/\LsR (qu Q P ρ) k k':=by
 intro cs cs' h;induction h generalizing f f' with
 | nil=>exact .inl ⟨by unfold q92;split<;>simp_all,by unfold q92;split<;>simp_all⟩
 | @cons c c' cs cs' hc hcs ih =>
  unfold q92;rw[hf.kind];cases hk:f.kind with
  | deferred =>
   dsimp only;have hm:=hc.mode;cases hmc:c.mode with
   | run=>rw[hmc] at hm;cases hm':c'.mode<;>rw[hm'] at hm<;>cases hm;exact .inl ⟨rfl,rfl⟩
   | returning=>rw[hmc] at hm;cases hm':c'.mode<;>rw[hm'] at hm<;>cases hm;exact .inl ⟨rfl,rfl⟩
   | panicking l =>
    rw[hmc] at hm;cases hm':c'.mode with
    | run=>rw[hm'] at hm;cases hm
    | returning=>rw[hm'] at hm;cases hm
    | panicking l' =>
     rw[hm'] at hm;cases hm with
     | panicking hl =>
      cases hl with
      | nil=>exact .inl ⟨rfl,rfl⟩
      | @cons p p' l l' hp hl =>
       obtain⟨v,r,g⟩:=p;obtain⟨v',r',g'⟩:=p';obtain⟨h1,h2,h3⟩:=hp;dsimp only at h1 h2 h3;subst h2;subst h3;cases r'<;>cases g'<;>first
        | exact .inl ⟨rfl,rfl⟩
        | exact .inr ⟨v,v',_,_,rfl,rfl,h1,.cons ⟨hc.fn,hc.same,hc.okf,hc.tmps,hc.todo,hc.defers,.panicking (.cons ⟨h1,rfl,rfl⟩ hl),hc.kind,hc.round⟩ hcs⟩
  | wrapped =>
   dsimp only;rcases ih hc with⟨e1,e2⟩ | ⟨v,v',k,k',e1,e2,hv,hks⟩
   ·rw[e1,e2];exact .inl ⟨rfl,rfl⟩
   ·rw[e1,e2];exact .inr ⟨v,v',_,_,rfl,rfl,hv,.cons hc hks⟩
  | _=>exact .inl ⟨rfl,rfl⟩
theorem qY{p:q7m}{fr:q7n}{cs:List q7n}{m:String}{u u':q2v}{g:q4y}{es:Array qaz}(h:endFatal p fr cs none m u=.go g u' es):g.dying≠none:=by
 unfold endFatal at h;dsimp only at h;generalize (qar p _ u:qd7 (List (ByteArray × String) × List ByteArray))=r at h;cases r with
 | ok a w1 =>
  obtain⟨t,Z⟩:=a;simp only[dieOf,qcH] at h;rw[<- h.1];simp
 | halt x w1=>cases x<;>simp at h
theorem zR{es:Array qaz}{s:qby}{g:q4y}{u:q2v}{e:Array qaz}(h:qan es s=.go g u e):∃e0,s=.go g u e0/\e=es++e0:=by
 cases s<;>simp only[qan,qcH] at h<;>first | (obtain⟨rfl,rfl,rfl⟩:=h;exact⟨_,rfl,rfl⟩) | cases h
theorem SR.ends{α β:Type}{R:Rel α β}{s:Sem α}{s':Sem β}(hs:SR Q P R s ρ s')(hb:base<=ρ.length)(hw:WR Q base ρ wq w)(hf:vC (s.run Q wq)) :
  (∃a u,s.run Q wq=.ok a u)\/∃v u,s.run Q wq=.halt (.panic v) u:=by
 have a6:WR Q base ρ wq { w with tape:=λn q=>wq.tape (n - w.drawn+wq.drawn) q }:=⟨hw.len,hw.nodup,hw.lt,hw.obj,hw.low,hw.env,hw.below,hw.gar⟩
 obtain⟨σ,a7,w2,a8,Z,_⟩:=SR.runs (es:=#[]) (D:=(rwR (s.run Q wq)).drawn) hs hb a6 (λn q _=>by
  show wq.tape (wq.drawn+n) q=wq.tape (w.drawn+n - w.drawn+wq.drawn) q;rw[show w.drawn+n - w.drawn+wq.drawn=wq.drawn+n by omega]) (q4u _) hf
 generalize s.run Q wq=r at Z;generalize (qar P s' _)=r' at Z;cases Z with
 | ok _ _ _=>exact .inl ⟨_,_,rfl⟩
 | panic _ _ _=>exact .inr ⟨_,_,rfl⟩
theorem SM.ends{α β:Type}{R:Rel α β}{s:Sem α}{s':Sem β}(hs:SM Q P R s ρ s')(hb:base<=ρ.length)(hw:WR Q base ρ wq w)(hf:vC (s.run Q wq)) :
  (∃a u,s.run Q wq=.ok a u)\/∃v u,s.run Q wq=.halt (.panic v) u:=by
 have a6:WR Q base ρ wq { w with tape:=λn q=>wq.tape (n - w.drawn+wq.drawn) q }:=⟨hw.len,hw.nodup,hw.lt,hw.obj,hw.low,hw.env,hw.below,hw.gar⟩
 obtain⟨σ,a7,w2,a8,Z,_⟩:=hs (D:=(rwR (s.run Q wq)).drawn) hb a6 (λn q _=>by
  show wq.tape (wq.drawn+n) q=wq.tape (w.drawn+n - w.drawn+wq.drawn) q;rw[show w.drawn+n - w.drawn+wq.drawn=wq.drawn+n by omega]) (q4u _) hf
 generalize s.run Q wq=r at Z;generalize (qar P s' _)=r' at Z;cases Z with
 | ok _ _ _=>exact .inl ⟨_,_,rfl⟩
 | panic _ _ _=>exact .inr ⟨_,_,rfl⟩
theorem Q0(H:Duo Q P)(hb:base<=ρ.length)(hw:WR Q base ρ wq w)(ht:zq D wq w){f f':q7n}(hf:qu Q P ρ f f'){cs cs':List q7n}(hcs:LsR (qu Q P ρ) cs cs')
  (b9:∀x l,f.todo≠.code x::l) {s s':Sem qdb} (hs:SM Q P zH s ρ s'):kJ Q P base D ρ wq w (qaw Q true f cs none s wq) (qaw P true f' cs' none s' w):=by
 intro gq' wq' esq a6 hD hst b8;have d8:(∀d r s k,f.todo≠.call d true r s::k)/\∀d r s k,f'.todo≠.call d true r s::k:=by
  have:=hf.todo;generalize f.todo=l at this;generalize f'.todo=l' at this;cases this with
  | nil=>exact⟨by simp,by simp⟩
  | cons hx _=>cases hx<;>exact⟨by simp,by simp⟩
 obtain⟨e7,e6⟩:=d8;unfold qaw at a6;simp only[if_true,q9h] at a6;have b7:vC (s.run Q wq):=by
  cases hr:s.run Q wq with
  | ok a w1=>trivial
  | halt h w1 =>
   rw[hr] at a6;cases h with
   | panic v=>rfl
   | goexit=>rfl
   | unsupported u=>cases u<;>first | rfl | (simp[qan] at a6;done)
   | blocked=>simp only[qan,qcH] at a6;rw[<- a6.1] at hst;cases hst
   | waiting=>simp only[qan,qcH] at a6;rw[<- a6.1] at hst;cases hst
   | throw m=>simp only[qan,endThrow,dieOf,qcH] at a6;rw[<- a6.1] at b8;cases b8
   | fatal m =>
    obtain⟨e0,h0,_⟩:=zR a6;exact absurd b8 (qY h0)
   | _=>(simp[qan] at a6;done)
 obtain⟨e0,h0,_⟩:=zR a6;have e8:∀{fr:q7n} {u:q2v},(GStep.go { frame:=fr,callers:=cs,status:=.running,dying:=none } u:qby)=.go gq' wq' e0->u=wq':=λh=>by cases h;rfl
 have e5:(rwR (s.run Q wq)).drawn<=D:=by
  cases hr:s.run Q wq with
  | ok a w1 =>
   rw[hr] at h0;have:w1=wq':=by
    cases a with
    | recover =>
     dsimp only at h0
     repeat' split at h0
     all_goals(cases h0;rfl)
    | callThen d r v b =>
     dsimp only at h0
     repeat' split at h0
     all_goals(cases h0;rfl)
    | row r a =>
     dsimp only at h0
     repeat' split at h0
     all_goals(cases h0;rfl)
    | stack r a =>
     dsimp only at h0
     repeat' split at h0
     all_goals(cases h0;rfl)
    | spawn d =>
     exfalso;dsimp only at h0
     repeat' split at h0
     all_goals first
      | (simp only[endThrow,dieOf,qcH] at h0;rw[<- h0.1] at b8;cases b8;done)
      | (cases h0;done)
    | _=>first | (cases h0;rfl) | cases h0
   subst this;exact hD
  | halt h w1 =>
   rcases hs.ends hb hw b7 with⟨a,u,e⟩ | ⟨v,u,e⟩
   ·rw[hr] at e;cases e
   ·rw[hr] at e;cases e
    rw[hr] at h0;cases h0;exact hD
 obtain⟨σ,b6,w2,a7,b0,hes,e4,d7,c9⟩:=hs hb hw ht e5 b7;have hL:=c9.le;have d9:wq.drawn<=b6.drawn:=b0.world ▸ vg Q s wq;have a9:LsR (qu Q P σ) cs cs':=hcs.imp λ_ _ k=>k.mono hL;have Z:=hf.mono hL;have c3:s'.events P w #[]=a7:=hes;have d6:(f'.kind == CallKind.early)=(f.kind == CallKind.early):=by rw[hf.kind]
 have a8:∀(es:Array qaz),(es=#[]\/es=a7)->∀e∈seen P f'.fn (if(f'.kind == CallKind.early)=true then #[] else es),e∈a7:=by
  intro es he e hx;have:=yY _ _ _ e hx;split at this
  ·simp at this
  ·rcases he with rfl | rfl
   ·simp at this
   ·exact this
 have fin:∀{g g':q4y} {es:Array qaz} {r':qby},r'=.go g' w2 es->(∀e∈es,e∈a7)->g=gq'->b6=wq'->(gq'.status=.running->YK Q P σ g g') ->
   ∃σ g'' w' es',r'=.go g'' w' es'/\YK Q P σ gq' g''/\WR Q base σ wq' w'/\True/\Eff base ρ σ w w'/\(∀e∈es',kz base σ e)/\True/\wq.drawn<=wq'.drawn:=by
  intro g g' es r' e0 c8 e1 e2 hg;subst e1;subst e2;exact⟨σ,g',w2,es,e0,hg hst,d7,trivial,c9,λe he=>e4 e (c8 e he),trivial,d9⟩
 unfold qaw;simp only[if_true,q9h];rw[c3];generalize hr:s.run Q wq=r at h0 b0;generalize hr':s'.run P w=r' at b0;cases b0 with
 | ok b6 w2 hN =>
  cases hN with
  | value hv =>
   cases h0;exact fin rfl (by simpa using a8 a7 (.inr rfl)) rfl rfl λ_=>.k ⟨Z.finish hv,a9,rfl,rfl,rfl,rfl⟩
  | skip =>
   cases h0;exact fin rfl (by simpa using a8 a7 (.inr rfl)) rfl rfl λ_=>.k ⟨Z.finish (yV σ),a9,rfl,rfl,rfl,rfl⟩
  | @enter fn a a' hok ha =>
   cases h0;refine fin rfl (by simpa using a8 a7 (.inr rfl)) rfl rfl λ_=>enterK H hok ha Z a9 (.inr b9) _
  | round fn hb1 ht1 hsm ha hc =>
   cases h0;refine fin rfl (by simpa using a8 a7 (.inr rfl)) rfl rfl λ_=>.k ⟨?_,.cons Z a9,rfl,rfl,rfl,rfl⟩;exact roundR H ((H.same _).1 hsm).1 ((H.same _).1 hsm).2 hb1 ht1 ((H.codes _).1 ha) ((H.codes _).1 hc) _
  | defer hd =>
   cases h0;exact fin rfl (by simpa using a8 a7 (.inr rfl)) rfl rfl λ_=>.k ⟨qu.finish (f:={ f with defers:=_::f.defers }) (f':={ f' with defers:=_::f'.defers }) ⟨Z.fn,Z.same,Z.okf,Z.tmps,Z.todo,.cons hd Z.defers,Z.mode,Z.kind,Z.round⟩ (yV σ),a9,rfl,rfl,rfl,rfl⟩
  | recover =>
   have hrf:P.follows .rangeFuncRecover=true:=by
    have:P.toTables.follows .rangeFuncRecover=Q.toTables.follows .rangeFuncRecover:=by rw[H.tables]
    exact this.trans H.rfr
   have key:∀{X X':Option (q4k × List q7n)},X=q92 f cs->X'=q92 f' cs' ->
     (match X with
      | some (v,callers)=>GStep.go { frame:=f.finish v,callers,status:=.running,dying:=none } b6
      | none=>.go { frame:=f.finish .nilIface,callers:=cs,status:=.running,dying:=none } b6)=.go gq' wq' e0 ->
     ∃σ g'' w' es',qan (seen P f'.fn (if(f'.kind == CallKind.early)=true then #[] else a7)) (match X' with
      | some (v,callers)=>GStep.go { frame:=f'.finish v,callers,status:=.running,dying:=none } w2
      | none=>.go { frame:=f'.finish .nilIface,callers:=cs',status:=.running,dying:=none } w2)=.go g'' w' es'/\YK Q P σ gq' g''/\WR Q base σ wq' w'/\True/\Eff base ρ σ w w'/\(∀e∈es',kz base σ e)/\True/\wq.drawn<=wq'.drawn:=by
    intro X X' hX d5 h0;rcases xq Z a9 with⟨t1,t2⟩ | ⟨v,v',k,k',t1,t2,hv,hks⟩
    ·rw[hX,t1] at h0
     rw[d5,t2];cases h0;exact fin rfl (by simpa using a8 a7 (.inr rfl)) rfl rfl λ_=>.k ⟨Z.finish .nilIface,a9,rfl,rfl,rfl,rfl⟩
    ·rw[hX,t1] at h0
     rw[d5,t2];cases h0;exact fin rfl (by simpa using a8 a7 (.inr rfl)) rfl rfl λ_=>.k ⟨Z.finish hv,hks,rfl,rfl,rfl,rfl⟩
   dsimp only at h0 ⊢;rcases Z.round with⟨r1,r2⟩ | ⟨i,j,r1,r2,_⟩
   ·rw[r1] at h0
    rw[r2];exact key rfl rfl h0
   ·rw[r1] at h0
    rw[r2];exact key (by simp[H.rfr]) (by simp[hrf]) h0
 | panic b6 w2 hv =>
  cases h0;exact fin rfl (by simpa using a8 a7 (.inr rfl)) rfl rfl λ_=>.k ⟨Z.raise (.cons ⟨hv,rfl,rfl⟩ .nil),a9,rfl,rfl,rfl,rfl⟩
end
end Go.Sim
end
section
namespace Go.Sim
section
variable[JunkSet]{Q P:q7m}{ρ:Ren}{base D:Nat}{wq w:q2v}
def kb:Target->Bool
 | .nil=>true
 | _=>false
def ka:FrameMode->Bool
 | .panicking _=>true
 | _=>false
theorem q0m(H:Duo Q P)(hb:base<=ρ.length)(hw:WR Q base ρ wq w)(hG:Gl P ρ)(ht:zq D wq w){f f':q7n}(hf:qu Q P ρ f f'){cs cs':List q7n}(hcs:LsR (qu Q P ρ) cs cs')
  (c9:f.mode≠.run) {d d':qba} (hd:yF ρ d d'):kJ Q P base D ρ wq w (qbd Q f cs none d wq) (qbd P f' cs' none d' w):=by
 intro gq' wq' esq a8 hD hst c3;have hs:SR Q P zH (invoke d.target d.args) ρ (invoke d'.target d'.args):=kZ H.toPair hG hd;unfold qbd at a8 ⊢;have c8:(kb d'.target && ka f'.mode)=(kb d.target && ka f.mode):=by
  have h2:=hf.mode;rcases hd with⟨h1,_⟩ | ⟨h1,_,n,c,h3⟩
  case bound=>rw[h1,h3];rfl
  generalize d.target=t at h1;generalize d'.target=t' at h1;generalize f.mode=m at h2;generalize f'.mode=m' at h2;cases h1<;>cases h2<;>rfl
 generalize invoke d.target d.args=s at hs a8;generalize invoke d'.target d'.args=s' at hs ⊢;change (if(kb d.target && ka f.mode)=true then _ else _)=_ at a8;show ∃σ g' w' es,(if(kb d'.target && ka f'.mode)=true then _ else _)=GStep.go g' w' es/\_;by_cases hc:(kb d.target && ka f.mode)=true
 ·rw[if_pos hc] at a8
  cases a8
 ·rw[if_neg hc] at a8
  rw[if_neg (by rw[c8];exact hc)];simp only[q9h] at a8 ⊢;obtain⟨e0,h0,_⟩:=zR a8;have b8:vC (s.run Q wq):=by
   cases hr:s.run Q wq with
   | ok a w1=>trivial
   | halt h w1 =>
    rw[hr] at h0;cases h with
    | panic v=>rfl
    | goexit=>rfl
    | unsupported u=>cases u<;>first | rfl | (cases h0;done)
    | blocked=>cases h0;cases hst
    | waiting=>cases h0;cases hst
    | throw m=>simp only[endThrow,dieOf,qcH] at h0;rw[<- h0.1] at c3;cases c3
    | fatal m=>exact absurd c3 (qY h0)
    | _=>(cases h0;done)
  have e5:(rwR (s.run Q wq)).drawn<=D:=by
   cases hr:s.run Q wq with
   | ok a w1 =>
    rw[hr] at h0;have:w1=wq':=by
     cases a with
     | recover =>
      dsimp only at h0
      repeat' split at h0
      all_goals(cases h0;rfl)
     | coroswitch c e=>cases e<;>cases h0
     | alone on v=>cases on<;>cases h0
     | _=>first | (cases h0;rfl) | cases h0
    subst this;exact hD
   | halt h w1 =>
    rcases hs.ends hb hw b8 with⟨a,u,e⟩ | ⟨v,u,e⟩
    ·rw[hr] at e;cases e
    ·rw[hr] at e;cases e
     rw[hr] at h0;cases h0;exact hD
  obtain⟨σ,b7,w2,b6,b0,hes,e4,d8,e7,d7,e8⟩:=SR.runs (es:=#[]) hs hb hw ht e5 b8;have hL:=d7.le;have d9:wq.drawn<=b7.drawn:=b0.world ▸ vg Q s wq;have a6:LsR (qu Q P σ) cs cs':=hcs.imp λ_ _ k=>k.mono hL;have a7:=hf.mono hL;have d5:s'.events P w #[]=b6:=by
   show(s'.runT P w #[]).2=b6;rw[hes];simp
  have Z:∀e∈seen P f'.fn b6,e∈b6:=λe he=>yY _ _ _ e he;have fin:∀{g g':q4y} {es:Array qaz} {r':qby},r'=.go g' w2 es->(∀e∈es,e∈b6)->g=gq'->b7=wq'->(gq'.status=.running->YK Q P σ g g') ->
    ∃σ g'' w' es',r'=.go g'' w' es'/\YK Q P σ gq' g''/\WR Q base σ wq' w'/\True/\Eff base ρ σ w w'/\(∀e∈es',kz base σ e)/\True/\wq.drawn<=wq'.drawn:=by
   intro g g' es r' e0 d6 e1 e2 hg;subst e1;subst e2;exact⟨σ,g',w2,es,e0,hg hst,d8,trivial,d7,λe he=>e4 e (d6 e he),trivial,d9⟩
  rw[d5];generalize hr:s.run Q wq=r at h0 b0;generalize hr':s'.run P w=r' at b0;cases b0 with
  | ok b7 w2 hN =>
   cases hN with
   | value hv =>
    cases h0;exact fin rfl (by simpa using Z) rfl rfl λ_=>.k ⟨a7,a6,rfl,rfl,rfl,rfl⟩
   | skip =>
    cases h0;exact fin rfl (by simpa using Z) rfl rfl λ_=>.k ⟨a7,a6,rfl,rfl,rfl,rfl⟩
   | @enter fn a a' hok ha =>
    cases h0;exact fin rfl (by simpa using Z) rfl rfl λ_=>enterK H hok ha a7 a6 (.inl c9) _
   | round fn hb1 ht1 hsm ha hc =>
    cases h0;exact fin rfl (by simpa using Z) rfl rfl λ_=>.k ⟨roundR H ((H.same _).1 hsm).1 ((H.same _).1 hsm).2 hb1 ht1 ((H.codes _).1 ha) ((H.codes _).1 hc) _,.cons a7 a6,rfl,rfl,rfl,rfl⟩
   | defer hd =>
    cases h0;exact fin rfl (by simpa using Z) rfl rfl λ_=>.k ⟨a7,a6,rfl,rfl,rfl,rfl⟩
   | recover =>
    have hm:=a7.mode;have b9:=xq a7 a6;dsimp only at h0 ⊢;generalize q92 f cs=X at h0 b9;generalize q92 f' cs'=X' at b9 ⊢;generalize hmm:f.mode=m at h0 hm;generalize e6:f'.mode=m' at hm ⊢;have a9:GStep.go { frame:=f,callers:=cs,status:=.running,dying:=none } b7=.go gq' wq' e0->∀{r':qby},r'=qan (seen P f'.fn b6) (.go { frame:=f',callers:=cs',status:=.running,dying:=none } w2) ->
      ∃σ g'' w' es',r'=.go g'' w' es'/\YK Q P σ gq' g''/\WR Q base σ wq' w'/\True/\Eff base ρ σ w w'/\(∀e∈es',kz base σ e)/\True/\wq.drawn<=wq'.drawn:=by
     intro h r' hr';cases h;exact fin hr' (by simpa using Z) rfl rfl λ_=>.k ⟨a7,a6,rfl,rfl,rfl,rfl⟩
    cases hm with
    | returning =>
     rcases b9 with⟨rfl,rfl⟩ | ⟨v,v',k,k',rfl,rfl,hv,hks⟩
     ·exact a9 h0 rfl
     ·cases h0
      exact fin rfl (by simpa using Z) rfl rfl λ_=>.k ⟨a7,hks,rfl,rfl,rfl,rfl⟩
    | run=>exact a9 h0 rfl
    | panicking hl=>exact a9 h0 rfl
  | panic b7 w2 hv =>
   cases h0;exact fin rfl (by simpa using Z) rfl rfl λ_=>.k ⟨a7.raise (.cons ⟨hv,rfl,rfl⟩ .nil),a6,rfl,rfl,rfl,rfl⟩
theorem Z0{α β:Type}{R:Rel α β}(hb:base<=ρ.length)(hw:WR Q base ρ wq w)(ht:zq D wq w)(d8:wq.drawn<=D){s:Sem α}{s':Sem β}(hs:SR Q P R s ρ s')(b0:(rwR (s.run Q wq)).drawn=wq.drawn)
  {K:qd7 α->qby} {K':qd7 β->qby} {fn c3:qam}
  (hbad:∀h u g u' e,odd h=false->K (.halt h u)=.go g u' e->g.status=.running->g.dying=none->False)
  (hK:∀σ r wq1 r' w1,ResR R σ r wq1 r' w1->Le ρ σ->base<=σ.length->WR Q base σ wq1 w1->zq D wq1 w1->wq1.drawn<=D->kJ Q P base D σ wq1 w1 (K r) (K' r')) :
  kJ Q P base D ρ wq w (qan (seen Q fn (s.events Q wq #[])) (K (s.run Q wq))) (qan (seen P c3 (s'.events P w #[])) (K' (s'.run P w))):=by
 intro gq' wq' esq d6 hD hst b9;obtain⟨e0,h0,_⟩:=zR d6;have a7:vC (s.run Q wq):=by
  cases hr:s.run Q wq with
  | ok a w1=>trivial
  | halt h w1 =>
   rw[hr] at h0;cases ho:odd h with
   | true=>exact ho
   | false=>exact(hbad h w1 _ _ _ ho h0 hst b9).elim
 obtain⟨σ,a9,w2,a8,Z,hes,d7,c9,d5,b8,e7⟩:=SR.runs (es:=#[]) hs hb hw ht (by rw[b0];exact d8) a7;have hL:=b8.le;have e5:a9.drawn=wq.drawn:=by rw[<- Z.world];exact b0
 have b7:s'.events P w #[]=a8:=by
  show(s'.runT P w #[]).2=a8;rw[hes];simp
 obtain⟨τ,g',w',es',e1,hg,c8,e6,a6,b6,e4,d9⟩:=hK σ _ a9 _ w2 Z hL (q6s hb hL.len) c9 d5 (by omega) gq' wq' e0 h0 hD hst b9;refine⟨τ,g',w',seen P c3 a8++es',?_,hg,c8,trivial,b8.trans hb a6,?_,trivial,by omega⟩
 ·rw[b7,e1]
  rfl
 ·intro e he
  rcases qcj.1 he with he | he
  ·exact(d7 e (yY _ _ _ e he)).mono a6.le
  ·exact b6 e he
theorem Z1(hw:WR Q base ρ wq w)(ht:zq D wq w){f f':q7n}(hf:qu Q P ρ f f'){cs cs':List q7n}(hcs:LsR (qu Q P ρ) cs cs'){v v':q4k}(hv:VR ρ v v')(b:Bool) :
  kJ Q P base D ρ wq w (qbh Q true f cs none v wq) (qbh P b f' cs' none v' w):=by
 cases hcs with
 | nil =>
  intro gq' wq' esq a6 hD hst a7;unfold qbh at a6;simp only[hf.okf] at a6;cases hk:f.kind<;>rw[hk] at a6<;>cases a6
 | @cons c c' cs cs' hc hcs =>
  unfold qbh;dsimp only;rw[hf.kind];have plain:kJ Q P base D ρ wq w (.go { frame:=c.finish v,callers:=cs,status:=.running,dying:=none } wq) (.go { frame:=c'.finish v',callers:=cs',status:=.running,dying:=none } w) :=
   zd hw ht λ_ _=>⟨hc.finish hv,hcs,rfl,rfl,rfl,rfl⟩
  cases f.kind with
  | normal=>exact plain
  | wrapped=>exact plain
  | early=>exact zd hw ht λ_ _=>⟨hc,hcs,rfl,rfl,rfl,rfl⟩
  | deferred =>
   refine zd hw ht λ_ _=>⟨?_,hcs,rfl,rfl,rfl,rfl⟩
   dsimp only;have hm:=hc.mode;have Z:∀{l l':List PanicEntry},LsR (Zl ρ) l l'->LsR (Zl ρ) (l.dropWhile (!·.goexit)) (l'.dropWhile (!·.goexit)):=by
    intro l l' h;induction h with
    | nil=>exact .nil
    | @cons p p' l l' hp hl ih =>
     simp only[List.dropWhile_cons];rw[hp.goexit];split
     ·exact ih
     ·exact .cons hp hl
   cases hmc:c.mode with
   | run=>rw[hmc] at hm;cases hm':c'.mode<;>rw[hm'] at hm<;>cases hm;exact hc
   | returning=>rw[hmc] at hm;cases hm':c'.mode<;>rw[hm'] at hm<;>cases hm;exact hc
   | panicking l =>
    rw[hmc] at hm;cases hm':c'.mode with
    | run=>rw[hm'] at hm;cases hm
    | returning=>rw[hm'] at hm;cases hm
    | panicking l' =>
     rw[hm'] at hm;cases hm with
     | panicking hl =>
      cases hl with
      | nil=>exact hc
      | @cons p p' l l' hp hl =>
       obtain⟨v,r,g⟩:=p;obtain⟨v',r',g'⟩:=p';obtain⟨h1,h2,h3⟩:=hp;dsimp only at h1 h2 h3;subst h2;cases r' with
       | false=>exact hc
       | true =>
        dsimp only;have:=Z hl;generalize l.dropWhile (!·.goexit)=k at this;generalize l'.dropWhile (!·.goexit)=k' at this;cases this with
        | nil=>exact⟨hc.fn,hc.same,hc.okf,hc.tmps,hc.todo,hc.defers,.returning,hc.kind,hc.round⟩
        | cons hp hl=>exact⟨hc.fn,hc.same,hc.okf,hc.tmps,hc.todo,hc.defers,.panicking (.cons hp hl),hc.kind,hc.round⟩
  | report =>
   refine zd hw ht λ_ _=>⟨?_,hcs,rfl,rfl,rfl,rfl⟩
   dsimp only;have hm:=hc.mode;have Z:∀{l l':List PanicEntry},LsR (Zl ρ) l l'->LsR (Zl ρ) (l.dropWhile (!·.goexit)) (l'.dropWhile (!·.goexit)):=by
    intro l l' h;induction h with
    | nil=>exact .nil
    | @cons p p' l l' hp hl ih =>
     simp only[List.dropWhile_cons];rw[hp.goexit];split
     ·exact ih
     ·exact .cons hp hl
   cases hmc:c.mode with
   | run=>rw[hmc] at hm;cases hm':c'.mode<;>rw[hm'] at hm<;>cases hm;exact hc
   | returning=>rw[hmc] at hm;cases hm':c'.mode<;>rw[hm'] at hm<;>cases hm;exact hc
   | panicking l =>
    rw[hmc] at hm;cases hm':c'.mode with
    | run=>rw[hm'] at hm;cases hm
    | returning=>rw[hm'] at hm;cases hm
    | panicking l' =>
     rw[hm'] at hm;cases hm with
     | panicking hl =>
      cases hl with
      | nil=>exact hc
      | @cons p p' l l' hp hl =>
       obtain⟨v,r,g⟩:=p;obtain⟨v',r',g'⟩:=p';obtain⟨h1,h2,h3⟩:=hp;dsimp only at h1 h2 h3;subst h2;cases r' with
       | false=>exact hc
       | true =>
        dsimp only;have:=Z hl;generalize l.dropWhile (!·.goexit)=k at this;generalize l'.dropWhile (!·.goexit)=k' at this;cases this with
        | nil=>exact⟨hc.fn,hc.same,hc.okf,hc.tmps,hc.todo,hc.defers,.returning,hc.kind,hc.round⟩
        | cons hp hl=>exact⟨hc.fn,hc.same,hc.okf,hc.tmps,hc.todo,hc.defers,.panicking (.cons hp hl),hc.kind,hc.round⟩
theorem Qz(H:Duo Q P)(hG:Gl P ρ)(fn:Func){t t':Array q4k}(h:AsR ρ t t'):SR Q P VR (results fn t) ρ (results fn t'):=by
 unfold results;refine .bnd (R:=AsR) ?_ λσ a b l hab=>?_
 ·rw[qcC,qcC]
  have Z:∀(rs:List ResultVar) (σ:Ren),Le ρ σ->SR Q P (λτ=>LsR (VR τ)) (rs.mapM fun
    | .tmp x=>pure (t.getD x q4D)
    | .cell a ty=>do loadVar ty (<- asAddr (t.getD a q4D))) σ (rs.mapM fun
    | .tmp x=>pure (t'.getD x q4D)
    | .cell a ty=>do loadVar ty (<- asAddr (t'.getD a q4D))):=by
   intro rs;induction rs with
   | nil=>intro σ l;exact qd .nil
   | cons r rs ih =>
    intro σ l;rw[qdF,qdF];refine .bnd (R:=VR) ?_ λτ x y l' hxy=>.bnd (ih τ (l.trans l')) λυ a b l2 hab=>qd (.cons (hxy.mono l2) hab);cases r with
    | tmp x=>exact qd ((h.mono l).getD x (yV σ))
    | cell a ty=>exact .bnd (Kv H.tables (hG.mono l) ((h.mono l).getD a (yV σ))) λυ x y _ hxy=>by obtain⟨i,j,o,s,rfl,rfl,hb⟩:=hxy;exact JL H.tables hb
  exact SR.bnd (S:=AsR) (f:=λl=>pure l.toArray) (f':=λl=>pure l.toArray) (Z fn.results.toList ρ (.refl ρ)) λσ a b l hab=>qd (ze.2 (by simpa using hab))
 ·refine qd ?_
  have hs:=hab.1;split
  ·rename_i h1
   rw[dif_pos (by omega)];exact hab.2 0 _ _ (q8B _) (q8B _)
  ·rename_i h1
   rw[dif_neg (by omega)];exact hab.tuple
def Dry{α:Type}:Sem α->Prop
 | .pure _=>True
 | .load _ _ k=>∀v,Dry (k v)
 | .store _ _ _ k=>Dry k
 | .new _ k=>∀r,Dry (k r)
 | .shape _ k=>∀x,Dry (k x)
 | .freeze _ _ k=>Dry k
 | .frozen _ k=>∀b,Dry (k b)
 | .getObj _ k=>∀o,Dry (k o)
 | .setObj _ _ k=>Dry k
 | .choose _ _=>False
 | .sys _ _=>False
 | .program k=>∀p,Dry (k p)
 | .mark _ k=>Dry k
 | .halt _=>True
theorem Dry.bind{α γ:Type}{s:Sem α}{f:α->Sem γ}(h:Dry s)(hf:∀a,Dry (f a)):Dry (s>>=f):=by
 show Dry (s.bind f);induction s with
 | pure a=>exact hf a
 | load m a k ih=>exact λv=>ih v (h v)
 | store m a v k ih=>exact ih h
 | new o k ih=>exact λv=>ih v (h v)
 | shape r k ih=>exact λv=>ih v (h v)
 | freeze a n k ih=>exact ih h
 | frozen a k ih=>exact λv=>ih v (h v)
 | getObj r k ih=>exact λv=>ih v (h v)
 | setObj r o k ih=>exact ih h
 | choose q k ih=>exact h.elim
 | sys c k ih=>exact h.elim
 | program k ih=>exact λp=>ih p (h p)
 | mark m k ih=>exact ih h
 | halt x=>trivial
theorem Dry.run{α:Type}(p:q7m){s:Sem α}:∀{w:q2v},Dry s->(rwR (s.run p w)).drawn=w.drawn:=by
 induction s with
 | pure a=>intro w h;rfl
 | load m a k ih =>
  intro w h;simp only[qar];split
  ·exact ih _ (h _)
  ·split
   ·exact ih _ (h _)
   ·rfl
 | store m a v k ih =>
  intro w h;have key:(rwR (match w.cell? a with
     | some _=>if w.frozen? a then(.halt (.unsupported (.unsafePointer "a write to bytes that a string shares")) w:qd7 α) else k.run p (w.setCell a v)
     | none=>match w.farStore p a v (m == .atomic) with
      | .ok (w,_)=>k.run p w
      | .error h=>.halt h w)).drawn=w.drawn:=by
   split
   ·split
    ·rfl
    ·exact ih (w:=w.setCell a v) h
   ·split
    ·rename_i w' t e
     rw[ih h];unfold qdr at e;split at e
     ·split at e
      ·rename_i r hr
       cases e;exact vZ _ _ _ _ _ _ _ hr
      ·cases e
     ·cases e
    ·rfl
  cases v<;>first | exact key | rfl
 | new o k ih=>intro w h;exact ih _ (w:={ w with heap:=w.heap.push o }) (h _)
 | shape r k ih=>intro w h;exact ih _ (h _)
 | freeze a n k ih =>
  intro w h;refine(ih (w:=w.freeze a n) h).trans ?_;unfold World.freeze;split<;>rfl
 | frozen a k ih=>intro w h;exact ih _ (h _)
 | getObj r k ih =>
  intro w h;simp only[qar];cases ho:w.heap[r]? with
  | none=>rfl
  | some o=>cases o<;>first | exact ih _ (h _) | rfl
 | setObj r o k ih =>
  intro w h;simp only[qar];cases ho:w.heap[r]? with
  | none=>rfl
  | some ob=>cases ob<;>first | exact ih (w:={ w with heap:=w.heap.setIfInBounds r o }) h | rfl
 | choose q k ih=>intro w h;exact h.elim
 | sys c k ih=>intro w h;exact h.elim
 | program k ih=>intro w h;exact ih _ (h _)
 | mark m k ih=>intro w h;exact ih h
 | halt x=>intro w h;rfl
end
end Go.Sim
end
section
namespace Go.Sim
section
variable[JunkSet]{Q P:q7m}{ρ:Ren}{base D:Nat}{wq w:q2v}
theorem Yu(t:q7x):Dry (qco t):=λp=>by
 show Dry (match p.underlying t with | some d=>pure d | none=>stuck "no such type");split<;>trivial
theorem q11(t:q7x):Dry (qd3 t):=λp=>by
 show Dry (match p.info? t with | some d=>pure d | none=>stuck "no such type");split<;>trivial
theorem Zi(a:qai):∀(n i:Nat) (Z:Array q4k),Dry (loadCellsFrom a i n Z):=by
 intro n;induction n with
 | zero=>intro i Z;trivial
 | succ n ih=>intro i Z;exact λv=>ih _ _
theorem q31(t:q7x)(a:qai):Dry (loadVar t a):=by
 refine Dry.bind (Dry.bind (Yu t) λd=>?_) λb=>?_
 ·split<;>trivial
 ·split
  ·exact Dry.bind (Dry.bind (q11 t) λi=>trivial) λn=>Dry.bind (Zi _ _ _ _) λ_=>trivial
  ·exact λv=>trivial
theorem q4r(v:q4k):Dry (asAddr v):=by
 unfold asAddr;split
 ·trivial
 ·exact λp=>trivial
 ·trivial
theorem J5(fn:Func)(t:Array q4k):Dry (results fn t):=by
 unfold results;refine Dry.bind ?_ λvs=>trivial;rw[qcC];have Z:∀rs:List ResultVar,Dry (rs.mapM fun
    | .tmp x=>pure (t.getD x q4D)
    | .cell a ty=>do loadVar ty (<- asAddr (t.getD a q4D))):=by
  intro rs;induction rs with
  | nil=>trivial
  | cons r rs ih =>
   rw[qdF];refine Dry.bind ?_ λv=>Dry.bind ih λvs=>trivial;cases r with
   | tmp x=>trivial
   | cell a ty=>exact Dry.bind (q4r _) λa=>q31 _ _
 exact Dry.bind (f:=λl=>pure l.toArray) (Z _) λl=>trivial
theorem xO(l:Nat):Dry (Instr.getLoop l):=λo=>by cases o<;>trivial
theorem q9y(b:Nat):Dry (Instr.takeDeferred b):=λo=>by
 cases o with
 | deferred c=>cases c<;>trivial
 | _=>trivial
theorem q12(l:Nat)(j:Option qbs):Dry (qc5 l j):=Dry.bind (xO l) λr=>trivial
theorem q32(l:Nat):Dry (Instr.endLoop l):=Dry.bind (xO l) λr=>by
 dsimp only;split
 ·exact Dry.bind (s:=qcv _) (λp=>trivial) λ_=>trivial
 ·trivial
theorem K5(f:qam)(t:Array q4k)(ps:Array Tmp)(a b:qbs)(r:Option Nat):Dry (qdA f t ps a b r):=by
 unfold qdA;cases r with
 | none=>exact λ_ _=>trivial
 | some l=>exact Dry.bind (xO l) λr _=>trivial
theorem q55{i j:Nat}(h:BR ρ i j):SR Q P (λσ=>LsR (yF σ)) (Instr.takeDeferred i) ρ (Instr.takeDeferred j):=by
 refine .bnd (jz h) λσ o o' l ho=>?_;cases ho with
 | deferred hl=>exact .bnd (jy (h.mono l) .deferredNone) λτ _ _ l' _=>qd (hl.imp λ_ _ k=>k.mono l')
 | _=>exact qf
theorem ZR{i j:Nat}(h:BR ρ i j){c:Option qbs}(hc:∀x,c=some x->JunkSet.okc x):SR Q P VR (qc5 i c) ρ (qc5 j c):=by
 refine .bnd (yd h) λσ r r' l hr=>.bnd (jy (h.mono l) (.loop ?_)) λτ _ _ _ _=>qd (.bool _);exact⟨rfl,rfl,hr.fn,hr.tmps,hr.params,hr.assign,hr.body,hr.defers,hr.okF,hr.okA,hr.okB,hc⟩
theorem Qj(H:Duo Q P)(hG:Gl P ρ){i j:Nat}(h:BR ρ i j):SR Q P (λ_ _ _=>True) (Instr.beginRound i) ρ (Instr.beginRound j):=by
 refine .bnd (yd h) λσ r r' l hr=>.bnd (jy (h.mono l) (.loop ⟨rfl,hr.pending,hr.fn,hr.tmps,hr.params,hr.assign,hr.body,hr.defers,hr.okF,hr.okA,hr.okB,hr.okP⟩)) λτ _ _ l' _=>?_;rw[hr.state];cases r.state with
 | ready=>exact qd trivial
 | _=>exact qx H.tables (hG.mono (l.trans l')) _
theorem JQ(H:Duo Q P)(hG:Gl P ρ){i j:Nat}(h:BR ρ i j):SR Q P (λ_ a b=>b=a/\∀x,a=some x->JunkSet.okc x) (Instr.endLoop i) ρ (Instr.endLoop j):=by
 refine .bnd (yd h) λσ r r' l hr=>?_;dsimp only;rw[hr.state];refine qC (λ_=>.bnd (R:=λ_ _ _=>False) (qx H.tables (hG.mono l) _) λ_ _ _ _ hf=>hf.elim) λ_=>?_;refine .bnd (jy (h.mono l) (.loop ⟨rfl,hr.pending,hr.fn,hr.tmps,hr.params,hr.assign,hr.body,hr.defers,hr.okF,hr.okA,hr.okB,hr.okP⟩)) λτ _ _ l' _=>?_;exact qd ⟨hr.pending,hr.okP⟩
theorem QX(f:qam)(hf:JunkSet.okg f){t t':Array q4k}(ht:AsR ρ t t')(ps:Array Tmp){a b:qbs}(ha:JunkSet.okc a)(hb:JunkSet.okc b){r r':Option Nat}(hr:OBR ρ r r') :
  SR Q P (λσ x y=>BR σ x.1 y.1/\LsR (yF σ) x.2 y.2) (qdA f t ps a b r) ρ (qdA f t' ps a b r'):=by
 unfold qdA;have fin:∀(σ:Ren) {d d':Nat} {m m':List qba},Le ρ σ->BR σ d d'->LsR (yF σ) m m'->SR Q P (λσ (x y:Nat × List qba)=>BR σ x.1 y.1/\LsR (yF σ) x.2 y.2)
   (do pure (<- newObj (.loop { state:=.ready,pending:=none,fn:=f,tmps:=t,params:=ps,assign:=a,body:=b,defers:=d }),m)) σ
   (do pure (<- newObj (.loop { state:=.ready,pending:=none,fn:=f,tmps:=t',params:=ps,assign:=a,body:=b,defers:=d' }),m')):=λσ d d' m m' l hd hm =>
  .bnd (JK (.loop ⟨rfl,rfl,rfl,ht.mono l,rfl,rfl,rfl,hd,hf,ha,hb,λx h=>by cases h⟩)) λτ i j l' hij=>qd ⟨hij,hm.imp λ_ _ k=>k.mono l'⟩
 rcases hr with⟨rfl,rfl⟩ | ⟨i,j,rfl,rfl,hb⟩
 ·exact .bnd (JK (.deferred .nil)) λσ i j l hij=>fin σ l hij (.cons (.mk (.collected hij) .nil) .nil)
 ·exact .bnd (yd hb) λσ x y l hxy=>fin σ l hxy.defers .nil
end
end Go.Sim
end
section
namespace Go.Sim
section
variable[JunkSet]{Q P:q7m}{ρ:Ren}{base D:Nat}{wq w:q2v}
theorem JR(H:Duo Q P)(hb:base<=ρ.length)(hw:WR Q base ρ wq w)(hG:Gl P ρ)(ht:zq D wq w)(b9:wq.drawn<=D){f f':q7n}(hf:qu Q P ρ f f'){cs cs':List q7n}(hcs:LsR (qu Q P ρ) cs cs')(b0:f.mode≠.run)(b:Bool) :
  kJ Q P base D ρ wq w (unwind Q true f cs none wq) (unwind P b f' cs' none w):=by
 have hfd:=hf.defers;unfold unwind;generalize d6:f.defers=ds at hfd;generalize d5:f'.defers=ds' at hfd;cases hfd with
 | @cons d d' ds ds' hd hds =>
  obtain⟨t,a⟩:=d;obtain⟨t',a'⟩:=d';have c3:qu Q P ρ { f with defers:=ds } { f' with defers:=ds' }:=⟨hf.fn,hf.same,hf.okf,hf.tmps,hf.todo,hds,hf.mode,hf.kind,hf.round⟩
  have plain:kJ Q P base D ρ wq w (qbd Q { f with defers:=ds } cs none ⟨t,a⟩ wq) (qbd P { f' with defers:=ds' } cs' none ⟨t',a'⟩ w) :=
   q0m H hb hw hG ht c3 hcs b0 hd
  rcases id hd with⟨a9,_⟩ | ⟨h1,_,n,c,h3⟩
  case bound =>
   dsimp only at h1 h3;subst h1;subst h3;exact plain
  dsimp only at a9;cases a9 with
  | @collected i j hij =>
   dsimp only;simp only[q9h];refine Z0 hb hw ht b9 (q55 hij) (Dry.run Q (q9y i)) (K:=λr=>match r with
    | .ok calls w=>.go { frame:={ f with defers:=calls++ds },callers:=cs,status:=.running,dying:=none } w
    | .halt _ w=>.ended (.stuck "the deferred calls of a range-over-func loop have been taken" (f.pos Q)) w) (K':=λr=>match r with
    | .ok calls w=>.go { frame:={ f' with defers:=calls++ds' },callers:=cs',status:=.running,dying:=none } w
    | .halt _ w=>.ended (.stuck "the deferred calls of a range-over-func loop have been taken" (f'.pos P)) w) (λh u g u' e _ hk _ _=>by cases hk) ?_
   intro σ r wq1 r' w1 hr l hb1 a7 ht1 _;cases hr with
   | ok wq1 w1 hcl =>
    have Z:=hf.mono l;exact zd a7 ht1 λ_ _=>⟨⟨Z.fn,Z.same,Z.okf,Z.tmps,Z.todo,hcl.append (hds.imp λ_ _ k=>k.mono l),Z.mode,Z.kind,Z.round⟩,hcs.imp λ_ _ k=>k.mono l,rfl,rfl,rfl,rfl⟩
   | panic wq1 w1 hv=>exact zt
  | fn h1 h2=>exact plain
  | meth n h=>exact plain
  | nil=>exact plain
  | builtin x y z c h=>exact plain
 | nil =>
  dsimp only;have hm:=hf.mode;obtain⟨gf,b6,b7⟩:=hf.same;generalize hmm:f.mode=m at hm;generalize c9:f'.mode=m' at hm;cases hm with
  | run=>exact zt
  | panicking hl =>
   dsimp only;have b8:f.catches Q=false:=by unfold Frame.catches;rw[b6]
   have a8:f'.catches P=false:=by unfold Frame.catches;rw[hf.fn,b7]
   rw[b8,a8];simp only[q9g,if_false];cases hcs with
   | cons hc hcs=>exact zd hw ht λ_ _=>⟨hc.raise hl,hcs,rfl,rfl,rfl,rfl⟩
   | nil =>
    intro gq' wq' esq a6 hD hst c8;exfalso;dsimp only at a6
    repeat' split at a6
    all_goals first
     | (cases a6;done)
     | (cases a6;cases hst;done)
     | (cases a6;cases c8;done)
  | returning =>
   dsimp only;rw[hf.fn,b6,b7];dsimp only;simp only[q9h];refine Z0 hb hw ht b9 (Qz H hG gf hf.tmps) (Dry.run Q (J5 gf _)) (K:=λr=>match r with
    | .ok v w=>qbh Q true f cs none v w
    | .halt (.stuck s) w=>.ended (.stuck s (f.pos Q)) w
    | .halt _ w=>.ended (.stuck "return: the result variables cannot be read" (f.pos Q)) w) (K':=λr=>match r with
    | .ok v w=>qbh P b f' cs' none v w
    | .halt (.stuck s) w=>.ended (.stuck s (f'.pos P)) w
    | .halt _ w=>.ended (.stuck "return: the result variables cannot be read" (f'.pos P)) w) (λh u g u' e _ hk _ _=>by cases h<;>cases hk) ?_
   intro σ r wq1 r' w1 hr l hb1 a7 ht1 _;cases hr with
   | ok wq1 w1 hv=>exact Z1 a7 ht1 (hf.mono l) (hcs.imp λ_ _ k=>k.mono l) hv b
   | panic wq1 w1 hv=>exact zt
def Yf:Option qbs->Bool
 | none | some .ret=>true
 | _=>false
theorem xZ(H:Duo Q P)(hb:base<=ρ.length)(hw:WR Q base ρ wq w)(ht:zq D wq w)(a6:wq.drawn<=D){f f':q7n}(hf:qu Q P ρ f f'){cs cs':List q7n}(hcs:LsR (qu Q P ρ) cs cs')(b:Bool)
  {j:Option qbs} (hj:∀x,j=some x->qz Q x) {s s':String} :
  kJ Q P base D ρ wq w (match f.roundOf with
   | none=>if Yf j=true then .go { frame:={ f with mode:=.returning },callers:=cs,status:=.running,dying:=none } wq else .ended (.stuck s (f.pos Q)) wq
   | some l =>
    let (r,es):=(qc5 l j).runT Q wq #[]
    qan (seen Q f.fn es) <| match r with
    | .ok v w=>qbh Q true f cs none v w
    | .halt _ w=>.ended (.stuck s' (f.pos Q)) w) (match f'.roundOf with
   | none=>if Yf j=true then .go { frame:={ f' with mode:=.returning },callers:=cs',status:=.running,dying:=none } w else .ended (.stuck s (f'.pos P)) w
   | some l =>
    let (r,es):=(qc5 l j).runT P w #[]
    qan (seen P f'.fn es) <| match r with
    | .ok v w=>qbh P b f' cs' none v w
    | .halt _ w=>.ended (.stuck s' (f'.pos P)) w):=by
 rcases hf.round with⟨r1,r2⟩ | ⟨i,k,r1,r2,hik⟩
 ·rw[r1,r2]
  dsimp only;by_cases hc:Yf j=true
  ·rw[if_pos hc,if_pos hc]
   exact zd hw ht λ_ _=>⟨⟨hf.fn,hf.same,hf.okf,hf.tmps,hf.todo,hf.defers,.returning,hf.kind,.inl ⟨rfl,rfl⟩⟩,hcs,rfl,rfl,rfl,rfl⟩
  ·rw[if_neg hc,if_neg hc]
   exact zt
 ·rw[r1,r2]
  dsimp only;simp only[q9h];refine Z0 hb hw ht a6 (ZR hik λx hx=>(H.codes x).2 (hj x hx)) (Dry.run Q (q12 i j)) (K:=λr=>match r with
    | .ok v w=>qbh Q true f cs none v w
    | .halt _ w=>.ended (.stuck s' (f.pos Q)) w) (K':=λr=>match r with
    | .ok v w=>qbh P b f' cs' none v w
    | .halt _ w=>.ended (.stuck s' (f'.pos P)) w) (λh u g u' e _ hk _ _=>by cases hk) ?_
  intro σ r wq1 r' w1 hr l hb1 Z ht1 _;cases hr with
  | ok wq1 w1 hv=>exact Z1 Z ht1 (hf.mono l) (hcs.imp λ_ _ k=>k.mono l) hv b
  | panic wq1 w1 hv=>exact zt
theorem qu.withTodo{f f':q7n}(hf:qu Q P ρ f f'){k k':List qcG}(hk:LsR (zh Q ρ) k k'):qu Q P ρ { f with todo:=k } { f' with todo:=k' } :=
 ⟨hf.fn,hf.same,hf.okf,hf.tmps,hk,hf.defers,hf.mode,hf.kind,hf.round⟩
theorem x9{i j:Nat}(h:BR ρ i j){d d':qba}(hd:yF ρ d d'):SR Q P (λ_ _ _=>True) (Instr.deferInRound i d) ρ (Instr.deferInRound j d'):=by
 refine .bnd (yd h) λσ r r' l hr=>?_;refine .bnd (jz hr.defers) λτ o o' l' ho=>?_;cases ho with
 | deferred hl=>exact(jy (hr.defers.mono l') (.deferred (.cons (hd.mono (l.trans l')) hl))).imp λ_ _ _ _ _=>trivial
 | deferredNone=>exact q88
 | _=>exact qf
theorem ZA(p:q7m)(u:q2v)(f i:Nat):(choose (.order f i)).run p u=.ok (u.tape u.drawn (.order f i)) { u with drawn:=u.drawn+1 }:=rfl
theorem q8n(H:Duo Q P)(hb:base<=ρ.length)(hw:WR Q base ρ wq w)(hG:Gl P ρ)(ht:zq D wq w)(b8:wq.drawn<=D){f f':q7n}(hf:qu Q P ρ f f'){cs cs':List q7n}(hcs:LsR (qu Q P ρ) cs cs')(b:Bool) :
  kJ Q P base D ρ wq w (qcg Q true true f cs none wq) (qcg P b true f' cs' none w):=by
 obtain⟨fn,tmps,todo,defers,mode,kind,ro⟩:=f;obtain⟨a9,a6,d5,Z,a7,a8,b7⟩:=f';have e4:=hf.todo;have c8:∀x,qF Q x->VR ρ (Frame.eval ⟨fn,tmps,todo,defers,mode,kind,ro⟩ x) (Frame.eval ⟨a9,a6,d5,Z,a7,a8,b7⟩ x):=λx hx=>hf.eval hG H.gsize hx;have b0:∀{k k':List qcG},LsR (zh Q ρ) k k'->kJ Q P base D ρ wq w (.go { frame:=⟨fn,tmps,k,defers,mode,kind,ro⟩,callers:=cs,status:=.running,dying:=none } wq) (.go { frame:=⟨a9,a6,k',Z,a7,a8,b7⟩,callers:=cs',status:=.running,dying:=none } w) :=
  λhk=>zd hw ht λ_ _=>⟨hf.withTodo hk,hcs,rfl,rfl,rfl,rfl⟩
 unfold qcg;dsimp only;dsimp only at e4;cases e4 with
 | nil=>exact xZ H hb hw ht b8 hf hcs b (j:=none) (λx h=>by cases h)
 | @cons x x' k k' hx hk =>
  cases hx with
  | @code c hc =>
   cases hc with
   | skip=>exact b0 hk
   | label n=>exact b0 hk
   | ret=>exact xZ H hb hw ht b8 hf hcs b (j:=some .ret) (λx h=>by cases h;exact .ret)
   | seq h1 h2=>exact b0 (.cons (.code h1) (.cons (.code h2) hk))
   | @cond c x y h0 h1 h2 =>
    dsimp only;have:=c8 _ h0;revert this;generalize Frame.eval _ c=v;generalize Frame.eval _ c=v';intro this;cases this with
    | bool t=>cases t<;>exact b0 (.cons (.code (by assumption)) hk)
    | _=>exact zt
   | block h=>exact b0 (.cons (.code h) (.cons (.inBlock _) hk))
   | loop h=>exact b0 (.cons (.code h) (.cons (.inLoop h) hk))
   | scope h=>exact b0 (.cons (.code h) (.cons (.inScope h) hk))
   | exit id =>
    dsimp only;rcases q4o (id:=id) hk with⟨e1,e2⟩ | ⟨m,m',e1,e2,hm⟩
    ·rw[e1,e2]
     exact xZ H hb hw ht b8 hf hcs b (j:=some (.exit id)) (λx h=>by cases h;exact .exit id)
    ·rw[e1,e2]
     exact b0 hm
   | goto n =>
    dsimp only;rcases q4j (j:=n) hk with⟨e1,e2⟩ | ⟨m,m',e1,e2,hm⟩
    ·rw[e1,e2]
     exact xZ H hb hw ht b8 hf hcs b (j:=some (.goto n)) (λx h=>by cases h;exact .goto n)
    ·rw[e1,e2]
     exact b0 hm
   | @region id ops d hops =>
    dsimp only;cases d with
    | false=>exact b0 (.cons (.inRegion _ hops) hk)
    | true =>
     simp only[Bool.not_true,q9g,if_false];rw[ZA,ZA];dsimp only;intro gq' wq' esq e hD hst g5;cases e;have hfn:=hf.fn;dsimp only at hfn hD;subst hfn;have d7:=ht 0 (.order a9 id) (by omega);simp only[Nat.add_zero] at d7;have e7:P.follows .mixedOrders=Q.follows .mixedOrders:=by
      show P.toTables.follows .mixedOrders=Q.toTables.follows .mixedOrders;rw[H.tables]
     obtain⟨e6,e9⟩:=hw.draw;refine⟨ρ,_,_,#[],rfl,.k ⟨?_,hcs,rfl,rfl,rfl,rfl⟩,e6,trivial,e9,by simp,trivial,by simp only;omega⟩;rw[e7,d7];exact hf.withTodo (.cons (.inRegion _ hops) hk)
   | @rangeFunc c ps a bd h0 h1 h2 =>
    have hfn:=hf.fn;dsimp only at hfn ⊢;subst hfn;simp only[q9h];refine Z0 hb hw ht b8 (QX (Q:=Q) (P:=P) a9 ((H.same a9).2 ⟨hf.same,hf.okf⟩) hf.tmps ps ((H.codes a).2 h1) ((H.codes bd).2 h2) hf.round) (Dry.run Q (K5 a9 tmps ps a bd ro)) (K:=λr=>match r with
     | .ok (l,mark) w=>qaw Q true ⟨a9,tmps,.inRangeFunc l::k,mark++defers,mode,kind,ro⟩ cs none (do let d <- resolve (Frame.eval ⟨a9,tmps,.inRangeFunc l::k,mark++defers,mode,kind,ro⟩) { callee:=.value c,args:=#[.const (.func (.yield l) #[] #[])],argTypes:=#[] } 0;invoke d.target d.args) w
     | .halt _ w=>.ended (.stuck "range over a function: no such loop" (Frame.pos Q ⟨a9,tmps,.code (.rangeFunc c ps a bd)::k,defers,mode,kind,ro⟩)) w) (K':=λr=>match r with
     | .ok (l,mark) w=>qaw P true ⟨a9,a6,.inRangeFunc l::k',mark++Z,a7,a8,b7⟩ cs' none (do let d <- resolve (Frame.eval ⟨a9,a6,.inRangeFunc l::k',mark++Z,a7,a8,b7⟩) { callee:=.value c,args:=#[.const (.func (.yield l) #[] #[])],argTypes:=#[] } 0;invoke d.target d.args) w
     | .halt _ w=>.ended (.stuck "range over a function: no such loop" (Frame.pos P ⟨a9,a6,.code (.rangeFunc c ps a bd)::k',Z,a7,a8,b7⟩)) w) (λh u g u' e ho hk _ _=>by cases hk) ?_
    intro σ r wq1 r' w1 hr l hb1 c3 ht1 _;cases hr with
    | panic wq1 w1 hv=>exact zt
    | @ok x y wq1 w1 hv =>
     obtain⟨i,m⟩:=x;obtain⟨i',m'⟩:=y;obtain⟨hbr,hm⟩:=hv;dsimp only at hbr hm ⊢;have b6:=hf.mono l;have e8:qu Q P σ ⟨a9,tmps,.inRangeFunc i::k,m++defers,mode,kind,ro⟩ ⟨a9,a6,.inRangeFunc i'::k',m'++Z,a7,a8,b7⟩ :=
      ⟨b6.fn,b6.same,b6.okf,b6.tmps,.cons (.inRangeFunc hbr) (hk.imp λ_ _ k=>k.mono l),hm.append b6.defers,b6.mode,b6.kind,b6.round⟩
     refine Q0 H hb1 c3 ht1 e8 (hcs.imp λ_ _ k=>k.mono l) (by intro x l h;cases h) (SR.sm ?_);have hy:AsR σ #[Value.func (Fn.yield i) #[] #[]] #[Value.func (Fn.yield i') #[] #[]] :=
      AsR.one (.func (a:=#[]) (a':=#[]) (c:=#[]) (c':=#[]) (.yield hbr) rfl (λi x y hx=>by simp at hx) rfl (λi x y hx=>by simp at hx))
     have d8:∀(e:qa4->q4k) (v:q4k),#[Operand.const v].map e=#[e (.const v)]:=λe v=>by simp
     refine .bnd (R:=yF) (QA H.toPair ((c8 _ h0).mono l) (by rw[d8,d8];exact hy)) λτ d d' l' hd=>kZ H.toPair (hG.mono (l.trans l')) hd
  | inBlock id=>exact b0 hk
  | inScope h=>exact b0 hk
  | inLoop h=>exact b0 (.cons (.code h) (.cons (.inLoop h) hk))
  | @inRegion ops l hops =>
   cases l with
   | nil=>exact b0 hk
   | cons i l =>
    dsimp only;have e5:yielded ops a6=yielded ops tmps:=funext λj=>q3i ops hf.tmps j;rw[e5];by_cases hc:((ops[i]?).map (qac · (yielded ops tmps))).getD false=true
    ·rw[if_pos hc,if_pos hc]
     unfold stepG.oper Frame.oper?;dsimp only;cases ho:ops[i]? with
     | none=>exact zt
     | some o =>
      dsimp only;have hok:=hops o (by rw[qbw];exact qaF ho);have plain:=Q0 H hb hw ht hf hcs (by intro x l h;cases h) (Ky H.toPair c8 hG hw.nodup (λv=>rfl) hok);rcases hf.round with⟨r1,r2⟩ | ⟨a,b',r1,r2,hij⟩
      ·dsimp only at r1 r2
       subst r1;subst r2;exact plain
      ·dsimp only at r1 r2
       subst r1;subst r2;by_cases b9:∃c,o.op=.defer c
       ·obtain⟨c,b9⟩:=b9
        rw[b9] at hok ⊢;dsimp only;refine Q0 H hb hw ht hf hcs (by intro x l h;cases h) (SR.sm ?_);cases hok with
        | defer hcall =>
         exact .bnd (vF H.toPair c8 hcall _) λσ d d' l hd=>.bnd (x9 (hij.mono l) hd) λτ _ _ _ _=>qd .skip
       ·split
        ·rename_i e1 e2
         exact absurd ⟨_,e2⟩ b9
        ·split
         ·rename_i e1 e2
          exact absurd ⟨_,e2⟩ b9
         ·exact plain
    ·rw[if_neg hc,if_neg hc]
     exact zd hw ht λ_ _=>⟨hf.finish (yV ρ),hcs,rfl,rfl,rfl,rfl⟩
  | inRangeFunc h=>exact zt
  | @endRangeFunc i j h =>
   dsimp only;simp only[q9h];refine Z0 hb hw ht b8 (JQ H hG h) (Dry.run Q (q32 i)) (K:=λr=>match r with
    | .ok jump w=>.go { frame:=⟨fn,tmps,(jump.map Item.code).toList++k,defers,mode,kind,ro⟩,callers:=cs,status:=.running,dying:=none } w
    | .halt (.panic v) w=>.go { frame:=Frame.raise ⟨fn,tmps,.endRangeFunc i::k,defers,mode,kind,ro⟩ [{ v,recovered:=false }],callers:=cs,status:=.running,dying:=none } w
    | .halt _ w=>.ended (.stuck "range over a function: no such loop" (Frame.pos Q ⟨fn,tmps,.endRangeFunc i::k,defers,mode,kind,ro⟩)) w) (K':=λr=>match r with
    | .ok jump w=>.go { frame:=⟨a9,a6,(jump.map Item.code).toList++k',Z,a7,a8,b7⟩,callers:=cs',status:=.running,dying:=none } w
    | .halt (.panic v) w=>.go { frame:=Frame.raise ⟨a9,a6,.endRangeFunc j::k',Z,a7,a8,b7⟩ [{ v,recovered:=false }],callers:=cs',status:=.running,dying:=none } w
    | .halt _ w=>.ended (.stuck "range over a function: no such loop" (Frame.pos P ⟨a9,a6,.endRangeFunc j::k',Z,a7,a8,b7⟩)) w) (λh u g u' e ho hk _ _=>by cases h<;>first | (cases ho;done) | cases hk) ?_
   intro σ r wq1 r' w1 hr l hb1 c3 ht1 _;have b6:=hf.mono l;have c9:=hcs.imp λ_ _ k=>qu.mono l k;have d9:=hk.imp λ_ _ k=>zh.mono l k;cases hr with
   | @ok jump jump' wq1 w1 hv =>
    obtain⟨hj,d6⟩:=hv;subst hj;refine zd c3 ht1 λ_ _=>⟨b6.withTodo ?_,c9,rfl,rfl,rfl,rfl⟩
    cases jump' with
    | none=>exact d9
    | some c=>exact .cons (.code ((H.codes c).1 (d6 c rfl))) d9
   | panic wq1 w1 hv=>exact zd c3 ht1 λ_ _=>⟨b6.raise (.cons ⟨hv,rfl,rfl⟩ .nil),c9,rfl,rfl,rfl,rfl⟩
  | beginRound =>
   dsimp only;refine Q0 H hb hw ht hf hcs (by intro x l h;cases h) (SR.sm ?_);refine .bnd (R:=λ_ _ _=>True) ?_ λσ _ _ _ _=>qd .skip;rcases hf.round with⟨r1,r2⟩ | ⟨i,j,r1,r2,hij⟩
   ·dsimp only at r1 r2
    rw[r1,r2];exact qf
   ·dsimp only at r1 r2
    rw[r1,r2];exact Qj H hG hij
theorem Kz(H:Duo Q P)(hb:base<=ρ.length)(hw:WR Q base ρ wq w)(hG:Gl P ρ)(ht:zq D wq w)(Z:wq.drawn<=D){g g':q4y}(hg:kw Q P ρ g g')(b:Bool) :
  kJ Q P base D ρ wq w (qag Q true g wq true) (qag P b g' w true):=by
 obtain⟨fr,cs,st,dy,off⟩:=g;obtain⟨a6,cs',st',dy',a7⟩:=g';obtain⟨h1,h2,h3,h4,h5,h6⟩:=hg;dsimp only at h1 h2 h3 h4 h5 h6;subst h5;subst h6;have hm:=h1.mode;unfold qag;dsimp only;generalize hmm:fr.mode=m at hm;generalize a8:a6.mode=m' at hm;cases hm with
 | run=>exact q8n H hb hw hG ht Z h1 h2 b
 | returning=>exact JR H hb hw hG ht Z h1 h2 (by rw[hmm];simp) b
 | panicking hl=>exact JR H hb hw hG ht Z h1 h2 (by rw[hmm];simp) b
theorem q8m(H:Duo Q P)(hb:base<=ρ.length)(hw:WR Q base ρ wq w)(hG:Gl P ρ)(ht:zq D wq w)(a6:wq.drawn<=D){g g':q4y}(hg:kw Q P ρ g g')(b:Bool) :
  ∀gq' wq' esq,qag Q true g wq true=.go gq' wq' esq->wq'.drawn<=D->gq'.status=.running->gq'.dying=none->Q.funcs[gq'.frame.fn]?=P.funcs[gq'.frame.fn]? ->
  ∃σ g'' w' es,qag P b g' w true=.go g'' w' es/\kw Q P σ gq' g''/\WR Q base σ wq' w'/\True/\Eff base ρ σ w w'/\(∀e∈es,kz base σ e)/\True/\wq.drawn<=wq'.drawn:=by
 intro gq' wq' esq e hD hs hd Z;obtain⟨σ,g'',w',es,h1,h2,h3⟩:=Kz H hb hw hG ht a6 hg b gq' wq' esq e hD hs hd;refine⟨σ,g'',w',es,h1,?_,h3⟩;rcases h2 with⟨_,h⟩ | ⟨f,k,a,a',c,c',cs,cs',hne,_,rfl,_⟩
 ·exact h
 ·exact absurd Z hne
end
end Go.Sim
end
section
namespace Go
def World.tp(w:q2v)(T:Nat->qbe->Nat):q2v:={ w with tape:=T }
end Go
namespace Go.Sim
def tpR{α:Type}(T:Nat->qbe->Nat):qd7 α->qd7 α
 | .ok a w=>.ok a (w.tp T)
 | .halt h w=>.halt h (w.tp T)
def q5C(T:Nat->qbe->Nat)(w:q2v)(n:Nat):Prop:=∀k q,w.drawn<=k->k<n->T k q=w.tape k q
def Knows{α:Type}(Q:q7m)(s:Sem α)(w:q2v):Prop :=
 (rwR (s.run Q w)).tape=w.tape/\∀T,q5C T w (rwR (s.run Q w)).drawn->s.run Q (w.tp T)=tpR T (s.run Q w)
section
variable[JunkSet]{Q P:q7m}{base:Nat}
theorem SR.knows{α β:Type}{R:Rel α β}{s:Sem α}:∀{ρ:Ren} {s':Sem β} {wq w:q2v},SR Q P R s ρ s'->base<=ρ.length->WR Q base ρ wq w->vC (s.run Q wq)->Knows Q s wq:=by
 induction s with
 | pure a=>intro ρ s' wq w h hb hw hf;exact⟨rfl,λT _=>rfl⟩
 | load m a k ih =>
  intro ρ s' wq w h hb hw hf;rcases h with hbad | ⟨rfl,j,k',rfl,hbr,hk⟩
  ·exact absurd hf (Bad.not_fine hw.nopend hbad)
  have e0:∀T,(wq.tp T).cell? a=wq.cell? a:=λT=>rfl;unfold Knows;simp only[qar,e0] at hf ⊢;cases hc:wq.cell? a with
  | none =>
   rw[hc] at hf;simp only[World.farLoad] at hf;split at hf
   ·rename_i hv
    split at hv
    ·rename_i a6
     exact absurd a6 (hw.noview hbr _ _)
    ·cases hv
   ·rename_i hv
    split at hv
    ·rename_i a6
     exact absurd a6 (hw.noview hbr _ _)
    ·cases hv
     exact absurd hf (jC hw.nopend _ _ _)
  | some v =>
   obtain⟨v',a6,hr⟩:=hw.cell hbr hc;rw[hc] at hf;exact ih v (hk v v' hr) hb hw hf
 | store m a v k ih =>
  intro ρ s' wq w h hb hw hf;rcases h with hbad | ⟨rfl,j,v',k',rfl,hbr,hv,hk⟩
  ·exact absurd hf (Bad.not_fine hw.nopend (s:=.store m a v k) hbad)
  have b0:(∃x,v=.agg x)\/(∃x,v=.tuple x)\/((∀x,v≠.agg x)/\∀x,v≠.tuple x):=by
   cases v<;>simp
  rcases b0 with⟨x,rfl⟩ | ⟨x,rfl⟩ | ⟨hna,hnt⟩
  ·simp only[qar] at hf
   exact absurd hf (λh=>by cases h)
  ·simp only[qar] at hf
   exact absurd hf (λh=>by cases h)
  ·have e1:∀u:q2v,(Sem.store .plain a v k).run Q u=match u.cell? a with
     | some _=>if u.frozen? a then .halt (.unsupported (.unsafePointer "a write to bytes that a string shares")) u else k.run Q (u.setCell a v)
     | none=>match u.farStore Q a v false with
      | .ok (w,_)=>k.run Q w
      | .error h=>.halt h u:=λu=>by
    cases v<;>first | rfl | exact absurd rfl (hna _) | exact absurd rfl (hnt _)
   have e0:∀T,(wq.tp T).cell? a=wq.cell? a:=λT=>rfl;have e2:∀T,(wq.tp T).frozen? a=wq.frozen? a:=λT=>rfl;unfold Knows;simp only[e1,e0,e2] at hf ⊢;cases hc:wq.cell? a with
   | none =>
    rw[hc] at hf;simp only[qdr] at hf;split at hf
    ·rename_i hv
     split at hv
     ·rename_i a6
      exact absurd a6 (hw.noview hbr _ _)
     ·cases hv
    ·rename_i hv
     split at hv
     ·rename_i a6
      exact absurd a6 (hw.noview hbr _ _)
     ·cases hv
      exact absurd hf (jC hw.nopend _ _ _)
   | some u =>
    rw[hc] at hf;cases hfz:wq.frozen? a with
    | true =>
     simp only[hfz,if_true] at hf;exact absurd hf (λh=>by cases h)
    | false =>
     obtain⟨hbase,b7,a7,a9⟩:=hw.set hbr hc hfz hv;simp only[hfz,q9g,if_false] at hf ⊢;exact ih hk hb a7 hf
 | new o k ih =>
  intro ρ s' wq w h hb hw hf;rcases h with hbad | ⟨o',k',rfl,ho,hk⟩
  ·exact absurd hf (Bad.not_fine hw.nopend (s:=.new o k) hbad)
  obtain⟨a7,a9⟩:=hw.newO hb ho;have hk':=hk w.heap.size (λi hi=>qdl _ (hw.lt i _ hi));rw[hw.len] at hk';exact ih _ hk' (by simp;omega) a7 hf
 | shape r k ih =>
  intro ρ s' wq w h hb hw hf;rcases h with hbad | ⟨j,k',rfl,hbr,hk⟩
  ·exact absurd hf (Bad.not_fine hw.nopend (s:=.shape r k) hbad)
  exact ih _ (hk _ _ (hw.shape hbr)) hb hw hf
 | freeze a n k _=>intro ρ s' wq w h hb hw hf;exact absurd hf (Bad.not_fine hw.nopend (s:=.freeze a n k) h)
 | frozen a k _=>intro ρ s' wq w h hb hw hf;exact absurd hf (Bad.not_fine hw.nopend (s:=.frozen a k) h)
 | getObj r k ih =>
  intro ρ s' wq w h hb hw hf;rcases h with hbad | ⟨j,k',rfl,hbr,hk⟩
  ·exact absurd hf (Bad.not_fine hw.nopend (s:=.getObj r k) hbad)
  cases ho:wq.heap[r]? with
  | none=>simp only[qar,ho] at hf;exact absurd hf (λh=>by cases h)
  | some o =>
   by_cases Z:∃c e f,o=.cells c e f
   ·obtain⟨c,e,f,rfl⟩:=Z
    simp only[qar,ho] at hf;exact absurd hf (λh=>by cases h)
   ·have hnc:∀c e f,o≠.cells c e f:=λc e f x=>Z ⟨c,e,f,x⟩
    rcases hw.obj _ _ _ hbr ho with⟨_,hj,_⟩ | ⟨_,o',ho',hr⟩
    ·exact absurd hj (hnc _ _ _)
    ·rw[yf ho hnc] at hf
     have a8:∀T,(wq.tp T).heap[r]?=some o:=λT=>ho;unfold Knows;simp only[yf ho hnc,yf (a8 _) hnc];exact ih o (hk _ _ hr) hb hw hf
 | setObj r o k ih =>
  intro ρ s' wq w h hb hw hf;rcases h with hbad | ⟨j,o',k',rfl,hbr,hor,hk⟩
  ·exact absurd hf (Bad.not_fine hw.nopend (s:=.setObj r o k) hbad)
  cases ho:wq.heap[r]? with
  | none=>simp only[qar,ho] at hf;exact absurd hf (λh=>by cases h)
  | some ob =>
   by_cases Z:∃c e f,ob=.cells c e f
   ·obtain⟨c,e,f,rfl⟩:=Z
    simp only[qar,ho] at hf;exact absurd hf (λh=>by cases h)
   ·have hnc:∀c e f,ob≠.cells c e f:=λc e f x=>Z ⟨c,e,f,x⟩
    obtain⟨hbase,⟨b8,b6,hr⟩,a7,a9⟩:=hw.setO hbr ho hnc hor;rw[ye ho hnc] at hf;have a8:∀T,(wq.tp T).heap[r]?=some ob:=λT=>ho;unfold Knows;simp only[ye ho hnc,ye (a8 _) hnc];exact ih hk hb a7 hf
 | choose q k ih =>
  intro ρ s' wq w h hb hw hf;rcases h with hbad | ⟨k',rfl,hk⟩
  ·exact absurd hf (Bad.not_fine hw.nopend (s:=.choose q k) hbad)
  unfold Knows;simp only[qar] at hf ⊢;cases hq:q.forced with
  | true =>
   rw[hq] at hf;simp only[if_true] at hf ⊢;exact ih _ (hk _) hb hw hf
  | false =>
   rw[hq] at hf;simp only[q9g,if_false] at hf ⊢;obtain⟨a7,a9⟩:=hw.draw;obtain⟨h1,h2⟩:=ih _ (hk _) hb a7 hf;refine⟨h1,λT hT=>?_⟩;have:=vg Q (k (q.cut (wq.tape wq.drawn q))) { wq with drawn:=wq.drawn+1 };have e:(wq.tp T).tape (wq.tp T).drawn q=wq.tape wq.drawn q:=hT _ q (q4u _) (by simp only at this;exact q7u (Nat.lt_succ_self _) this);rw[e];exact h2 T λn q hn=>hT n q (by simp only at hn;omega)
 | sys c k ih =>
  intro ρ s' wq w h hb hw hf;rcases h with hbad | ⟨rfl,k',rfl,hk⟩
  ·exact absurd hf (Bad.not_fine hw.nopend (s:=.sys c k) hbad)
  have e1:∀u:q2v,u.sys .env=(.strings u.os.env,u):=λu=>rfl;unfold Knows;simp only[qar,e1] at hf ⊢;exact ih _ (hk _) hb hw hf
 | program k ih =>
  intro ρ s' wq w h hb hw hf;rcases h with hbad | ⟨k',rfl,hk⟩
  ·exact absurd hf (Bad.not_fine hw.nopend (s:=.program k) hbad)
  exact ih _ hk hb hw hf
 | mark m k ih =>
  intro ρ s' wq w h hb hw hf;rcases h with hbad | ⟨rfl,k',rfl,hk⟩
  ·exact absurd hf (Bad.not_fine hw.nopend (s:=.mark m k) hbad)
  exact ih hk hb hw hf
 | halt x=>intro ρ s' wq w h hb hw hf;exact⟨rfl,λT _=>rfl⟩
end
end Go.Sim
end
section
namespace Go.Sim
section
variable[JunkSet]{Q P:q7m}{ρ:Ren}{base:Nat}{wq w:q2v}
theorem Zc(hT:P.toTables=Q.toTables)(hG:Gl P ρ)(hb:base<=ρ.length)(hw:WR Q base ρ wq w){t:q7x}(hB:Ya Q t=true){m m' k k' v v':q4k}(hm:VR ρ m m')(hk:VR ρ k k')(hv:VR ρ v v')
  (hf:vC ((qb4 t m k v).run Q wq)):Knows Q (qb4 t m k v) wq:=by
 rcases q2g (k':=k') (v':=v') hT hG hw hm hf with h | ⟨r,j,kt,et,es,es',clock,rfl,rfl,hbr,hu,hq,hp,he⟩
 ·exact h.knows hb hw hf
 ·have r1:=λT=>(yu (P:=Q) (t:=t) (k:=k) (v:=v) (w:=wq.tp T) hu hq).1
  have r0:=(yu (P:=Q) (t:=t) (k:=k) (v:=v) hu hq).1;have:=(Ks hT hG (q2i hB hu) hk hv hbr he clock 0).knows hb hw (by rw[<- r0];exact hf);unfold Knows at this ⊢;rw[r0];exact⟨this.1,λT hT=>by rw[r1 T];exact this.2 T hT⟩
theorem kn_u{s:Sem Unit}(h:Knows Q s wq):Knows Q (do s;pure Next.skip:Sem qdb) wq:=by
 have e1:∀(u:q2v),((do s;pure Next.skip:Sem qdb)).run Q u=match s.run Q u with | .ok _ u'=>.ok .skip u' | .halt h u'=>.halt h u':=λu=>by
  rw[qb1];cases s.run Q u<;>rfl
 unfold Knows at h ⊢;rw[e1];refine⟨?_,λT hT=>?_⟩
 ·have:=h.1
  cases hx:s.run Q wq<;>(rw[hx] at this;exact this)
 ·rw[e1,h.2 T]
  ·cases hx:s.run Q wq<;>rfl
  ·cases hx:s.run Q wq<;>(rw[hx] at hT;exact hT)
end
end Go.Sim
end
section
namespace Go.Sim
def Live(g:q4y):Prop:=g.status=.running/\g.dying=none
def Dead(g:q4y):Prop:=g.status=.blocked\/g.status=.waiting\/g.status=.finished\/(g.status=.running/\∃d,g.dying=some d/\d.calling=false/\d.fatal.isSome=true)
def Flat(cs:List q7n):qby->Prop
 | .go g _ _=>Live g\/Dead g\/cs=[]
 | .ended ..=>True
 | _=>False
theorem flx{p:Prop}(h:p:=by first | exact trivial | exact .inl ⟨rfl,rfl⟩ | exact .inr (.inl (.inl rfl)) | exact .inr (.inl (.inr (.inl rfl))) | exact .inr (.inl (.inr (.inr (.inl rfl)))) | exact .inr (.inl (.inr (.inr (.inr ⟨rfl,_,rfl,rfl,rfl⟩)))) | exact .inr (.inr rfl)):p:=h
structure One(cs:List q7n)(wq:q2v)(r:q2v->qby):Prop where
 flat:Flat cs (r wq)
 go:∀g' w' es,r wq=.go g' w' es->g'.status=.running->g'.dying=none->w'.tape=wq.tape/\wq.drawn<=w'.drawn/\∀T,q5C T wq w'.drawn->∃es',r (wq.tp T)=.go g' (w'.tp T) es'
theorem QO{cs:List q7n}{es:Array qaz}{s:qby}(h:Flat cs s):Flat cs (qan es s):=by
 cases s<;>first | exact h | exact h.elim
theorem Yn{p:q7m}{fr:q7n}{cs:List q7n}{dy:Option Dying}{m:String}{u:q2v}:Flat cs (endFatal p fr cs dy m u):=by
 unfold endFatal;dsimp only;generalize (qar p _ u:qd7 (List (ByteArray × String) × List ByteArray))=r;cases r with
 | ok a w1=>obtain⟨t,Z⟩:=a;exact flx
 | halt x w1=>cases x<;>exact flx
section
variable[JunkSet]{Q P:q7m}{ρ:Ren}{base:Nat}{wq w:q2v}
theorem yk{cs:List q7n}{r:q2v->qby}(h:∃o u es,r wq=.ended o u es):One cs wq r:=by
 obtain⟨o,u,es,e⟩:=h;exact⟨by rw[e];trivial,λg' w' es' h _ _=>by rw[e] at h;cases h⟩
theorem SR.tri{α β:Type}{R:Rel α β}{s:Sem α}{s':Sem β}(hs:SR Q P R s ρ s')(hb:base<=ρ.length)(hw:WR Q base ρ wq w) :
  (Knows Q s wq/\((∃a u,s.run Q wq=.ok a u/\∃σ b w1,R σ a b/\Le ρ σ/\WR Q base σ u w1)\/∃v u,s.run Q wq=.halt (.panic v) u))\/∃h u,s.run Q wq=.halt h u/\odd h=false:=by
 by_cases hf:vC (s.run Q wq)
 ·refine .inl ⟨hs.knows hb hw hf,?_⟩
  have a7:WR Q base ρ wq { w with tape:=λn q=>wq.tape (n - w.drawn+wq.drawn) q }:=⟨hw.len,hw.nodup,hw.lt,hw.obj,hw.low,hw.env,hw.below,hw.gar⟩
  obtain⟨σ,a9,w2,b0,Z,_,_,a6,_,a8,_⟩:=SR.runs (es:=#[]) (D:=(rwR (s.run Q wq)).drawn) hs hb a7 (λn q _=>by
   show wq.tape (wq.drawn+n) q=wq.tape (w.drawn+n - w.drawn+wq.drawn) q;rw[show w.drawn+n - w.drawn+wq.drawn=wq.drawn+n by omega]) (q4u _) hf
  generalize s.run Q wq=r at Z;generalize (qar P s' _)=r' at Z;cases Z with
  | ok _ _ h=>exact .inl ⟨_,_,rfl,σ,_,_,h,a8.le,a6⟩
  | panic _ _ _=>exact .inr ⟨_,_,rfl⟩
 ·refine .inr ?_
  cases hr:s.run Q wq with
  | ok a u=>rw[hr] at hf;exact absurd trivial hf
  | halt h u =>
   rw[hr] at hf;exact⟨h,u,rfl,by cases ho:odd h with | false=>rfl | true=>exact absurd ho hf⟩
def Tri[JunkSet](Q:q7m){α β:Type}(R:Rel α β)(s:Sem α)(ρ:Ren)(base:Nat)(wq:q2v):Prop :=
 (Knows Q s wq/\((∃a u,s.run Q wq=.ok a u/\∃σ b w1,R σ a b/\Le ρ σ/\WR Q base σ u w1)\/∃v u,s.run Q wq=.halt (.panic v) u))\/∃h u,s.run Q wq=.halt h u/\odd h=false
theorem q2d{α β:Type}{R:Rel α β}{s:Sem α}(hs:Tri Q R s ρ base wq){cs:List q7n}{K:q2v->qd7 α->qby}{r:q2v->qby}
  (hr:∀u x,s.run Q u=x->∃es,r u=qan es (K u x))
  (hok:∀a u σ b w1,R σ a b->Le ρ σ/\WR Q base σ u w1->Flat cs (K wq (.ok a u))/\∀g' w' es,K wq (.ok a u)=.go g' w' es->g'.status=.running->g'.dying=none->w'.tape=u.tape/\u.drawn<=w'.drawn/\∀T,q5C T u w'.drawn->∃es',K (wq.tp T) (.ok a (u.tp T))=.go g' (w'.tp T) es')
  (a7:∀v u,Flat cs (K wq (.halt (.panic v) u))/\∀g' w' es,K wq (.halt (.panic v) u)=.go g' w' es->g'.status=.running->g'.dying=none->w'=u/\∀T,∃es',K (wq.tp T) (.halt (.panic v) (u.tp T))=.go g' (u.tp T) es')
  (hbad:∀h u,odd h=false->Flat cs (K wq (.halt h u))/\∀g' w' es,K wq (.halt h u)=.go g' w' es->g'.status=.running->g'.dying=none->False) :
  One cs wq r:=by
 have Z:=vg Q s wq;obtain⟨b6,h0⟩:=hr wq _ rfl;rcases hs with⟨⟨ht,hk⟩,⟨a,u,e,σ,b,w1,hR,hl,a8⟩ | ⟨v,u,e⟩⟩ | ⟨h,u,e,ho⟩
 ·rw[e] at h0 hk ht Z
  obtain⟨h1,h2⟩:=hok a u σ b w1 hR ⟨hl,a8⟩;refine⟨by rw[h0];exact QO h1,λg' w' es h hst a6=>?_⟩;rw[h0] at h;obtain⟨e0,h3,_⟩:=zR h;obtain⟨h4,h5,h6⟩:=h2 _ _ _ h3 hst a6;have Z:wq.drawn<=u.drawn:=Z;refine⟨h4.trans ht,q6s Z h5,λT hT=>?_⟩;obtain⟨b0,h7⟩:=hr (wq.tp T) _ rfl;have hk':s.run Q (wq.tp T)=.ok a (u.tp T):=hk T λk q hk hn=>hT k q hk (q7u hn h5);obtain⟨a9,h8⟩:=h6 T λk q hk hn=>by rw[show u.tape=wq.tape from ht];exact hT k q (q6s Z hk) hn
  exact⟨_,by rw[h7,hk',h8];rfl⟩
 ·rw[e] at h0 hk ht Z
  obtain⟨h1,h2⟩:=a7 v u;refine⟨by rw[h0];exact QO h1,λg' w' es h hst a6=>?_⟩;rw[h0] at h;obtain⟨e0,h3,_⟩:=zR h;obtain⟨rfl,h6⟩:=h2 _ _ _ h3 hst a6;refine⟨ht,Z,λT hT=>?_⟩;obtain⟨b0,h7⟩:=hr (wq.tp T) _ rfl;have hk':s.run Q (wq.tp T)=.halt (.panic v) (w'.tp T):=hk T hT;obtain⟨a9,h8⟩:=h6 T;exact⟨_,by rw[h7,hk',h8];rfl⟩
 ·rw[e] at h0
  obtain⟨h1,h2⟩:=hbad h u ho;refine⟨by rw[h0];exact QO h1,λg' w' es h hst a6=>?_⟩;rw[h0] at h;obtain⟨e0,h3,_⟩:=zR h;exact(h2 _ _ _ h3 hst a6).elim
theorem Q1{α β:Type}{R:Rel α β}{s:Sem α}{s':Sem β}(hs:SR Q P R s ρ s')(hb:base<=ρ.length)(hw:WR Q base ρ wq w){cs:List q7n}{K:q2v->qd7 α->qby}{r:q2v->qby}
  (hr:∀u x,s.run Q u=x->∃es,r u=qan es (K u x))
  (hok:∀a u σ b w1,R σ a b->Le ρ σ/\WR Q base σ u w1->Flat cs (K wq (.ok a u))/\∀g' w' es,K wq (.ok a u)=.go g' w' es->g'.status=.running->g'.dying=none->w'.tape=u.tape/\u.drawn<=w'.drawn/\∀T,q5C T u w'.drawn->∃es',K (wq.tp T) (.ok a (u.tp T))=.go g' (w'.tp T) es')
  (Z:∀v u,Flat cs (K wq (.halt (.panic v) u))/\∀g' w' es,K wq (.halt (.panic v) u)=.go g' w' es->g'.status=.running->g'.dying=none->w'=u/\∀T,∃es',K (wq.tp T) (.halt (.panic v) (u.tp T))=.go g' (u.tp T) es')
  (hbad:∀h u,odd h=false->Flat cs (K wq (.halt h u))/\∀g' w' es,K wq (.halt h u)=.go g' w' es->g'.status=.running->g'.dying=none->False) :
  One cs wq r:=q2d (hs.tri hb hw) hr hok Z hbad
theorem Y1(H:Duo Q P)(hb:base<=ρ.length)(hw:WR Q base ρ wq w){f:q7n}{cs:List q7n}(a6:∀d r s k,f.todo≠.call d true r s::k)
  {s:Sem qdb} (hs:Tri Q (zH) s ρ base wq):One cs wq (λu=>qaw Q true f cs none s u):=by
 apply q2d hs
 ·intro u x hx
  apply Exists.intro;unfold qaw;simp only[if_true,q9h,hx];exact rfl
 ·intro a u σ b w1 hR _
  cases hR with
  | recover =>
   rcases hX:q92 f cs with _ | ⟨v,k⟩<;>cases hro:f.roundOf<;>simp only[hX,hro,H.rfr,if_true] <;>
    exact⟨flx,λg' w' es h _ _=>by cases h;exact⟨rfl,q4u _,λT _=>⟨_,rfl⟩⟩⟩
  | _=>exact⟨flx,λg' w' es h _ _=>by cases h;exact⟨rfl,q4u _,λT _=>⟨_,rfl⟩⟩⟩
 ·intro v u
  exact⟨flx,λg' w' es h _ _=>by cases h;exact⟨rfl,λT=>⟨_,rfl⟩⟩⟩
 ·intro h u ho
  cases h with
  | panic v=>cases ho
  | goexit=>cases ho
  | unsupported x =>
   cases x with
   | initOrder g=>cases ho
   | _=>exact⟨flx,λg' w' es h _ _=>by cases h⟩
  | blocked=>exact⟨flx,λg' w' es h hst _=>by cases h;cases hst⟩
  | waiting=>exact⟨flx,λg' w' es h hst _=>by cases h;cases hst⟩
  | throw m=>exact⟨flx,λg' w' es h _ Z=>by simp only[endThrow,dieOf,qcH] at h;rw[<- h.1] at Z;cases Z⟩
  | fatal m=>exact⟨Yn,λg' w' es h _ Z=>absurd Z (qY h)⟩
  | _=>exact⟨flx,λg' w' es h _ _=>by cases h⟩
theorem SM.tri{α β:Type}{R:Rel α β}{s:Sem α}{s':Sem β}(hs:SM Q P R s ρ s')(hk:vC (s.run Q wq)->Knows Q s wq)(hb:base<=ρ.length)(hw:WR Q base ρ wq w):Tri Q R s ρ base wq:=by
 by_cases hf:vC (s.run Q wq)
 ·refine .inl ⟨hk hf,?_⟩
  have a7:WR Q base ρ wq { w with tape:=λn q=>wq.tape (n - w.drawn+wq.drawn) q }:=⟨hw.len,hw.nodup,hw.lt,hw.obj,hw.low,hw.env,hw.below,hw.gar⟩
  obtain⟨σ,a9,w2,b0,Z,_,_,a6,a8⟩:=hs (D:=(rwR (s.run Q wq)).drawn) hb a7 (λn q _=>by
   show wq.tape (wq.drawn+n) q=wq.tape (w.drawn+n - w.drawn+wq.drawn) q;rw[show w.drawn+n - w.drawn+wq.drawn=wq.drawn+n by omega]) (q4u _) hf
  generalize s.run Q wq=r at Z;generalize (qar P s' _)=r' at Z;cases Z with
  | ok _ _ h=>exact .inl ⟨_,_,rfl,σ,_,_,h,a8.le,a6⟩
  | panic _ _ _=>exact .inr ⟨_,_,rfl⟩
 ·refine .inr ?_
  cases hr:s.run Q wq with
  | ok a u=>rw[hr] at hf;exact absurd trivial hf
  | halt h u =>
   rw[hr] at hf;exact⟨h,u,rfl,by cases ho:odd h with | false=>rfl | true=>exact absurd ho hf⟩
theorem q3o(H:Pair Q P)(hb:base<=ρ.length)(hw:WR Q base ρ wq w){e e':qa4->q4k}(he:∀x,qF Q x->VR ρ (e x) (e' x))(hG:Gl P ρ)(hn:Inj ρ)(hc:∀v,e (.const v)=v){o:qaG}(ho:qJ Q o.op) :
  Tri Q (@zH _) (execOp e o) ρ base wq:=by
 cases hmu:isMap o.op with
 | false=>exact(Kt H he hG hn hc ho hmu).tri hb hw
 | true =>
  refine SM.tri (Ky H he hG hn hc ho) (λhf=>?_) hb hw;obtain⟨dst,op,ty,pos,after,guard⟩:=o;dsimp only at ho hmu;have fin:∀{s:Sem Unit},vC ((do s;pure Next.skip:Sem qdb).run Q wq)->vC (s.run Q wq):=λ{s} hf=>by
   rw[qb1] at hf;cases hx:s.run Q wq with
   | ok a u=>trivial
   | halt h u=>rw[hx] at hf;exact hf
  cases ho with
  | mapUpdate h1 h2 h3 h4=>exact kn_u (Zc H.tables hG hb hw h1 (he _ h2) (he _ h3) (he _ h4) (fin hf))
  | insert h1 h2 h3 h4=>exact kn_u (Zc H.tables hG hb hw h1 (he _ h2) (he _ h3) (he _ h4) (fin hf))
  | _=>cases hmu
theorem ZB(H:Duo Q P)(hb:base<=ρ.length)(hw:WR Q base ρ wq w){f:q7n}{cs:List q7n}(Z:∀d r s k,f.todo≠.call d true r s::k)
  {s s':Sem qdb} (hs:SR Q P zH s ρ s'):One cs wq (λu=>qaw Q true f cs none s u):=Y1 H hb hw Z (hs.tri hb hw)
theorem Qo(f:q7n)(cs:List q7n)(v:q4k):(∃g,(Live g\/Dead g\/cs=[])/\∀u,qbh Q true f cs none v u=.go g u #[])\/∃o,∀u,qbh Q true f cs none v u=.ended o u #[]:=by
 unfold qbh;cases cs with
 | cons c cs =>
  dsimp only;split;all_goals exact .inl ⟨_,flx,λu=>rfl⟩
 | nil =>
  dsimp only;split
  ·rename_i h;cases h
  ·exact .inr ⟨_,λu=>rfl⟩
  ·simp only[Bool.not_true,q9g,if_false]
   split
   ·exact .inl ⟨_,flx,λu=>rfl⟩
   ·exact .inr ⟨_,λu=>rfl⟩
theorem j6{cs:List q7n}{r:q2v->qby}{g:q4y}(h:∀u,r u=.go g u #[])(hl:Live g\/Dead g\/cs=[]:=by exact flx):One cs wq r :=
 ⟨by rw[h];exact hl,λg' w' es e _ _=>by rw[h] at e;cases e;exact⟨rfl,q4u _,λT _=>⟨_,h _⟩⟩⟩
theorem jL(hb:base<=ρ.length)(hw:WR Q base ρ wq w){f:q7n}{cs:List q7n}{d:qba}
  {s':Sem qdb} (hs:SR Q P zH (invoke d.target d.args) ρ s'):One cs wq (λu=>qbd Q f cs none d u):=by
 by_cases hc:(kb d.target && ka f.mode)=true
 ·refine yk ⟨.unsupported (.noEntry "machine/Return: a deferred call of a nil function value, made while the frame is unwinding") (f.pos Q),wq,#[],?_⟩
  show qbd Q f cs none d wq=_;unfold qbd;exact if_pos hc
 apply Q1 hs hb hw
 ·intro u x hx
  apply Exists.intro;show qbd Q f cs none d u=_;unfold qbd;refine(if_neg hc).trans ?_;simp only[q9h,hx];exact rfl
 ·intro a u σ b w1 hR _
  cases hR with
  | recover =>
   rcases hX:q92 f cs with _ | ⟨v,k⟩<;>cases hm:f.mode<;>simp only[hX,hm] <;>
    exact⟨flx,λg' w' es h _ _=>by cases h;exact⟨rfl,q4u _,λT _=>⟨_,rfl⟩⟩⟩
  | _=>exact⟨flx,λg' w' es h _ _=>by cases h;exact⟨rfl,q4u _,λT _=>⟨_,rfl⟩⟩⟩
 ·intro v u
  exact⟨flx,λg' w' es h _ _=>by cases h;exact⟨rfl,λT=>⟨_,rfl⟩⟩⟩
 ·intro h u ho
  cases h with
  | panic v=>cases ho
  | goexit=>cases ho
  | unsupported x =>
   cases x with
   | initOrder g=>cases ho
   | _=>exact⟨flx,λg' w' es h _ _=>by cases h⟩
  | blocked=>exact⟨flx,λg' w' es h hst _=>by cases h;cases hst⟩
  | waiting=>exact⟨flx,λg' w' es h hst _=>by cases h;cases hst⟩
  | throw m=>exact⟨flx,λg' w' es h _ Z=>by simp only[endThrow,dieOf,qcH] at h;rw[<- h.1] at Z;cases Z⟩
  | fatal m=>exact⟨Yn,λg' w' es h _ Z=>absurd Z (qY h)⟩
  | _=>exact⟨flx,λg' w' es h _ _=>by cases h⟩
theorem Y0(H:Duo Q P)(hb:base<=ρ.length)(hw:WR Q base ρ wq w)(hG:Gl P ρ){f f':q7n}(hf:qu Q P ρ f f')(cs:List q7n) :
  One cs wq (λu=>unwind Q true f cs none u):=by
 have hfd:=hf.defers;unfold unwind;generalize b6:f.defers=ds at hfd;generalize a9:f'.defers=ds' at hfd;cases hfd with
 | @cons d d' ds ds' hd hds =>
  obtain⟨t,a⟩:=d;obtain⟨t',a'⟩:=d';have hs:SR Q P zH (invoke t a) ρ (invoke t' a'):=kZ H.toPair hG hd;rcases id hd with⟨a6,_⟩ | ⟨h1,_,n,c,h3⟩
  case bound =>
   dsimp only at h1 h3;subst h1;subst h3;exact jL hb hw hs
  dsimp only at a6;cases a6 with
  | @collected i j hij =>
   apply Q1 (q55 (Q:=Q) (P:=P) hij) hb hw
   ·intro u x hx
    apply Exists.intro;simp only[q9h,hx];exact rfl
   ·intro l u σ b w1 hR _
    exact⟨flx,λg' w' es h _ _=>by cases h;exact⟨rfl,q4u _,λT _=>⟨_,rfl⟩⟩⟩
   ·intro v u
    exact⟨flx,λg' w' es h _ _=>by cases h⟩
   ·intro h u ho
    exact⟨flx,λg' w' es h _ _=>by cases h⟩
  | fn h1 h2=>exact jL hb hw hs
  | meth n h=>exact jL hb hw hs
  | nil=>exact jL hb hw hs
  | builtin x y z c h=>exact jL hb hw hs
 | nil =>
  dsimp only;obtain⟨gf,a7,b0⟩:=hf.same;cases hm:f.mode with
  | run=>exact yk ⟨_,_,_,rfl⟩
  | panicking l =>
   dsimp only;have a8:f.catches Q=false:=by unfold Frame.catches;rw[a7]
   rw[a8];simp only[q9g,if_false]
   repeat' split
   all_goals first
    | exact j6 λu=>rfl
    | exact yk ⟨_,_,_,rfl⟩
    | exact⟨flx,λg' w' es h hst Z=>by cases h;cases hst⟩
    | exact⟨flx,λg' w' es h hst Z=>by cases h;cases Z⟩
    | skip
   constructor
   ·show Flat _ (match (reportChain l false).run Q wq with | .ok todo w=>_ | .halt (.unsupported u) w=>_ | .halt h w=>_)
    cases(reportChain l false).run Q wq with
    | ok a w1=>exact flx
    | halt x w1=>cases x<;>exact flx
   ·intro g' w' es h hst Z
    exfalso;revert h;cases(reportChain l false).run Q wq with
    | ok a w1=>intro h;cases h;cases Z
    | halt x w1=>cases x<;>(intro h;cases h)
  | returning =>
   dsimp only;rw[a7];dsimp only;apply Q1 (Qz H hG gf hf.tmps) hb hw
   ·intro u x hx
    apply Exists.intro;simp only[q9h,hx];exact rfl
   ·intro v u σ b w1 hR _
    rcases Qo (Q:=Q) f cs v with⟨g,hl,h⟩ | ⟨o,h⟩
    ·refine⟨?_,λg' w' es e _ _=>?_⟩
     ·dsimp only
      rw[h];exact hl
     ·dsimp only at e ⊢
      rw[h] at e;cases e;exact⟨rfl,q4u _,λT _=>⟨_,h _⟩⟩
    ·refine⟨?_,λg' w' es e _ _=>?_⟩
     ·dsimp only
      rw[h];trivial
     ·dsimp only at e ⊢
      rw[h] at e;cases e
   ·intro v u
    exact⟨flx,λg' w' es h _ _=>by cases h⟩
   ·intro h u ho
    cases h<;>exact⟨flx,λg' w' es h _ _=>by cases h⟩
theorem Q5(hb:base<=ρ.length)(hw:WR Q base ρ wq w){f f':q7n}(hf:qu Q P ρ f f')(cs:List q7n)(H:Duo Q P)
  {j:Option qbs} (hj:∀x,j=some x->qz Q x) {s s':String} :
  One cs wq (λu=>match f.roundOf with
   | none=>if Yf j=true then .go { frame:={ f with mode:=.returning },callers:=cs,status:=.running,dying:=none } u else .ended (.stuck s (f.pos Q)) u
   | some l =>
    let (r,es):=(qc5 l j).runT Q u #[]
    qan (seen Q f.fn es) <| match r with
    | .ok v w=>qbh Q true f cs none v w
    | .halt _ w=>.ended (.stuck s' (f.pos Q)) w):=by
 rcases hf.round with⟨r1,r2⟩ | ⟨i,k,r1,r2,hik⟩
 ·rw[r1]
  dsimp only;by_cases hc:Yf j=true
  ·simp only[if_pos hc]
   exact j6 λu=>rfl
  ·simp only[if_neg hc]
   exact yk ⟨_,_,_,rfl⟩
 ·rw[r1]
  apply Q1 (ZR (Q:=Q) (P:=P) hik λx hx=>(H.codes x).2 (hj x hx)) hb hw
  ·intro u x hx
   apply Exists.intro;simp only[q9h,hx];exact rfl
  ·intro v u σ b w1 hR _
   rcases Qo (Q:=Q) f cs v with⟨g,hl,h⟩ | ⟨o,h⟩
   ·refine⟨?_,λg' w' es e _ _=>?_⟩
    ·dsimp only
     rw[h];exact hl
    ·dsimp only at e ⊢
     rw[h] at e;cases e;exact⟨rfl,q4u _,λT _=>⟨_,h _⟩⟩
   ·refine⟨?_,λg' w' es e _ _=>?_⟩
    ·dsimp only
     rw[h];trivial
    ·dsimp only at e ⊢
     rw[h] at e;cases e
  ·intro v u
   exact⟨flx,λg' w' es h _ _=>by cases h⟩
  ·intro h u ho
   exact⟨flx,λg' w' es h _ _=>by cases h⟩
theorem q8C(H:Duo Q P)(hb:base<=ρ.length)(hw:WR Q base ρ wq w)(hG:Gl P ρ){f f':q7n}(hf:qu Q P ρ f f')(cs:List q7n) :
  One cs wq (λu=>qcg Q true true f cs none u):=by
 obtain⟨fn,tmps,todo,defers,mode,kind,ro⟩:=f;obtain⟨c3,a6,b0,Z,a7,a8,b6⟩:=f';have b9:=hf.todo;have b7:∀x,qF Q x->VR ρ (Frame.eval ⟨fn,tmps,todo,defers,mode,kind,ro⟩ x) (Frame.eval ⟨c3,a6,b0,Z,a7,a8,b6⟩ x):=λx hx=>hf.eval hG H.gsize hx;unfold qcg;dsimp only at b9 ⊢;cases b9 with
 | nil=>exact Q5 hb hw hf cs H (j:=none) (λx h=>by cases h)
 | @cons x x' k k' hx hk =>
  cases hx with
  | @code c hc =>
   cases hc with
   | skip=>exact j6 λu=>rfl
   | label n=>exact j6 λu=>rfl
   | ret=>exact Q5 hb hw hf cs H (j:=some .ret) (λx h=>by cases h;exact .ret)
   | seq h1 h2=>exact j6 λu=>rfl
   | @cond c x y h0 h1 h2 =>
    dsimp only;split
    ·exact j6 λu=>rfl
    ·exact yk ⟨_,_,_,rfl⟩
   | block h=>exact j6 λu=>rfl
   | loop h=>exact j6 λu=>rfl
   | scope h=>exact j6 λu=>rfl
   | exit id =>
    dsimp only;cases exitTo id k with
    | none=>exact Q5 hb hw hf cs H (j:=some (.exit id)) (λx h=>by cases h;exact .exit id)
    | some m=>exact j6 λu=>rfl
   | goto n =>
    dsimp only;cases gotoIn n k with
    | none=>exact Q5 hb hw hf cs H (j:=some (.goto n)) (λx h=>by cases h;exact .goto n)
    | some m=>exact j6 λu=>rfl
   | @region id ops d hops =>
    dsimp only;cases d with
    | false=>exact j6 λu=>rfl
    | true =>
     simp only[Bool.not_true,q9g,if_false,ZA];refine⟨flx,λg' w' es h _ _=>?_⟩;cases h;refine⟨rfl,Nat.le_succ _,λT hT=>?_⟩;have e:(wq.tp T).tape (wq.tp T).drawn (.order fn id)=wq.tape wq.drawn (.order fn id):=hT _ _ (q4u _) (Nat.lt_succ_self _);rw[e];exact⟨_,rfl⟩
   | @rangeFunc c ps a bd h0 h1 h2 =>
    dsimp only;apply Q1 (QX (Q:=Q) (P:=P) fn ((H.same fn).2 ⟨hf.same,hf.okf⟩) hf.tmps ps ((H.codes a).2 h1) ((H.codes bd).2 h2) hf.round) hb hw
    ·intro u x hx
     apply Exists.intro;simp only[q9h];dsimp only at hx;rw[hx]
    ·intro x u σ y w1 hR ⟨hl,c8⟩
     obtain⟨i,m⟩:=x;obtain⟨i',m'⟩:=y;obtain⟨hbr,hm⟩:=hR;dsimp only at hbr hm ⊢;have hy:AsR σ #[Value.func (Fn.yield i) #[] #[]] #[Value.func (Fn.yield i') #[] #[]] :=
      AsR.one (.func (a:=#[]) (a':=#[]) (c:=#[]) (c':=#[]) (.yield hbr) rfl (λi x y hx=>by simp at hx) rfl (λi x y hx=>by simp at hx))
     have b8:∀(e:qa4->q4k) (v:q4k),#[Operand.const v].map e=#[e (.const v)]:=λe v=>by simp
     have:=ZB (cs:=cs) (f:=⟨fn,tmps,.inRangeFunc i::k,m++defers,mode,kind,ro⟩) H (q6s hb hl.len) c8 (λd r s k e=>by cases e)
      (s:=do let d <- resolve (Frame.eval ⟨fn,tmps,.inRangeFunc i::k,m++defers,mode,kind,ro⟩) { callee:=.value c,args:=#[.const (.func (.yield i) #[] #[])],argTypes:=#[] } 0;invoke d.target d.args)
      (s':=do let d <- resolve (Frame.eval ⟨c3,a6,.inRangeFunc i'::k',m'++Z,a7,a8,b6⟩) { callee:=.value c,args:=#[.const (.func (.yield i') #[] #[])],argTypes:=#[] } 0;invoke d.target d.args)
      (.bnd (R:=yF) (QA H.toPair ((b7 _ h0).mono hl) (by rw[b8,b8];exact hy)) λτ d d' l' hd=>kZ H.toPair (hG.mono (hl.trans l')) hd)
     exact⟨this.flat,this.go⟩
    ·intro v u
     exact⟨flx,λg' w' es h _ _=>by cases h⟩
    ·intro h u ho
     exact⟨flx,λg' w' es h _ _=>by cases h⟩
  | inBlock id=>exact j6 λu=>rfl
  | inScope h=>exact j6 λu=>rfl
  | inLoop h=>exact j6 λu=>rfl
  | @inRegion ops l hops =>
   cases l with
   | nil=>exact j6 λu=>rfl
   | cons i l =>
    dsimp only;by_cases hc:((ops[i]?).map (qac · (yielded ops tmps))).getD false=true
    ·simp only[if_pos hc]
     unfold stepG.oper Frame.oper?;dsimp only;cases ho:ops[i]? with
     | none=>exact yk ⟨_,_,_,rfl⟩
     | some o =>
      dsimp only;have hok:=hops o (by rw[qbw];exact qaF ho);have plain:=Y1 (cs:=cs) H hb hw (f:=⟨fn,tmps,.inRegion ops (i::l)::k,defers,mode,kind,ro⟩) (λd r s k e=>by cases e) (q3o H.toPair hb hw b7 hG hw.nodup (λv=>rfl) hok);rcases hf.round with⟨r1,r2⟩ | ⟨a,b',r1,r2,hij⟩
      ·dsimp only at r1 r2
       subst r1;subst r2;exact plain
      ·dsimp only at r1 r2
       subst r1;subst r2;by_cases a9:∃c,o.op=.defer c
       ·obtain⟨c,a9⟩:=a9
        rw[a9] at hok ⊢;dsimp only;cases hok with
        | defer hcall =>
         exact ZB H hb hw (λd r s k e=>by cases e) (SR.bnd (vF H.toPair b7 hcall _) λσ d d' l hd=>.bnd (x9 (hij.mono l) hd) λτ _ _ _ _=>qd .skip)
       ·split
        ·rename_i e1 e2
         exact absurd ⟨_,e2⟩ a9
        ·exact plain
    ·simp only[if_neg hc]
     exact j6 λu=>rfl
  | inRangeFunc h=>exact yk ⟨_,_,_,rfl⟩
  | @endRangeFunc i j h =>
   dsimp only;apply Q1 (JQ H hG h) hb hw
   ·intro u x hx
    apply Exists.intro;simp only[q9h,hx];exact rfl
   ·intro l u σ b w1 hR _
    exact⟨flx,λg' w' es h _ _=>by cases h;exact⟨rfl,q4u _,λT _=>⟨_,rfl⟩⟩⟩
   ·intro v u
    exact⟨flx,λg' w' es h _ _=>by cases h;exact⟨rfl,λT=>⟨_,rfl⟩⟩⟩
   ·intro h u ho
    cases h<;>first | (cases ho;done) | exact⟨flx,λg' w' es h _ _=>by cases h⟩
  | beginRound =>
   dsimp only;refine ZB (P:=P) (s':=(do b6.elim (stuck "beginRound: no round") Instr.beginRound;pure .skip)) H hb hw (λd r s k e=>by cases e) ?_;refine .bnd (R:=λ_ _ _=>True) ?_ λσ _ _ _ _=>qd .skip;rcases hf.round with⟨r1,r2⟩ | ⟨i,j,r1,r2,hij⟩
   ·dsimp only at r1 r2
    rw[r1,r2];exact qf
   ·dsimp only at r1 r2
    rw[r1,r2];exact Qj H hG hij
theorem q2c(H:Duo Q P)(hb:base<=ρ.length)(hw:WR Q base ρ wq w)(hG:Gl P ρ){g g':q4y}(hg:kw Q P ρ g g'):One g.callers wq (λu=>qag Q true g u true):=by
 obtain⟨fr,cs,st,dy,off⟩:=g;obtain⟨h1,h2,h3,h4,h5,h6⟩:=hg;dsimp only at h1 h2 h3 h4 h5 h6;subst h5;have hm:=h1.mode;unfold qag;dsimp only;generalize hmm:fr.mode=m at hm;generalize Z:g'.frame.mode=m' at hm;cases hm with
 | run=>exact q8C H hb hw hG h1 cs
 | returning=>exact Y0 H hb hw hG h1 cs
 | panicking hl=>exact Y0 H hb hw hG h1 cs
end
end Go.Sim
end
section
namespace Go.Sim
inductive LP (Q:q7m) (F:q4y->q2v->Prop):q4y->q2v->Prop
 | done {g:q4y} {u:q2v}:F g u->LP Q F g u
 | step {g g1:q4y} {u u1:q2v} {es:Array qaz}:qag Q true g u true=.go g1 u1 es->g1.status=.running->g1.dying=none->LP Q F g1 u1->LP Q F g u
inductive LT (Q:q7m) (F:q4y->q2v->Prop):q4y->q2v->Prop
 | done {g:q4y} {u:q2v}:F g u->LT Q F g u
 | step {g:q4y} {u:q2v}:¬ F g u->(∀T,∃g1 u1 es,qag Q true g (u.tp T) true=.go g1 u1 es/\g1.status=.running/\g1.dying=none) ->
   (∀T g1 u1 es,qag Q true g (u.tp T) true=.go g1 u1 es->LT Q F g1 u1)->LT Q F g u
section
variable[JunkSet]{Q:q7m}{base:Nat}{F:q4y->q2v->Prop}
def vY(Q:q7m)(base:Nat)(g:q4y)(u:q2v):Prop :=
 ∃ρ g' w,base<=ρ.length/\WR Q base ρ u w/\Gl Q ρ/\kw Q Q ρ g g'
theorem WR.tape{ρ:Ren}{u w:q2v}(h:WR Q base ρ u w)(T T':Nat->qbe->Nat):WR Q base ρ (u.tp T) (w.tp T'):=⟨h.len,h.nodup,h.lt,h.obj,h.low,h.env,h.below,h.gar⟩
theorem vY.tape{g:q4y}{u:q2v}(h:vY Q base g u)(T:Nat->qbe->Nat):vY Q base g (u.tp T) :=
 let ⟨ρ,g',w,h1,h2,h3,h4⟩:=h
 ⟨ρ,g',w,h1,h2.tape T w.tape,h3,h4⟩
theorem vY.one(H:Duo Q Q){g:q4y}{u:q2v}(h:vY Q base g u):One g.callers u (λu=>qag Q true g u true) :=
 let ⟨_,_,_,h1,h2,h3,h4⟩:=h
 q2c H h1 h2 h3 h4
theorem vY.next(H:Duo Q Q){g g1:q4y}{u u1:q2v}{es:Array qaz}(h:vY Q base g u)(e:qag Q true g u true=.go g1 u1 es)(hs:g1.status=.running)(hd:g1.dying=none):vY Q base g1 u1:=by
 have hm:=((h.one H).go _ _ _ e hs hd).2.1;obtain⟨ρ,g',w,h1,h2,h3,h4⟩:=h;have h2':=h2.tape u.tape (λn q=>u.tape (n - w.drawn+u.drawn) q);have ht:zq u1.drawn u (w.tp λn q=>u.tape (n - w.drawn+u.drawn) q):=λn q _=>by
  show u.tape (u.drawn+n) q=u.tape (w.drawn+n - w.drawn+u.drawn) q;rw[show w.drawn+n - w.drawn+u.drawn=u.drawn+n by omega]
 obtain⟨σ,g'',w',es',_,k1,k2,_,k4,_⟩:=q8m H h1 h2' h3 ht hm h4 true _ _ _ e (q4u _) hs hd rfl;exact⟨σ,g'',w',q6s h1 k4.le.len,k2,h3.mono k4.le,k1⟩
theorem q1o(u:q2v)(T T':Nat->qbe->Nat):(u.tp T).tp T'=u.tp T':=rfl
theorem Jm(u:q2v):u.tp u.tape=u:=rfl
theorem LP.ext(H:Duo Q Q)(hF:∀g u T,F g u->F g (u.tp T)){g:q4y}{u:q2v}(h:LP Q F g u)(hr:vY Q base g u){T:Nat->qbe->Nat}(hT:∀k q,u.drawn<=k->T k q=u.tape k q):LP Q F g (u.tp T):=by
 induction h with
 | done h=>exact .done (hF _ _ _ h)
 | @step g g1 u u1 es e hs hd _ ih =>
  obtain⟨h1,h2,h3⟩:=(hr.one H).go _ _ _ e hs hd;obtain⟨es',e'⟩:=h3 T λk q hk _=>hT k q hk;exact .step e' hs hd (ih (hr.next H e hs hd) λk q hk=>by rw[h1];exact hT k q (q6s h2 hk))
theorem LP.inv{g:q4y}{u:q2v}(hF:¬ F g u)(h:LP Q F g u):∃g1 u1 es,qag Q true g u true=.go g1 u1 es/\g1.status=.running/\g1.dying=none/\LP Q F g1 u1:=by
 cases h with
 | done h=>exact absurd h hF
 | step e hs hd h=>exact⟨_,_,_,e,hs,hd,h⟩
theorem LP.rest(H:Duo Q Q)(hF:∀g u T,F g u->F g (u.tp T)){g g1:q4y}{u u1:q2v}{es:Array qaz}(hr:vY Q base g u)(hn:¬ F g u)(h:∀T,LP Q F g (u.tp T))
  {T:Nat->qbe->Nat} (e:qag Q true g (u.tp T) true=.go g1 u1 es) (hs:g1.status=.running) (hd:g1.dying=none) (T':Nat->qbe->Nat):LP Q F g1 (u1.tp T'):=by
 have Z:=(hr.tape T).next H e hs hd
 obtain⟨h1,h2,h3⟩:=((hr.tape T).one H).go _ _ _ e hs hd
 let T2:Nat->qbe->Nat:=λk q=>if k<u1.drawn then T k q else T' k q
 obtain⟨a8,e2⟩:=h3 T2 λk q _ hk=>by show(if k<u1.drawn then T k q else T' k q)=T k q;rw[if_pos hk]
 rw[q1o] at e2;have a6:¬ F g (u.tp T2):=λhh=>hn (by have:=hF _ _ u.tape hh;rwa [q1o,Jm] at this);obtain⟨g2,u2,a7,e3,_,_,h4⟩:=LP.inv a6 (h T2);rw[e3] at e2;cases e2;have:=LP.ext H hF h4 (Z.tape T2) (T:=T') λk q hk=>by
  show T' k q=if k<u1.drawn then T k q else T' k q;rw[if_neg (by have:u1.drawn<=k:=hk;omega)]
 exact this
theorem LT.of_all(H:Duo Q Q)(hF:∀g u T,F g u->F g (u.tp T)){g:q4y}{u:q2v}(hr:vY Q base g u)(h:∀T,LP Q F g (u.tp T)):LT Q F g u:=by
 classical
 refine qb6 λa8=>?_
 let Bd:q4y × q2v->Prop:=λx=>vY Q base x.1 x.2/\(∀T,LP Q F x.1 (x.2.tp T))/\¬ LT Q F x.1 x.2
 have a7:∀x:{x // Bd x},∃y:(Nat->qbe->Nat) × {y // Bd y},∃es,qag Q true x.1.1 (x.1.2.tp y.1) true=.go y.2.1.1 y.2.1.2 es/\y.2.1.1.status=.running/\y.2.1.1.dying=none:=by
  rintro⟨⟨g,u⟩,hr,hl,hn⟩;dsimp only at hr hl hn ⊢;have hf:¬ F g u:=λhf=>hn (.done hf);have b0:∀T,¬ F g (u.tp T):=λT hh=>hf (by have:=hF _ _ u.tape hh;rwa [q1o,Jm] at this);refine qb6 λa8=>hn (.step hf (λT=>?_) λT g1 u1 es e=>?_)
  ·obtain⟨g1,u1,es,e,hs,hd,_⟩:=LP.inv (b0 T) (hl T)
   exact⟨g1,u1,es,e,hs,hd⟩
  ·obtain⟨g2,u2,c3,e2,hs,hd,_⟩:=LP.inv (b0 T) (hl T)
   rw[e] at e2;cases e2;refine qb6 λhlt=>a8 ⟨(T,⟨(g1,u1),(hr.tape T).next H e hs hd,λT'=>LP.rest H hF hr hf hl e hs hd T',hlt⟩),es,e,hs,hd⟩
 let nx:{x // Bd x}->(Nat->qbe->Nat) × {y // Bd y}:=λx=>qc9 (a7 x)
 have a9:∀x,∃es,qag Q true x.1.1 (x.1.2.tp (nx x).1) true=.go (nx x).2.1.1 (nx x).2.1.2 es/\(nx x).2.1.1.status=.running/\(nx x).2.1.1.dying=none:=λx=>qcs (a7 x)
 let st:Nat->{x // Bd x}:=λn=>Nat.rec ⟨(g,u),hr,h,a8⟩ (λ_ x=>(nx x).2) n
 have hst:∀n,st (n+1)=(nx (st n)).2:=λn=>rfl
 let dr:Nat->Nat:=λn=>(st n).1.2.drawn
 have a6:∀n,dr n<=dr (n+1):=λn=>by
  obtain⟨es,e,hs,hd⟩:=a9 (st n);exact((((st n).2.1.tape _).one H).go _ _ _ e hs hd).2.1
 have Z:∀m n,m<=n->dr m<=dr n:=λm n b7=>by
  induction b7 with
  | refl=>exact q4u _
  | step _ ih=>exact q6s ih (a6 _)
 let Ts:Nat->qbe->Nat:=λk q=>if hx:∃n,dr n<=k/\k<dr (n+1) then(nx (st (qc9 hx))).1 k q else 0
 have b9:∀n k q,dr n<=k->k<dr (n+1)->Ts k q=(nx (st n)).1 k q:=λn k q h1 h2=>by
  have hx:∃n,dr n<=k/\k<dr (n+1):=⟨n,h1,h2⟩
  show(if hx:∃n,dr n<=k/\k<dr (n+1) then(nx (st (qc9 hx))).1 k q else 0)=_;rw[dif_pos hx];obtain⟨h3,h4⟩:=qcs hx;have:qc9 hx=n:=by
   rcases Nat.lt_trichotomy (qc9 hx) n with hlt | he | hgt
   ·exact absurd (q7u h4 (q6s (Z (qc9 hx+1) n hlt) h1)) (qdl _)
   ·exact he
   ·exact absurd (q7u h2 (q6s (Z (n+1) (qc9 hx) hgt) h3)) (qdl _)
  rw[this]
 have key:∀(x:q4y) (v:q2v),LP Q F x v->∀n,x=(st n).1.1->v=(st n).1.2.tp Ts->False:=by
  intro x v hl;induction hl with
  | @done g u hf =>
   intro n h1 h2;subst h1;subst h2;exact(st n).2.2.2 (.done (by have:=hF _ _ (st n).1.2.tape hf;rwa [q1o,Jm] at this))
  | @step g g1 u u1 es e hs hd _ ih =>
   intro n h1 h2;subst h1;subst h2;obtain⟨c3,e2,b6,hd2⟩:=a9 (st n);obtain⟨_,_,h3⟩:=(((st n).2.1.tape _).one H).go _ _ _ e2 b6 hd2;obtain⟨c8,e3⟩:=h3 Ts λk q hk b8=>b9 n k q hk b8;rw[q1o] at e3;rw[e] at e3;cases e3;exact ih (n+1) rfl rfl
 exact key _ _ (h Ts) 0 rfl rfl
end
end Go.Sim
end
section
namespace Go.Sim
def qi(f:qam):q7n:={ fn:=f,tmps:=#[],todo:=[.code (.exit 0)],defers:=[{ target:=.nil,args:=#[] }],mode:=.run,kind:=.normal }
def Popped(f:qam)(fr:q7n):Prop:=fr=qi f\/∃l,fr={ qi f with mode:=.panicking l }
def Stk(f:qam)(g:q4y):Prop:=(∃pre,g.callers=pre++[qi f])\/(g.callers=[]/\Popped f g.frame)
def zV(f:qam)(r:qby):Prop:=∀g1 u1 es,r=.go g1 u1 es->g1.status=.running->g1.dying=none->Stk f g1
section
variable[JunkSet]{Q:q7m}{f:qam}
theorem jD{s:qby}{es:Array qaz}(h:zV f s):zV f (qan es s):=λg1 u1 es' e hs hd=>by
 obtain⟨e0,h0,_⟩:=zR e;exact h _ _ _ h0 hs hd
theorem qD{o:Outcome}{u:q2v}{es:Array qaz}:zV f (.ended o u es):=λ_ _ _ e _ _=>by cases e
theorem qQ{fr:q7n}{pre cs:List q7n}{st:qc6}{dy:Option Dying}{off:Option (Array qch × qbF)}{u:q2v}{es:Array qaz}(h:cs=pre++[qi f]):zV f (.go { frame:=fr,callers:=cs,status:=st,dying:=dy,offers:=off } u es):=λ_ _ _ e _ _=>by
 cases e;exact .inl ⟨pre,h⟩
theorem q2s{g:q4y}{u:q2v}{es:Array qaz}(h:g.dying≠none):zV f (.go g u es):=λ_ _ _ e _ hd=>by cases e;exact absurd hd h
theorem yA{s:qby}(h:∀g u es,s≠.go g u es):zV f s:=λg u es e _ _=>absurd e (h g u es)
theorem J0{fr:q7n}{cs:List q7n}{m:String}{u:q2v}:zV f (endFatal Q fr cs none m u):=λg1 u1 es e _ hd=>absurd hd (qY e)
theorem xI{fr:q7n}{m:String}{u:q2v}:zV f (endThrow fr m u):=q2s (by simp)
theorem vk{c:q7n}{rest:List q7n}{pre:List q7n}(h:c::rest=pre++[qi f]){fr:q7n}{st:qc6}{dy:Option Dying}{u:q2v}{es:Array qaz}(hf:c=qi f->Popped f fr) :
  zV f (.go { frame:=fr,callers:=rest,status:=st,dying:=dy } u es):=λ_ _ _ e _ _=>by
 cases e;cases pre with
 | nil =>
  simp only[q9k,qc7] at h;exact .inr ⟨h.2,hf h.1⟩
 | cons p pre =>
  simp only[q8G,qc7] at h;exact .inl ⟨pre,h.2⟩
theorem ZV:Popped f (qi f):=.inl rfl
theorem Ql(v:q4k):Popped f ((qi f).finish v):=.inl rfl
theorem q0q(l:List PanicEntry):Popped f ((qi f).raise l):=.inr ⟨l,rfl⟩
theorem Qk:∀{cs:List q7n} {fr:q7n} {pre k:List q7n} {v:q4k},cs=pre++[qi f]->q92 fr cs=some (v,k)->∃pre',k=pre'++[qi f]:=by
 intro cs;induction cs with
 | nil=>intro fr pre k v h;cases pre<;>simp at h
 | cons c cs ih =>
  intro fr pre k v h e;unfold q92 at e;cases hk:fr.kind with
  | deferred =>
   rw[hk] at e;dsimp only at e;cases pre with
   | nil =>
    simp only[q9k,qc7] at h;rw[h.1] at e;cases e
   | cons p pre =>
    simp only[q8G,qc7] at h;split at e
    ·simp only[q9B,Prod.mk.injEq] at e
     exact⟨_::pre,by rw[<- e.2,h.2];rfl⟩
    ·cases e
  | wrapped =>
   rw[hk] at e;dsimp only at e;cases pre with
   | nil =>
    simp only[q9k,qc7] at h;rw[h.1,h.2] at e;cases e
   | cons p pre =>
    simp only[q8G,qc7] at h;cases ht:q92 c cs with
    | none=>rw[ht] at e;cases e
    | some x =>
     obtain⟨v',k'⟩:=x;rw[ht] at e;simp only[qaC,q9B,Prod.mk.injEq] at e;obtain⟨pre',hp⟩:=ih h.2 ht;exact⟨c::pre',by rw[<- e.2,hp];rfl⟩
  | _=>rw[hk] at e;cases e
theorem vR{fr:q7n}{cs pre:List q7n}(h:cs=pre++[qi f])(v:q4k)(u:q2v):zV f (qbh Q true fr cs none v u):=by
 unfold qbh;cases cs with
 | nil=>cases pre<;>simp at h
 | cons c rest =>
  dsimp only;split
  ·exact vk h λe=>e ▸ Ql v
  ·exact vk h λe=>e ▸ Ql v
  ·exact vk h λe=>e ▸ ZV
  ·exact vk h λe=>by subst e;exact ZV
theorem q6u{fr fr2:q7n}{X pre cs:List q7n}{st:qc6}{dy:Option Dying}{off:Option (Array qch × qbF)}{u:q2v}{es:Array qaz}(h:cs=pre++[qi f]):zV f (.go { frame:=fr,callers:=X++fr2::cs,status:=st,dying:=dy,offers:=off } u es) :=
 qQ (pre:=X++fr2::pre) (by rw[h];simp)
theorem Yi{fr fr2:q7n}{pre cs:List q7n}{st:qc6}{dy:Option Dying}{off:Option (Array qch × qbF)}{u:q2v}{es:Array qaz}(h:cs=pre++[qi f]):zV f (.go { frame:=fr,callers:=fr2::cs,status:=st,dying:=dy,offers:=off } u es) :=
 qQ (pre:=fr2::pre) (by rw[h];simp)
theorem q2r{fr:q7n}{cs pre:List q7n}(h:cs=pre++[qi f])(g:Nat)(u:q2v):zV f (early Q fr cs none g u):=by
 unfold early;have h1:∀w:q2v,zV f (match w.heap[g]? with
  | some (.pending c elem)=>.go { frame:=fr,callers:=cs,status:=.running,dying:=none } { w with heap:=w.heap.setIfInBounds g (.cells c elem) }
  | _=>.ended (.stuck "early: the variable does not wait" (fr.pos Q)) w):=λw=>by
  split
  ·exact qQ h
  ·exact qD
 dsimp only;split
 ·exact h1 _
 ·split
  ·exact qD
  ·repeat' split
   all_goals first
    | exact h1 _
    | exact qD
    | exact qQ h
    | exact q6u h
    | skip
theorem yB(hrf:Q.follows .rangeFuncRecover=true){fr:q7n}{cs pre:List q7n}(h:cs=pre++[qi f])(s:Sem qdb)(u:q2v):zV f (qaw Q true fr cs none s u):=by
 unfold qaw;simp only[if_true,q9h,hrf];refine jD ?_;cases s.run Q u with
 | ok a w =>
  cases a with
  | recover =>
   have hr:∀{v k},q92 fr cs=some (v,k)->zV f (.go { frame:=fr.finish v,callers:=k,status:=.running,dying:=none } w):=λe=>by
    obtain⟨pre',hp⟩:=Qk h e;exact qQ hp
   rcases hX:q92 fr cs with _ | ⟨v,k⟩<;>cases hro:fr.roundOf<;>simp only[hX,hro]<;>first | exact hr hX | exact qQ h
  | spawn d =>
   dsimp only
   repeat' split
   all_goals first
    | exact xI
    | exact yA (λ_ _ _ e=>by cases e)
  | _ =>
   dsimp only
   repeat' split
   all_goals first
    | exact qQ h
    | exact Yi h
    | exact yA (λ_ _ _ e=>by cases e)
 | halt x w =>
  cases x with
  | fatal m=>exact J0
  | throw m=>exact xI
  | unsupported x=>cases x<;>first | exact q2r h _ _ | exact qD
  | _=>first | exact qQ h | exact qD
theorem Yj{fr:q7n}{cs pre:List q7n}(h:cs=pre++[qi f])(d:qba)(u:q2v):zV f (qbd Q fr cs none d u):=by
 unfold qbd;by_cases hc:(kb d.target && ka fr.mode)=true
 ·have:∀(a b:qby),(∃o u es,a=.ended o u es)->zV f (if(kb d.target && ka fr.mode)=true then a else b):=λa b ⟨o,u,es,e⟩=>by
   rw[if_pos hc,e];exact qD
  exact this _ _ ⟨_,_,_,rfl⟩
 have Z:∀(a b:qby),zV f b->zV f (if(kb d.target && ka fr.mode)=true then a else b):=λa b hb=>by rw[if_neg hc];exact hb
 refine Z _ _ ?_;simp only[q9h];refine jD ?_;cases qar Q (invoke d.target d.args) u with
 | ok a w =>
  cases a with
  | recover =>
   dsimp only;split
   ·rename_i e
    obtain⟨pre',hp⟩:=Qk h e;exact qQ hp
   ·exact qQ h
  | coroswitch c e=>cases e<;>first | exact qD | exact yA (λ_ _ _ e=>by cases e)
  | alone on v=>cases on<;>first | exact qD | exact yA (λ_ _ _ e=>by cases e)
  | _ =>
   first
    | exact qQ h
    | exact Yi h
    | exact qD
    | exact yA (λ_ _ _ e=>by cases e)
 | halt x w =>
  cases x with
  | fatal m=>exact J0
  | throw m=>exact xI
  | _=>first | exact qQ h | exact qD
theorem Zd{fr:q7n}{cs pre:List q7n}(h:cs=pre++[qi f])(u:q2v):zV f (unwind Q true fr cs none u):=by
 unfold unwind;split
 ·simp only[q9h]
  refine jD ?_;split
  ·exact qQ h
  ·exact qD
 ·exact Yj h _ _
 ·split
  ·exact qD
  ·split
   ·exact qD
   ·cases cs with
    | nil=>cases pre<;>simp at h
    | cons c rest=>exact vk h λe=>e ▸ q0q _
  ·split
   ·exact vR h _ _
   ·simp only[q9h]
    refine jD ?_;split
    ·exact vR h _ _
    all_goals exact qD
theorem q4g(hrf:Q.follows .rangeFuncRecover=true){fr:q7n}{cs pre:List q7n}(h:cs=pre++[qi f])(u:q2v):zV f (qcg Q true true fr cs none u):=by
 have Z:∀(j:Bool) (jj:Option qbs) (s s':String),zV f (match fr.roundOf with
   | none=>if j=true then .go { frame:={ fr with mode:=.returning },callers:=cs,status:=.running,dying:=none } u else .ended (.stuck s (fr.pos Q)) u
   | some l =>
    let (r,es):=(qc5 l jj).runT Q u #[]
    qan (seen Q fr.fn es) <| match r with
    | .ok v w=>qbh Q true fr cs none v w
    | .halt _ w=>.ended (.stuck s' (fr.pos Q)) w):=λj jj s s'=>by
  split
  ·split
   ·exact qQ h
   ·exact qD
  ·simp only[q9h]
   refine jD ?_;split
   ·exact vR h _ _
   ·exact qD
 unfold qcg;dsimp only;split
 ·exact Z true _ _ _
 ·exact Z true _ _ _
 all_goals first
  | exact qQ h
  | exact qD
  | exact yB hrf h _ _
  | (
    generalize exitTo _ _=X;cases X
    ·exact Z false _ _ _
    ·exact qQ h)
  | (
    generalize gotoIn _ _=X;cases X
    ·exact Z false _ _ _
    ·exact qQ h)
  | (
    unfold stepG.oper
    repeat' split
    all_goals first
     | exact qQ h
     | exact qD
     | exact yB hrf h _ _)
  | (
    simp only[q9h];refine jD ?_
    repeat' split
    all_goals first
     | exact qQ h
     | exact qD
     | exact yB hrf h _ _)
  | (
    repeat' split
    all_goals first
     | exact qQ h
     | exact qD
     | exact yB hrf h _ _)
  | (
    generalize Extern.next _=X
    cases X
    ·exact qD
    ·exact yB hrf h _ _)
theorem xy(hrf:Q.follows .rangeFuncRecover=true){g:q4y}{pre:List q7n}(h:g.callers=pre++[qi f])(hd:g.dying=none)(u:q2v):zV f (qag Q true g u true):=by
 obtain⟨fr,cs,st,dy,off⟩:=g;dsimp only at h hd;subst hd;unfold qag;dsimp only;cases fr.mode with
 | run=>exact q4g hrf h u
 | returning=>exact Zd h u
 | panicking l=>exact Zd h u
theorem xC{fr:q7n}(h:Popped f fr)(st:qc6)(off:Option (Array qch × qbF))(u:q2v):∃o u' es,qag Q true { frame:=fr,callers:=[],status:=st,dying:=none,offers:=off } u true=.ended o u' es:=by
 rcases h with rfl | ⟨l,rfl⟩
 ·exact⟨_,_,_,rfl⟩
 ·exact⟨_,_,_,rfl⟩
end
end Go.Sim
end
section
namespace Go.Sim
def zB(g:q4y)(u:q2v):Machine:={ world:=u,gs:=#[g],rest:={ timers:=#[],alone:=none,slice:=none } }
section
variable{Q:q7m}
theorem KG{g:q4y}{u:q2v}(h:g.status=.running):move Q (zB g u)=.goroutine (zB g u) 0:=by
 simp[move,ask,askOn,zB,runnable,runnable.go,due,ahead,Goroutine.canRun,List.range_succ,choose,pure,qar,Question.forced,h]
theorem QU{g g1:q4y}{u u1:q2v}{es:Array qaz}(h:g.status=.running)(e:qag Q true g u true=.go g1 u1 es):step Q (zB g u)=.next (zB g1 u1):=by
 rw[step,stepT,KG h];simp[runT,zB,Array.swapAt!,e]
theorem yG{g:q4y}{u u1:q2v}{o:Outcome}{es:Array qaz}(h:g.status=.running)(e:qag Q true g u true=.ended o u1 es):step Q (zB g u)=.ended o u1:=by
 rw[step,stepT,KG h];simp[runT,zB,Array.swapAt!,e]
theorem q74{g:q4y}(u:q2v)(h:Dead g):(∃o u1,step Q (zB g u)=.ended o u1)\/∃g1 u1,step Q (zB g u)=.next (zB g1 u1)/\Dead g1:=by
 have jG:(g.status=.blocked\/g.status=.waiting\/g.status=.finished)->(∃o u1,step Q (zB g u)=.ended o u1)\/∃g1 u1,step Q (zB g u)=.next (zB g1 u1)/\Dead g1:=by
  intro hs;by_cases hw:g.status=.waiting
  ·refine .inr ⟨g,u,?_,.inr (.inl hw)⟩
   rw[step,stepT];simp[move,ask,askOn,zB,runnable,runnable.go,due,ahead,Goroutine.canRun,List.range_succ,choose,pure,qar,Question.forced,hw]
  ·refine .inl ?_
   have a6:runnable #[g] u.os.mono=[]:=by
    rcases hs with h | h | h<;>simp[runnable,runnable.go,Goroutine.canRun,h]
   have a9:∀b,ahead (zB g u) b=none:=by
    intro b;rcases hs with h | h | h<;>simp[ahead,zB,h]
   rw[step,stepT];have hm:∃o u1,move Q (zB g u)=.machine (.ended o u1):=by
    have Z:=a9 false;simp only[zB] at Z;simp only[move,ask,askOn,zB,a6,due,Z];simp[pure,qar,hw];split
    ·rename_i t ht
     rw[Z] at ht;cases ht
    ·split
     ·exact⟨_,_,rfl⟩
     ·exact⟨_,_,rfl⟩
   obtain⟨o,u1,e⟩:=hm;rw[e];exact⟨o,u1,rfl⟩
 rcases h with h | h | h | ⟨h,d,hd,hc,hf⟩
 ·exact jG (.inl h)
 ·exact jG (.inr (.inl h))
 ·exact jG (.inr (.inr h))
 ·have hst:(∃o u1 es,qag Q true g u true=.ended o u1 es)\/∃g1 u1 es,qag Q true g u true=.go g1 u1 es/\Dead g1:=by
   obtain⟨fr,cs,st,dy,off⟩:=g;obtain⟨todo,a8,a7,pending,re,b0,fatal⟩:=d;dsimp only at h hd hc hf;subst hd;subst hc;cases fatal with
   | none=>cases hf
   | some f =>
    unfold qag;dsimp only;unfold die writeOn;dsimp only;split
    ·exact .inl ⟨_,_,_,rfl⟩
    ·split
     ·exact .inr ⟨_,_,_,rfl,.inr (.inr (.inr ⟨rfl,_,rfl,rfl,rfl⟩))⟩
     ·exact .inr ⟨_,_,_,rfl,.inl rfl⟩
     ·exact .inl ⟨_,_,_,rfl⟩
     ·exact .inl ⟨_,_,_,rfl⟩
  rcases hst with⟨o,u1,es,e⟩ | ⟨g1,u1,es,e,hd1⟩
  ·exact .inl ⟨o,u1,yG h e⟩
  ·exact .inr ⟨g1,u1,QU h e,hd1⟩
theorem q4t:∀(n:Nat) {g g1:q4y} {u u1:q2v},Dead g->runN Q n (zB g u)=.next (zB g1 u1)->¬ Live g1:=by
 intro n;induction n with
 | zero =>
  intro g g1 u u1 hd e hl;simp only[runN,Stepped.next.injEq,zB,Machine.mk.injEq] at e;obtain⟨_,e,_⟩:=e;have e:g=g1:=by simpa using e
  subst e;obtain⟨h1,h2⟩:=hl;rcases hd with h | h | h | ⟨h,d,hd,_⟩
  ·rw[h] at h1;cases h1
  ·rw[h] at h1;cases h1
  ·rw[h] at h1;cases h1
  ·rw[hd] at h2;cases h2
 | succ n ih =>
  intro g g1 u u1 hd e;rcases q74 (Q:=Q) u hd with⟨o,u2,h⟩ | ⟨g2,u2,h,hd2⟩
  ·rw[runN,h] at e;cases e
  ·rw[runN,h] at e;exact ih hd2 e
end
section
variable[JunkSet]{Q:q7m}{base:Nat}{F:q4y->q2v->Prop}
theorem LP.of_runs(H:Duo Q Q){f:qam}:∀(n:Nat) {g g1:q4y} {u u1:q2v} {pre:List q7n},vY Q base g u->Live g->g.callers=pre++[qi f] ->
  runN Q n (zB g u)=.next (zB g1 u1)->Live g1->(∃Z,g1.callers=Z++[qi f])->F g1 u1->LP Q F g u:=by
 intro n;induction n with
 | zero =>
  intro g g1 u u1 pre hr hl hc e a8 _ hF;simp only[runN,Stepped.next.injEq,zB,Machine.mk.injEq] at e;obtain⟨e1,e,_⟩:=e;have e:g=g1:=by simpa using e
  subst e;subst e1;exact .done hF
 | succ n ih =>
  intro g g1 u u1 pre hr hl hc e a8 b0 hF;have ho:=hr.one H;cases hs:qag Q true g u true with
  | go g2 u2 es =>
   rw[runN,QU hl.1 hs] at e;have a6:=ho.flat;rw[hs] at a6;have hne:g.callers≠[]:=by rw[hc];simp
   rcases a6 with hl2 | hd | hcs
   ·have b7:=hr.next H hs hl2.1 hl2.2
    rcases xy (f:=f) H.rfr hc hl.2 u g2 u2 es hs hl2.1 hl2.2 with⟨b8,a7⟩ | ⟨a7,hp⟩
    ·exact .step hs hl2.1 hl2.2 (ih b7 hl2 a7 e a8 b0 hF)
    ·exfalso
     cases n with
     | zero =>
      simp only[runN,Stepped.next.injEq,zB,Machine.mk.injEq] at e;obtain⟨_,e,_⟩:=e;have e:g2=g1:=by simpa using e
      subst e;obtain⟨Z,h1⟩:=b0;rw[a7] at h1;cases Z<;>simp at h1
     | succ n =>
      obtain⟨fr2,c8,b6,c3,a9⟩:=g2;obtain⟨l1,l2⟩:=hl2;dsimp only at a7 hp l1 l2;subst a7;subst l2;obtain⟨o,u3,b9,h3⟩:=xC (Q:=Q) hp b6 a9 u2;unfold runN at e;dsimp only at e;rw[yG l1 h3] at e;cases e
   ·exact absurd a8 (q4t n hd e)
   ·exact absurd hcs hne
  | ended o u2 es =>
   rw[runN,yG hl.1 hs] at e;cases e
  | _=>have a6:=ho.flat;rw[hs] at a6;exact a6.elim
def AtRet(Q:q7m)(f:qam)(cs:List q7n)(R:Ending->q2v->Prop)(g:q4y)(u:q2v):Prop :=
 Live g/\g.callers=cs/\g.frame.fn=f/\∃T e,R e (u.tp T)/\g.frame.leaving Q (u.tp T) e
theorem AtRet.tape{f:qam}{cs:List q7n}{R:Ending->q2v->Prop}{g:q4y}{u:q2v}(T:Nat->qbe->Nat)(h:AtRet Q f cs R g u):AtRet Q f cs R g (u.tp T):=by
 obtain⟨h1,h2,h3,T0,e,h4,h5⟩:=h;exact⟨h1,h2,h3,T0,e,h4,h5⟩
def jQ(Q:q7m)(f:qam)(args:Array q4k)(cs:List q7n):q4y:={ frame:=q9v Q f args .normal,callers:=cs,status:=.running,dying:=none }
theorem LT.of_calls(H:Duo Q Q){f:qam}{args:Array q4k}{w:q2v}{R:Ending->q2v->Prop}(hc:∀T,qa0 Q f args (w.tp T) R)(a6:∀u,¬ R .outgrown u)
  (hr:vY Q base (jQ Q f args [qi f]) w):LT Q (AtRet Q f [qi f] R) (jQ Q f args [qi f]) w:=by
 refine LT.of_all H (λg u T h=>h.tape T) hr λT=>?_;obtain⟨e,w',fr,hR,Z,hfn,a7⟩:=hc T [qi f];have hst:Steps Q (lone (q9v Q f args .normal) [qi f] (w.tp T)) (lone fr [qi f] w'):=by
  cases e with
  | returned v=>exact Z
  | panicked c=>exact Z
  | outgrown=>exact absurd hR (a6 _)
 obtain⟨n,hn⟩:=hst;exact LP.of_runs H (f:=f) n (g:=jQ Q f args [qi f]) (g1:={ frame:=fr,callers:=[qi f],status:=.running,dying:=none }) (u:=w.tp T) (pre:=[]) (hr.tape T) ⟨rfl,rfl⟩ rfl hn ⟨rfl,rfl⟩ ⟨[],rfl⟩ ⟨⟨rfl,rfl⟩,rfl,hfn,w'.tape,e,hR,a7⟩
end
end Go.Sim
end
section
namespace Go.Sim
section
variable[JunkSet]{Q P:q7m}{ρ:Ren}{base:Nat}{wq w:q2v}{F:q4y->q2v->Prop}
theorem LT.next{g:q4y}{u:q2v}(h:LT Q F g u)(hn:¬ F g u)(T:Nat->qbe->Nat):∃g1 u1 es,qag Q true g (u.tp T) true=.go g1 u1 es/\g1.status=.running/\g1.dying=none/\LT Q F g1 u1:=by
 cases h with
 | done h=>exact absurd h hn
 | step _ h1 h2 =>
  obtain⟨g1,u1,es,e,hs,hd⟩:=h1 T;exact⟨g1,u1,es,e,hs,hd,h2 T g1 u1 es e⟩
def Below(Q:q7m)(F:q4y->q2v->Prop)(a b:q4y × q2v):Prop :=
 ¬ F b.1 b.2/\∃T es,qag Q true b.1 (b.2.tp T) true=.go a.1 a.2 es
theorem LT.acc{g:q4y}{u:q2v}(h:LT Q F g u):Acc (Below Q F) (g,u):=by
 induction h with
 | done h=>exact .intro _ λy hy=>absurd h hy.1
 | step _ _ _ ih=>exact .intro _ λy hy=>let ⟨T,es,e⟩:=hy.2;ih T y.1 y.2 es e
theorem Yd(H:Duo Q P)(hb:base<=ρ.length)(hw:WR Q base ρ wq w)(hG:Gl P ρ){g g':q4y}(hg:kw Q P ρ g g')(hl:LT Q F g wq)(hn:¬ F g wq)(b:Bool) :
  ∃σ g1 wq1 g1' w1 es,qag P b g' w true=.go g1' w1 es/\YK Q P σ g1 g1'/\WR Q base σ wq1 w1/\Gl P σ/\base<=σ.length/\LT Q F g1 wq1/\Below Q F (g1,wq1) (g,wq)/\Eff base ρ σ w w1/\(∀e∈es,kz base σ e)/\g1.status=.running/\g1.dying=none:=by
 let T:Nat->qbe->Nat:=λn q=>w.tape (n - wq.drawn+w.drawn) q
 obtain⟨g1,u1,es,e,hs,hd,a6⟩:=hl.next hn T
 have Z:WR Q base ρ (wq.tp T) w:=⟨hw.len,hw.nodup,hw.lt,hw.obj,hw.low,hw.env,hw.below,hw.gar⟩
 have ho:=q2c H hb Z hG hg;have hm:=(ho.go _ _ _ e hs hd).2.1;have ht:zq u1.drawn (wq.tp T) w:=λn q _=>by
  show w.tape (wq.drawn+n - wq.drawn+w.drawn) q=w.tape (w.drawn+n) q;rw[show wq.drawn+n - wq.drawn+w.drawn=w.drawn+n by omega]
 obtain⟨σ,g1',w1,es',k0,k1,k2,_,k4,k5,_⟩:=Kz H hb Z hG ht hm hg b _ _ _ e (q4u _) hs hd;exact⟨σ,g1,u1,g1',w1,es',k0,k1,k2,hG.mono k4.le,q6s hb k4.le.len,a6,⟨hn,T,es,e⟩,k4,k5,hs,hd⟩
theorem WR.rely(h:WR Q base ρ wq w){w2:q2v}(hsz:w.heap.size<=w2.heap.size)(Z:w2.os.env=w.os.env)
  (hk:∀i j,BR ρ i j->¬ JunkSet.jk i->w2.heap[j]?=w.heap[j]?) (hj:∀i j,BR ρ i j->JunkSet.jk i->∃c e f,w2.heap[j]?=some (.cells c e f)):WR Q base ρ wq w2 where
 len:=h.len
 nodup:=h.nodup
 lt i j hb:=q7u (h.lt i j hb) hsz
 obj i j o hb ho:=by
  rcases h.obj i j o hb ho with⟨h1,h2,h3,_⟩ | ⟨h1,o',h2,h3⟩
  ·exact .inl ⟨h1,h2,h3,hj i j hb h1⟩
  ·exact .inr ⟨h1,o',by rw[hk i j hb h1];exact h2,h3⟩
 low:=h.low
 env:=h.env.trans Z.symm
 below:=h.below
 gar:=h.gar
end
end Go.Sim
end
section
namespace Go.Sim
def q5A(g:q4y):Prop:=∀r a k,g.frame.todo≠.extern r a::k
def swap(real:List q7n)(g:q4y):q4y:={ g with callers:=g.callers.dropLast++real }
def zp(real:List q7n)(r r':qby):Prop:=∀g1 u1 es,r=.go g1 u1 es->Live g1->g1.callers≠[]->q5A g1->r'=.go (swap real g1) u1 es
section
variable[JunkSet]{P:q7m}{f:qam}{real:List q7n}
theorem kU{r r':qby}{es:Array qaz}(h:zp real r r'):zp real (qan es r) (qan es r'):=λg1 u1 es' e hl hc hn=>by
 obtain⟨e0,h0,rfl⟩:=zR e;rw[h _ _ _ h0 hl hc hn];rfl
theorem qV{o:Outcome}{u:q2v}{es:Array qaz}{r':qby}:zp real (.ended o u es) r':=λ_ _ _ e _ _ _=>by cases e
theorem xw{r r':qby}(h:∀g u es,r≠.go g u es):zp real r r':=λg u es e _ _ _=>absurd e (h g u es)
theorem sw_dead{g:q4y}{u:q2v}{es:Array qaz}{r':qby}(h:¬ Live g):zp real (.go g u es) r':=λ_ _ _ e hl _ _=>by cases e;exact absurd hl h
theorem q1u{fr:q7n}{cs:List q7n}{m:String}{u:q2v}{r':qby}:zp real (endFatal P fr cs none m u) r':=λg1 u1 es e hl _ _=>absurd hl.2 (qY e)
theorem JF{fr:q7n}{m:String}{u:q2v}{r':qby}:zp real (endThrow fr m u) r':=sw_dead λh=>by cases h.2
theorem jV{fr:q7n}{pre:List q7n}{st:qc6}{dy:Option Dying}{off:Option (Array qch × qbF)}{u:q2v}{es:Array qaz} :
  zp real (.go { frame:=fr,callers:=pre++[qi f],status:=st,dying:=dy,offers:=off } u es) (.go { frame:=fr,callers:=pre++real,status:=st,dying:=dy,offers:=off } u es):=λ_ _ _ e _ _ _=>by
 cases e;simp[swap]
theorem q53{fr fr2:q7n}{pre:List q7n}{st:qc6}{dy:Option Dying}{off:Option (Array qch × qbF)}{u:q2v}{es:Array qaz} :
  zp real (.go { frame:=fr,callers:=fr2::(pre++[qi f]),status:=st,dying:=dy,offers:=off } u es) (.go { frame:=fr,callers:=fr2::(pre++real),status:=st,dying:=dy,offers:=off } u es) :=
 jV (pre:=fr2::pre)
theorem sw_app{fr fr2:q7n}{X pre:List q7n}{st:qc6}{dy:Option Dying}{off:Option (Array qch × qbF)}{u:q2v}{es:Array qaz} :
  zp real (.go { frame:=fr,callers:=X++fr2::(pre++[qi f]),status:=st,dying:=dy,offers:=off } u es) (.go { frame:=fr,callers:=X++fr2::(pre++real),status:=st,dying:=dy,offers:=off } u es):=λ_ _ _ e _ _ _=>by
 cases e;have:X++fr2::(pre++[qi f])=(X++fr2::pre)++[qi f]:=by simp
 simp only[swap,this,List.dropLast_concat];simp
theorem sw_nil{fr:q7n}{st:qc6}{dy:Option Dying}{u:q2v}{es:Array qaz}{r':qby}:zp real (.go { frame:=fr,callers:=[],status:=st,dying:=dy } u es) r':=λ_ _ _ e _ hc _=>by
 cases e;exact absurd rfl hc
theorem sw_ext{fr:q7n}{cs:List q7n}{st:qc6}{dy:Option Dying}{u:q2v}{es:Array qaz}{r':qby}{x:String}{a:Array q4k}{k:List qcG}(h:fr.todo=.extern x a::k):zp real (.go { frame:=fr,callers:=cs,status:=st,dying:=dy } u es) r':=λ_ _ _ e _ _ hn=>by
 cases e;exact absurd h (hn _ _ _)
theorem jJ(fr:q7n):q92 fr [qi f]=none:=by
 unfold q92;cases fr.kind<;>rfl
theorem Z3(hR:∀fr,q92 fr real=none):∀(pre:List q7n) (fr:q7n),
  (q92 fr (pre++[qi f])=none/\q92 fr (pre++real)=none)\/∃v pre',q92 fr (pre++[qi f])=some (v,pre'++[qi f])/\q92 fr (pre++real)=some (v,pre'++real):=by
 intro pre;induction pre with
 | nil=>intro fr;exact .inl ⟨jJ fr,hR fr⟩
 | cons p pre ih =>
  intro fr;simp only[q8G];unfold q92;cases hk:fr.kind with
  | deferred =>
   dsimp only;split
   ·exact .inr ⟨_,_::pre,rfl,rfl⟩
   ·exact .inl ⟨rfl,rfl⟩
  | wrapped =>
   dsimp only;rcases ih p with⟨h1,h2⟩ | ⟨v,pre',h1,h2⟩
   ·rw[h1,h2];exact .inl ⟨rfl,rfl⟩
   ·rw[h1,h2];exact .inr ⟨v,p::pre',rfl,rfl⟩
  | _=>exact .inl ⟨rfl,rfl⟩
theorem Zq{fr:q7n}{pre:List q7n}(b b':Bool)(v:q4k)(u:q2v):zp real (qbh P b fr (pre++[qi f]) none v u) (qbh P b' fr (pre++real) none v u):=by
 unfold qbh;cases pre with
 | nil =>
  simp only[q9k];split<;>exact sw_nil
 | cons p pre =>
  simp only[q8G];split<;>exact jV
theorem q80{fr:q7n}{pre:List q7n}(g:Nat)(u:q2v):zp real (early P fr (pre++[qi f]) none g u) (early P fr (pre++real) none g u):=by
 unfold early;dsimp only
 repeat' split
 all_goals first
  | exact jV
  | exact qV
  | exact sw_app
theorem xx(hrf:P.follows .rangeFuncRecover=true)(hR:∀fr,q92 fr real=none){fr:q7n}{pre:List q7n}(s:Sem qdb)(u:q2v):zp real (qaw P true fr (pre++[qi f]) none s u) (qaw P true fr (pre++real) none s u):=by
 unfold qaw;simp only[if_true,q9h,hrf];refine kU ?_;cases s.run P u with
 | ok a w =>
  cases a with
  | recover =>
   rcases Z3 (f:=f) hR pre fr with⟨h1,h2⟩ | ⟨v,pre',h1,h2⟩<;>cases hro:fr.roundOf<;>simp only[h1,h2,hro]<;>exact jV
  | stack r sv =>
   dsimp only;split
   ·exact sw_ext rfl
   ·exact sw_ext rfl
  | spawn d =>
   dsimp only
   repeat' split
   all_goals first
    | exact JF
    | exact xw (λ_ _ _ e=>by cases e)
  | _ =>
   dsimp only
   repeat' split
   all_goals first
    | exact jV
    | exact q53
    | exact xw (λ_ _ _ e=>by cases e)
 | halt x w =>
  cases x with
  | fatal m=>exact q1u
  | throw m=>exact JF
  | unsupported x=>cases x<;>first | exact q80 _ _ | exact qV
  | _=>first | exact jV | exact qV
theorem q1v(hR:∀fr,q92 fr real=none){fr:q7n}{pre:List q7n}(d:qba)(u:q2v):zp real (qbd P fr (pre++[qi f]) none d u) (qbd P fr (pre++real) none d u):=by
 unfold qbd;by_cases hc:(kb d.target && ka fr.mode)=true
 ·have:∀(a b r':qby),(∃o u es,a=.ended o u es)->zp real (if(kb d.target && ka fr.mode)=true then a else b) r':=λa b r' ⟨o,u,es,e⟩=>by
   rw[if_pos hc,e];exact qV
  exact this _ _ _ ⟨_,_,_,rfl⟩
 have Z:∀(a b a' b':qby),zp real b b'->zp real (if(kb d.target && ka fr.mode)=true then a else b) (if(kb d.target && ka fr.mode)=true then a' else b'):=λa b a' b' hb=>by rw[if_neg hc,if_neg hc];exact hb
 refine Z _ _ _ _ ?_;simp only[q9h];refine kU ?_;cases qar P (invoke d.target d.args) u with
 | ok a w =>
  cases a with
  | recover =>
   dsimp only;rcases Z3 (f:=f) hR pre fr with⟨h1,h2⟩ | ⟨v,pre',h1,h2⟩<;>rw[h1,h2]<;>cases fr.mode<;>exact jV
  | coroswitch c e=>cases e<;>first | exact qV | exact xw (λ_ _ _ e=>by cases e)
  | alone on v=>cases on<;>first | exact qV | exact xw (λ_ _ _ e=>by cases e)
  | _ =>
   first
    | exact jV
    | exact q53
    | exact qV
    | exact xw (λ_ _ _ e=>by cases e)
 | halt x w =>
  cases x with
  | fatal m=>exact q1u
  | throw m=>exact JF
  | _=>first | exact jV | exact qV
theorem Kj(hR:∀fr,q92 fr real=none){fr:q7n}{pre:List q7n}(b b':Bool)(u:q2v):zp real (unwind P b fr (pre++[qi f]) none u) (unwind P b' fr (pre++real) none u):=by
 unfold unwind;split
 ·simp only[q9h]
  refine kU ?_;split
  ·exact jV
  ·exact qV
 ·exact q1v hR _ _
 ·split
  ·exact qV
  ·split
   ·exact qV
   ·cases pre with
    | nil=>exact sw_nil
    | cons p pre=>exact jV
  ·split
   ·exact Zq _ _ _ _
   ·simp only[q9h]
    refine kU ?_;split
    ·exact Zq _ _ _ _
    all_goals exact qV
theorem sw_exec(hrf:P.follows .rangeFuncRecover=true)(hR:∀fr,q92 fr real=none){fr:q7n}{pre:List q7n}(b b':Bool)(u:q2v) :
  zp real (qcg P b true fr (pre++[qi f]) none u) (qcg P b' true fr (pre++real) none u):=by
 have Z:∀(j:Bool) (jj:Option qbs) (s s':String),zp real (match fr.roundOf with
   | none=>if j=true then .go { frame:={ fr with mode:=.returning },callers:=pre++[qi f],status:=.running,dying:=none } u else .ended (.stuck s (fr.pos P)) u
   | some l =>
    let (r,es):=(qc5 l jj).runT P u #[]
    qan (seen P fr.fn es) <| match r with
    | .ok v w=>qbh P b fr (pre++[qi f]) none v w
    | .halt _ w=>.ended (.stuck s' (fr.pos P)) w) (match fr.roundOf with
   | none=>if j=true then .go { frame:={ fr with mode:=.returning },callers:=pre++real,status:=.running,dying:=none } u else .ended (.stuck s (fr.pos P)) u
   | some l =>
    let (r,es):=(qc5 l jj).runT P u #[]
    qan (seen P fr.fn es) <| match r with
    | .ok v w=>qbh P b' fr (pre++real) none v w
    | .halt _ w=>.ended (.stuck s' (fr.pos P)) w):=λj jj s s'=>by
  split
  ·split
   ·exact jV
   ·exact qV
  ·simp only[q9h]
   refine kU ?_;split
   ·exact Zq _ _ _ _
   ·exact qV
 unfold qcg;dsimp only;split
 ·exact Z true _ _ _
 ·exact Z true _ _ _
 all_goals first
  | exact jV
  | exact qV
  | exact xx hrf hR _ _
  | (
    generalize exitTo _ _=X;cases X
    ·exact Z false _ _ _
    ·exact jV)
  | (
    generalize gotoIn _ _=X;cases X
    ·exact Z false _ _ _
    ·exact jV)
  | (
    unfold stepG.oper
    repeat' split
    all_goals first
     | exact jV
     | exact qV
     | exact xx hrf hR _ _)
  | (
    simp only[q9h];refine kU ?_
    repeat' split
    all_goals first
     | exact jV
     | exact qV
     | exact xx hrf hR _ _)
  | (
    repeat' split
    all_goals first
     | exact jV
     | exact qV
     | exact xx hrf hR _ _)
  | (
    generalize Extern.next _=X
    cases X
    ·exact qV
    ·exact xx hrf hR _ _)
theorem Ki(hrf:P.follows .rangeFuncRecover=true)(hR:∀fr,q92 fr real=none){g:q4y}{pre:List q7n}(h:g.callers=pre++[qi f])(hd:g.dying=none)(b b':Bool)(u:q2v) :
  zp real (qag P b g u true) (qag P b' (swap real g) u true):=by
 obtain⟨fr,cs,st,dy,off⟩:=g;dsimp only at h hd;subst hd;subst h;unfold qag;simp only[swap,List.dropLast_concat];cases fr.mode with
 | run=>exact sw_exec hrf hR b b' u
 | returning=>exact Kj hR b b' u
 | panicking l=>exact Kj hR b b' u
end
end Go.Sim
end
