/-
  Part 1 of the proof. gladstonelaw04.PileMost answers true for every list of numbers, and leaves its argument as it was. No conditions.
-/
import GoSem.Step
import Derived.StepT
import Derived.Laws.Sem
import Derived.Conc.Events
import Derived.Calls
set_option maxRecDepth 100000
set_option maxHeartbeats 8000000
set_option linter.all false
open Array renaming all_eq_true_iff_forall_mem → qbu,foldl_toList → qev,forIn_toList → qe1,getD_eq_getD_getElem? → qbm,getElem?_append → qdk,getElem?_eq_getElem → q9w,getElem?_eq_some_iff → q45,getElem?_setIfInBounds → qav,mapM_eq_mapM_toList → qdu,mem_append → qdc,mem_of_getElem? → qby,mem_toList_iff → qcs
open Bool renaming and_eq_true → q9b,false_eq_true → qa5,or_eq_true → qcy
open Classical renaming byContradiction → qbw,choose → qd3,choose_spec → qdl
open Go renaming Addr → qb9,Calls → qaD,Code → qcm,CommCase → qda,CommShape → qcB,Deferred → qc3,Event → qbr,Frame → q8c,FuncId → qbe,GStep → qcu,GoStatus → qd0,Goroutine → q5r,Item → qdy,MapEntry → qdm,Next → qe4,Oper → qbz,Operand → qaH,Program → q8b,Question → qc7,Result → qe0,TypeId → q8u,Value → q58,World → q3g,behindNumber → qct,boundsPanic → qdG,callDeferred → qc6,cellAtBytes → qex,doReturn → qc9,runtimePanic → qdo,stepG → qb7,tryRecover → q9A,typeInfo → qdD,undef → q5s,underlying → qdg
open Go.Builtin renaming unsafeAdd_ → qcf,zeroCells → qck
open Go.Frame renaming enter → qan
open Go.GStep renaming after → qbf
open Go.GStep.go renaming injEq → qdz
open Go.Instr renaming checkKey → qdx,endRound → qcH,enterLoop → qet,fill → qel,keyThatStays → qbl,mapUpdate → qbE,sameBits → qcA,sliceBound → qdd,typeAssert → qdw
open Go.Region renaming wanted → qb0
open Go.Result renaming andThen_ok → qbC
open Go.Sem renaming bind → qej,events_bind → qed,run → qbk,runT → qe8,runT_eq → qad,run_bind → qbB
open Go.World renaming cell? → qal,farStore → qek,setCell → qci
open Go.stepG renaming apply → qbn,exec → qd9
open List renaming all_eq_true → qau,cons_append → q9y,getElem?_append_left → qaj,getElem?_eq_some_iff → q8w,mapM_cons → qey,mem_toArray → qde,nil_append → qae
open List.cons renaming injEq → qd1
open Nat renaming le_refl → q5m,le_trans → q87,lt_irrefl → qee,lt_of_lt_of_le → q8m,lt_or_ge → qbF
open Option renaming getD_some → q88,map_some → qbt
open Option.some renaming injEq → qaz
open Std.Legacy.Range renaming forIn_eq_forIn_range' → qc8
section
namespace Go.Sim
abbrev Ren:=List (Option Nat)
def BR(ρ:Ren)(i j:Nat):Prop:=ρ[i]?=some (some j)
def Inj(ρ:Ren):Prop:=∀i i' j,BR ρ i j->BR ρ i' j->i=i'
def Out(ρ:Ren)(j:Nat):Prop:=∀i,¬ BR ρ i j
def Le(ρ σ:Ren):Prop:=(∃τ,σ=ρ++τ)/\(Inj ρ->Inj σ)
theorem BR.lt{ρ:Ren}{i j:Nat}(h:BR ρ i j):i<ρ.length:=by
 unfold BR at h;exact(q8w.1 h).1
theorem BR.new(ρ:Ren)(j:Nat):BR (ρ++[some j]) ρ.length j:=by simp[BR]
theorem BR.fn{ρ:Ren}{i j k:Nat}(h:BR ρ i j)(h':BR ρ i k):j=k:=by
 unfold BR at h h';rw[h] at h';exact Option.some.inj (Option.some.inj h')
theorem Le.refl(ρ:Ren):Le ρ ρ:=⟨⟨[],by simp⟩,id⟩
theorem Le.trans{a b c:Ren}(h:Le a b)(k:Le b c):Le a c:=by
 obtain⟨⟨x,rfl⟩,h2⟩:=h;obtain⟨⟨y,rfl⟩,k2⟩:=k;exact⟨⟨x++y,by simp⟩,λn=>k2 (h2 n)⟩
theorem BR.snoc_cases{ρ:Ren}{x:Option Nat}{i j:Nat}(h:BR (ρ++[x]) i j):(i<ρ.length/\BR ρ i j)\/(i=ρ.length/\x=some j):=by
 have hl:=h.lt;simp at hl;unfold BR at h ⊢;rcases qbF i ρ.length with h1 | h1
 ·rw[qaj h1] at h
  exact .inl ⟨h1,h⟩
 ·have e:i=ρ.length:=by omega
  subst e;simp at h;exact .inr ⟨rfl,h⟩
theorem Le.snoc(ρ:Ren)(j:Nat)(hj:Out ρ j):Le ρ (ρ++[some j]):=⟨⟨[some j],rfl⟩,λn i i' k h h'=>by
 rcases h.snoc_cases with⟨_,h⟩ | ⟨h1,h2⟩<;>rcases h'.snoc_cases with⟨_,h'⟩ | ⟨h1',h2'⟩
 ·exact n i i' k h h'
 ·cases h2';exact absurd h (hj i)
 ·cases h2;exact absurd h' (hj i')
 ·rw[h1,h1']⟩
theorem BR.mono{ρ σ:Ren}{i j:Nat}(h:BR ρ i j)(l:Le ρ σ):BR σ i j:=by
 obtain⟨⟨τ,rfl⟩,_⟩:=l;have hl:=h.lt;unfold BR at h ⊢;rw[qaj hl];exact h
def exotic:q58->Bool
 | .bool _ | .int _ _ | .string _ | .pointer none | .slice none _ _ | .map none | .nilFunc | .nilIface | .agg _ | .tuple _ | .func (.method _) _ _=>false
 | _=>true
class JunkSet where
 jk:Nat->Prop
 okf:qbe->Prop
 okm:String->Prop
 okc:qcm->Prop
 okb:Builtin->Array q8u->Prop
 okg:qbe->Prop
section
variable[JunkSet]
inductive FnR (ρ:Ren):Fn->Fn->Prop
 | func (f:qbe):JunkSet.okf f->FnR ρ (.func f) (.func f)
 | yield {i j:Nat}:BR ρ i j->FnR ρ (.yield i) (.yield j)
inductive VR (ρ:Ren):q58->q58->Prop
 | bool (b:Bool):VR ρ (.bool b) (.bool b)
 | int (k:IntKind) (n:Int):VR ρ (.int k n) (.int k n)
 | string (s:ByteArray):VR ρ (.string s) (.string s)
 | ptrNil:VR ρ (.pointer none) (.pointer none)
 | ptr {i j:Nat} (off:Nat) (spot:Option Nat):BR ρ i j->VR ρ (.pointer (some ⟨i,off,spot⟩)) (.pointer (some ⟨j,off,spot⟩))
 | sliceNil (n c:Nat):VR ρ (.slice none n c) (.slice none n c)
 | slice {i j:Nat} (off:Nat) (spot:Option Nat) (n c:Nat):BR ρ i j->VR ρ (.slice (some ⟨i,off,spot⟩) n c) (.slice (some ⟨j,off,spot⟩) n c)
 | mapNil:VR ρ (.map none) (.map none)
 | map {i j:Nat}:BR ρ i j->VR ρ (.map (some i)) (.map (some j))
 | func {f f':Fn} {a a' c c':Array q58}:FnR ρ f f'->a.size=a'.size->(∀(i:Nat) (x y:q58),a[i]?=some x->a'[i]?=some y->VR ρ x y) ->
   c.size=c'.size->(∀(i:Nat) (x y:q58),c[i]?=some x->c'[i]?=some y->VR ρ x y)->VR ρ (.func f a c) (.func f' a' c')
 | nilFunc:VR ρ .nilFunc .nilFunc
 | iface (t:q8u) {v v':q58}:VR ρ v v'->VR ρ (.iface t v) (.iface t v')
 | nilIface:VR ρ .nilIface .nilIface
 | agg {a a':Array q58}:a.size=a'.size->(∀(i:Nat) (x y:q58),a[i]?=some x->a'[i]?=some y->VR ρ x y)->VR ρ (.agg a) (.agg a')
 | tuple {a a':Array q58}:a.size=a'.size->(∀(i:Nat) (x y:q58),a[i]?=some x->a'[i]?=some y->VR ρ x y)->VR ρ (.tuple a) (.tuple a')
 | wild (y:q58):exotic y=true->VR ρ (.chan none) y
 | meth (n:String) (a c:Array q58):VR ρ (.func (.method "") #[.iface 0 .nilIface] #[]) (.func (.method n) a c)
theorem FnR.mono{ρ σ:Ren}(l:Le ρ σ){f f':Fn}(h:FnR ρ f f'):FnR σ f f':=by
 cases h with
 | func f h=>exact .func f h
 | yield h=>exact .yield (h.mono l)
theorem VR.mono{ρ σ:Ren}(l:Le ρ σ){v v':q58}(h:VR ρ v v'):VR σ v v':=by
 induction h with
 | bool b=>exact .bool b
 | int k n=>exact .int k n
 | string s=>exact .string s
 | ptrNil=>exact .ptrNil
 | ptr off spot h=>exact .ptr off spot (h.mono l)
 | sliceNil n c=>exact .sliceNil n c
 | slice off spot n c h=>exact .slice off spot n c (h.mono l)
 | mapNil=>exact .mapNil
 | map h=>exact .map (h.mono l)
 | func hf h1 _ h2 _ ih1 ih2=>exact .func (hf.mono l) h1 ih1 h2 ih2
 | nilFunc=>exact .nilFunc
 | iface t _ ih=>exact .iface t ih
 | nilIface=>exact .nilIface
 | agg h _ ih=>exact .agg h ih
 | tuple h _ ih=>exact .tuple h ih
 | wild y h=>exact .wild y h
 | meth n a c=>exact .meth n a c
def AsR(ρ:Ren)(a b:Array q58):Prop:=a.size=b.size/\∀(i:Nat) (x y:q58),a[i]?=some x->b[i]?=some y->VR ρ x y
inductive LsR {α β:Type} (R:α->β->Prop):List α->List β->Prop
 | nil:LsR R [] []
 | cons {x:α} {y:β} {l:List α} {m:List β}:R x y->LsR R l m->LsR R (x::l) (y::m)
section
variable{α β:Type}{R:α->β->Prop}
theorem LsR.imp{S:α->β->Prop}(h:∀x y,R x y->S x y){l:List α}{m:List β}(k:LsR R l m):LsR S l m:=by
 induction k with
 | nil=>exact .nil
 | cons a _ ih=>exact .cons (h _ _ a) ih
theorem LsR.length{l:List α}{m:List β}(h:LsR R l m):l.length=m.length:=by
 induction h with
 | nil=>rfl
 | cons _ _ ih=>simp[ih]
theorem LsR.append{l l':List α}{m m':List β}(h:LsR R l m)(h':LsR R l' m'):LsR R (l++l') (m++m'):=by
 induction h with
 | nil=>exact h'
 | cons a _ ih=>exact .cons a ih
theorem q6c{l:List α}{m:List β}:LsR R l m↔l.length=m.length/\∀(i:Nat) (x:α) (y:β),l[i]?=some x->m[i]?=some y->R x y:=by
 constructor
 ·intro h
  refine⟨h.length,?_⟩;induction h with
  | nil=>intro i x y hx;simp at hx
  | cons a _ ih =>
   intro i x y hx hy;cases i with
   | zero=>simp at hx hy;subst hx;subst hy;exact a
   | succ i=>exact ih i x y (by simpa using hx) (by simpa using hy)
 ·rintro⟨h1,h2⟩
  induction l generalizing m with
  | nil=>cases m with
   | nil=>exact .nil
   | cons _ _=>simp at h1
  | cons x l ih=>cases m with
   | nil=>simp at h1
   | cons y m=>exact .cons (h2 0 x y rfl rfl) (ih (by simpa using h1) λi a b ha hb=>h2 (i+1) a b (by simpa using ha) (by simpa using hb))
end
section
variable{ρ σ:Ren}{a b a' b':Array q58}
theorem zf:AsR ρ a b↔LsR (VR ρ) a.toList b.toList:=by
 rw[q6c];simp[AsR]
theorem AsR.mono(l:Le ρ σ)(h:AsR ρ a b):AsR σ a b:=⟨h.1,λi x y hx hy=>(h.2 i x y hx hy).mono l⟩
theorem AsR.get(h:AsR ρ a b){i:Nat}{x:q58}(hx:a[i]?=some x):∃y,b[i]?=some y/\VR ρ x y:=by
 have hi:i<b.size:=h.1 ▸ (q45.1 hx).1;exact⟨b[i],q9w hi,h.2 i x _ hx (q9w hi)⟩
theorem AsR.get_none(h:AsR ρ a b){i:Nat}(hx:a[i]?=none):b[i]?=none:=by
 rw[Array.getElem?_eq_none_iff] at hx ⊢;exact h.1 ▸ hx
theorem AsR.getD(h:AsR ρ a b)(i:Nat){d d':q58}(hd:VR ρ d d'):VR ρ (a.getD i d) (b.getD i d'):=by
 rw[qbm,qbm];cases ha:a[i]? with
 | none=>rw[h.get_none ha];exact hd
 | some x=>obtain⟨y,hy,hv⟩:=h.get ha;rw[hy];exact hv
theorem AsR.nil:AsR ρ #[] #[]:=⟨rfl,λi x y hx=>by simp at hx⟩
theorem AsR.append(h:AsR ρ a b)(h':AsR ρ a' b'):AsR ρ (a++a') (b++b'):=by
 rw[zf] at *
 simpa using h.append h'
theorem AsR.push(h:AsR ρ a b){x y:q58}(hv:VR ρ x y):AsR ρ (a.push x) (b.push y):=by
 rw[zf] at *
 simpa using h.append (.cons hv .nil)
theorem AsR.one{x y:q58}(hv:VR ρ x y):AsR ρ #[x] #[y]:=by
 rw[zf];exact .cons hv .nil
theorem AsR.set(h:AsR ρ a b)(i:Nat){x y:q58}(hv:VR ρ x y):AsR ρ (a.setIfInBounds i x) (b.setIfInBounds i y):=by
 refine⟨by simpa using h.1,λj u v hu Z=>?_⟩;rw[qav] at hu Z;by_cases hij:i=j
 ·subst hij
  by_cases hi:i<a.size
  ·rw[if_pos rfl,if_pos hi] at hu
   rw[if_pos rfl,if_pos (h.1 ▸ hi)] at Z;cases hu;cases Z;exact hv
  ·rw[if_pos rfl,if_neg hi] at hu
   cases hu
 ·rw[if_neg hij] at hu Z
  exact h.2 j u v hu Z
theorem AsR.extract(h:AsR ρ a b)(i j:Nat):AsR ρ (a.extract i j) (b.extract i j):=by
 refine⟨by simp[h.1],λk x y hx hy=>?_⟩;rw[Array.getElem?_extract] at hx hy;split at hx
 ·split at hy
  ·exact h.2 _ x y hx hy
  ·cases hy
 ·cases hx
end
inductive kY:q58->Prop
 | bool (b:Bool):kY (.bool b)
 | int (k:IntKind) (n:Int):kY (.int k n)
 | string (s:ByteArray):kY (.string s)
 | ptrNil:kY (.pointer none)
 | sliceNil (n c:Nat):kY (.slice none n c)
 | mapNil:kY (.map none)
 | nilFunc:kY .nilFunc
 | nilIface:kY .nilIface
 | agg {a:Array q58}:(∀(i:Nat) (x:q58),a[i]?=some x->kY x)->kY (.agg a)
 | tuple {a:Array q58}:(∀(i:Nat) (x:q58),a[i]?=some x->kY x)->kY (.tuple a)
theorem kY.vr(ρ:Ren){v:q58}(h:kY v):VR ρ v v:=by
 induction h with
 | bool b=>exact .bool b
 | int k n=>exact .int k n
 | string s=>exact .string s
 | ptrNil=>exact .ptrNil
 | sliceNil n c=>exact .sliceNil n c
 | mapNil=>exact .mapNil
 | nilFunc=>exact .nilFunc
 | nilIface=>exact .nilIface
 | agg _ ih=>exact .agg rfl λi x y hx hy=>by rw[hx] at hy;cases hy;exact ih i x hx
 | tuple _ ih=>exact .tuple rfl λi x y hx hy=>by rw[hx] at hy;cases hy;exact ih i x hx
def YY:q58->Bool
 | .bool _ | .int _ _ | .string _ | .pointer none | .slice none _ _ | .map none | .nilFunc | .nilIface=>true
 | _=>false
def bareB:q58->Bool
 | .agg a | .tuple a=>a.toList.all λv=>match v with
   | .agg b | .tuple b=>b.toList.all YY
   | v=>YY v
 | v=>YY v
theorem YX{v:q58}(h:YY v=true):kY v:=by
 cases v with
 | bool b=>exact .bool b
 | int k n=>exact .int k n
 | string s=>exact .string s
 | pointer a=>cases a with
  | none=>exact .ptrNil
  | some _=>cases h
 | slice a n c=>cases a with
  | none=>exact .sliceNil n c
  | some _=>cases h
 | map a=>cases a with
  | none=>exact .mapNil
  | some _=>cases h
 | chan a=>cases h
 | float k b=>cases h
 | complex k a b=>cases h
 | func _ _ _=>cases h
 | nilFunc=>exact .nilFunc
 | iface _ _=>cases h
 | nilIface=>exact .nilIface
 | agg _=>cases h
 | tuple _=>cases h
theorem q0s{a:Array q58}(h:a.toList.all YY=true)(i:Nat)(x:q58)(hx:a[i]?=some x):kY x:=by
 rw[qau] at h;exact YX (h x (by rw[qcs];exact qby hx))
theorem q1w{v:q58}(h:bareB v=true):kY v:=by
 have key:∀a:Array q58,(a.toList.all λv=>match v with
   | .agg b | .tuple b=>b.toList.all YY
   | v=>YY v)=true->∀(i:Nat) (x:q58),a[i]?=some x->kY x:=by
  intro a ha i x hx;rw[qau] at ha;have:=ha x (by rw[qcs];exact qby hx);cases x with
  | agg b=>exact .agg (q0s this)
  | tuple b=>exact .tuple (q0s this)
  | _=>exact YX this
 cases v with
 | agg a=>exact .agg (key a h)
 | tuple a=>exact .tuple (key a h)
 | _=>exact YX h
structure yZ(ρ:Ren)(e e':qdm):Prop where
 key:VR ρ e.key e'.key
 val:VR ρ e.val e'.val
 born:e'.born=e.born
inductive ym (ρ:Ren):Target->Target->Prop
 | fn {f f':Fn} {c c':Array q58}:FnR ρ f f'->AsR ρ c c'->ym ρ (.fn f c) (.fn f' c')
 | meth (n:String):JunkSet.okm n->ym ρ (.fn (.method n) #[]) (.fn (.method n) #[])
 | nil:ym ρ .nil .nil
 | builtin (b:Builtin) (a:Array q8u) (t:q8u) (c:Array Bool):JunkSet.okb b a->ym ρ (.builtin b a t c) (.builtin b a t c)
 | collected {i j:Nat}:BR ρ i j->ym ρ (.collected i) (.collected j)
inductive yO (ρ:Ren) (d d':qc3):Prop
 | mk:ym ρ d.target d'.target->AsR ρ d.args d'.args->yO ρ d d'
 | bound:d.target=.fn (.method "") #[]->d.args[0]?=some (.iface 0 .nilIface)->(∃n c,d'.target=.fn (.method n) c)->yO ρ d d'
structure QD(ρ:Ren)(l l':Loop):Prop where
 state:l'.state=l.state
 pending:l'.pending=l.pending
 fn:l'.fn=l.fn
 tmps:AsR ρ l.tmps l'.tmps
 params:l'.params=l.params
 assign:l'.assign=l.assign
 body:l'.body=l.body
 defers:BR ρ l.defers l'.defers
 okF:JunkSet.okg l.fn
 okA:JunkSet.okc l.assign
 okB:JunkSet.okc l.body
 okP:∀c,l.pending=some c->JunkSet.okc c
inductive ObR (ρ:Ren):Obj->Obj->Prop
 | cells {c c':Array q58} (e:q8u) {f f':Nat × Nat}:AsR ρ c c'->(∀o,f'.1<=o->o<f'.2->f.1<=o/\o<f.2)->ObR ρ (.cells c e f) (.cells c' e f')
 | map {es es':Array qdm} (clock:Nat):LsR (yZ ρ) es.toList es'.toList->ObR ρ (.map es clock) (.map es' clock)
 | stringIter (s:ByteArray) (p:Nat):ObR ρ (.stringIter s p) (.stringIter s p)
 | mapIterNil (a:Nat) (s:Array Nat) (b:Nat):ObR ρ (.mapIter none a s b) (.mapIter none a s b)
 | mapIter {i j:Nat} (a:Nat) (s:Array Nat) (b:Nat):BR ρ i j->ObR ρ (.mapIter (some i) a s b) (.mapIter (some j) a s b)
 | loop {l l':Loop}:QD ρ l l'->ObR ρ (.loop l) (.loop l')
 | number {i j:Nat} (o:Nat) (s:Option Nat) (lost:Bool):BR ρ i j->ObR ρ (.number ⟨i,o,s⟩ lost) (.number ⟨j,o,s⟩ lost)
 | deferredNone:ObR ρ (.deferred none) (.deferred none)
 | deferred {l l':List qc3}:LsR (yO ρ) l l'->ObR ρ (.deferred (some l)) (.deferred (some l'))
section
variable{ρ σ:Ren}
theorem yZ.mono(l:Le ρ σ){a b:qdm}(h:yZ ρ a b):yZ σ a b:=⟨h.key.mono l,h.val.mono l,h.born⟩
theorem ym.mono(l:Le ρ σ){a b:Target}(h:ym ρ a b):ym σ a b:=by
 cases h with
 | fn h1 h2=>exact .fn (h1.mono l) (h2.mono l)
 | meth n h=>exact .meth n h
 | nil=>exact .nil
 | builtin b a t c h=>exact .builtin b a t c h
 | collected h=>exact .collected (h.mono l)
theorem yO.mono(l:Le ρ σ){a b:qc3}(h:yO ρ a b):yO σ a b:=by
 cases h with
 | mk h1 h2=>exact .mk (h1.mono l) (h2.mono l)
 | bound h1 h2 h3=>exact .bound h1 h2 h3
theorem QD.mono(l:Le ρ σ){a b:Loop}(h:QD ρ a b):QD σ a b:=⟨h.state,h.pending,h.fn,h.tmps.mono l,h.params,h.assign,h.body,h.defers.mono l,h.okF,h.okA,h.okB,h.okP⟩
theorem ObR.mono(l:Le ρ σ){a b:Obj}(h:ObR ρ a b):ObR σ a b:=by
 cases h with
 | cells e h1 h2=>exact .cells e (h1.mono l) h2
 | map c h=>exact .map c (h.imp λ_ _ k=>k.mono l)
 | stringIter s p=>exact .stringIter s p
 | mapIterNil a s b=>exact .mapIterNil a s b
 | mapIter a s b h=>exact .mapIter a s b (h.mono l)
 | loop h=>exact .loop (h.mono l)
 | number o s x h=>exact .number o s x (h.mono l)
 | deferredNone=>exact .deferredNone
 | deferred h=>exact .deferred (h.imp λ_ _ k=>k.mono l)
end
end
end Go.Sim
end
section
namespace Go.Sim
abbrev Rel (α β:Type):=Ren->α->β->Prop
def odd:Halt->Bool
 | .panic _ | .goexit | .unsupported (.initOrder _)=>true
 | _=>false
def zH:Obj->Bool
 | .pending ..=>true
 | _=>false
def Bad(Q:q8b){α:Type}:Sem α->Prop
 | .pure _=>False
 | .load _ _ k=>∀v,Bad Q (k v)
 | .store _ _ _ k=>Bad Q k
 | .new o k=>zH o=false/\∀r,Bad Q (k r)
 | .shape _ k=>∀x,Bad Q (k x)
 | .freeze _ _ k=>Bad Q k
 | .frozen _ k=>∀b,Bad Q (k b)
 | .getObj _ k=>∀o,Bad Q (k o)
 | .setObj _ o k=>zH o=false/\Bad Q k
 | .choose _ k=>∀n,Bad Q (k n)
 | .sys _ k=>∀r,Bad Q (k r)
 | .program k=>Bad Q (k Q)
 | .mark _ k=>Bad Q k
 | .halt h=>odd h=false
def yQ(Q:q8b):q8u:=Q.types.size
def ShR[JunkSet](Q:q8b)(r:Nat)(x x':Option (q8u × Nat)):Prop:=(¬ JunkSet.jk r/\x'=x)\/(JunkSet.jk r/\Q.globals.size<=r/\x=some (yQ Q,0)/\∃e n,x'=some (e,n))
def SR[JunkSet](Q P:q8b){α β:Type}(R:Rel α β):Sem α->Ren->Sem β->Prop
 | .pure a=>λρ s'=>∃b,s'=.pure b/\R ρ a b
 | .load m a k=>λρ s'=>Bad Q (.load m a k)\/(m=.plain/\∃j k',s'=.load .plain ⟨j,a.off,a.spot⟩ k'/\BR ρ a.block j/\∀v v',VR ρ v v'->SR Q P R (k v) ρ (k' v'))
 | .store m a v k=>λρ s'=>Bad Q (.store m a v k)\/(m=.plain/\∃j v' k',s'=.store .plain ⟨j,a.off,a.spot⟩ v' k'/\BR ρ a.block j/\VR ρ v v'/\SR Q P R k ρ k')
 | .new o k=>λρ s'=>Bad Q (.new o k)\/∃o' k',s'=.new o' k'/\ObR ρ o o'/\∀j,Out ρ j->SR Q P R (k ρ.length) (ρ++[some j]) (k' j)
 | .shape r k=>λρ s'=>Bad Q (.shape r k)\/∃j k',s'=.shape j k'/\BR ρ r j/\∀x x',ShR Q r x x'->SR Q P R (k x) ρ (k' x')
 | .getObj r k=>λρ s'=>Bad Q (.getObj r k)\/∃j k',s'=.getObj j k'/\BR ρ r j/\∀o o',ObR ρ o o'->SR Q P R (k o) ρ (k' o')
 | .setObj r o k=>λρ s'=>Bad Q (.setObj r o k)\/∃j o' k',s'=.setObj j o' k'/\BR ρ r j/\ObR ρ o o'/\SR Q P R k ρ k'
 | .choose q k=>λρ s'=>Bad Q (.choose q k)\/∃k',s'=.choose q k'/\∀n,SR Q P R (k n) ρ (k' n)
 | .sys c k=>λρ s'=>Bad Q (.sys c k)\/(c=.env/\∃k',s'=.sys .env k'/\∀r,SR Q P R (k r) ρ (k' r))
 | .program k=>λρ s'=>Bad Q (.program k)\/∃k',s'=.program k'/\SR Q P R (k Q) ρ (k' P)
 | .mark m k=>λρ s'=>Bad Q (.mark m k)\/(m=.noRoom/\∃k',s'=.mark .noRoom k'/\SR Q P R k ρ k')
 | .halt (.panic v)=>λρ s'=>∃v',s'=.halt (.panic v')/\VR ρ v v'
 | .halt h=>λ_ _=>odd h=false
 | .freeze a n k=>λ_ _=>Bad Q (.freeze a n k)
 | .frozen a k=>λ_ _=>Bad Q (.frozen a k)
theorem Bad.bind{Q:q8b}{α γ:Type}{s:Sem α}(h:Bad Q s)(f:α->Sem γ):Bad Q (s.bind f):=by
 induction s with
 | pure a=>exact h.elim
 | load m a k ih=>exact λv=>ih v (h v)
 | store m a v k ih=>exact ih h
 | new o k ih=>exact⟨h.1,λv=>ih v (h.2 v)⟩
 | shape r k ih=>exact λv=>ih v (h v)
 | freeze a n k ih=>exact ih h
 | frozen a k ih=>exact λv=>ih v (h v)
 | getObj r k ih=>exact λv=>ih v (h v)
 | setObj r o k ih=>exact⟨h.1,ih h.2⟩
 | choose q k ih=>exact λv=>ih v (h v)
 | sys c k ih=>exact λv=>ih v (h v)
 | program k ih=>exact ih Q h
 | mark m k ih=>exact ih h
 | halt x=>exact h
theorem SR.bad[JunkSet]{Q P:q8b}{α β:Type}{R:Rel α β}{s:Sem α}{ρ:Ren}{s':Sem β}(h:Bad Q s):SR Q P R s ρ s':=by
 cases s with
 | pure a=>exact h.elim
 | load m a k=>exact .inl h
 | store m a v k=>exact .inl h
 | new o k=>exact .inl h
 | shape r k=>exact .inl h
 | freeze a n k=>exact h
 | frozen a k=>exact h
 | getObj r k=>exact .inl h
 | setObj r o k=>exact .inl h
 | choose q k=>exact .inl h
 | sys c k=>exact .inl h
 | program k=>exact .inl h
 | mark m k=>exact .inl h
 | halt x =>
  cases x with
  | panic v=>cases h
  | _=>exact h
section
variable[JunkSet]{Q P:q8b}{α β γ δ:Type}{R:Rel α β}{S:Rel γ δ}
theorem SR.bind{s:Sem α}{ρ:Ren}{s':Sem β}{f:α->Sem γ}{f':β->Sem δ}(h:SR Q P R s ρ s')
  (hf:∀σ a b,Le ρ σ->R σ a b->SR Q P S (f a) σ (f' b)):SR Q P S (s.bind f) ρ (s'.bind f'):=by
 induction s generalizing ρ s' with
 | pure a =>
  obtain⟨b,rfl,hr⟩:=h;exact hf ρ a b (.refl ρ) hr
 | load m a k ih =>
  rcases h with hb | ⟨hm,j,k',rfl,hb,hk⟩
  ·exact .bad (hb.bind f)
  ·exact .inr ⟨hm,j,_,rfl,hb,λv v' hv=>ih v (hk v v' hv) hf⟩
 | store m a v k ih =>
  rcases h with hb | ⟨hm,j,v',k',rfl,hb,hv,hk⟩
  ·exact .bad (Bad.bind (s:=.store m a v k) hb f)
  ·exact .inr ⟨hm,j,v',_,rfl,hb,hv,ih hk hf⟩
 | new o k ih =>
  rcases h with hb | ⟨o',k',rfl,ho,hk⟩
  ·exact .bad (hb.bind f)
  ·exact .inr ⟨o',_,rfl,ho,λj hj=>ih _ (hk j hj) λσ a b l=>hf σ a b ((Le.snoc ρ j hj).trans l)⟩
 | shape r k ih =>
  rcases h with hb | ⟨j,k',rfl,hb,hk⟩
  ·exact .bad (hb.bind f)
  ·exact .inr ⟨j,_,rfl,hb,λx x' hx=>ih x (hk x x' hx) hf⟩
 | freeze a n k _=>exact .bad (Bad.bind (s:=.freeze a n k) h f)
 | frozen a k _=>exact .bad (Bad.bind (s:=.frozen a k) h f)
 | getObj r k ih =>
  rcases h with hb | ⟨j,k',rfl,hb,hk⟩
  ·exact .bad (hb.bind f)
  ·exact .inr ⟨j,_,rfl,hb,λo o' ho=>ih o (hk o o' ho) hf⟩
 | setObj r o k ih =>
  rcases h with hb | ⟨j,o',k',rfl,hb,ho,hk⟩
  ·exact .bad (Bad.bind (s:=.setObj r o k) hb f)
  ·exact .inr ⟨j,o',_,rfl,hb,ho,ih hk hf⟩
 | choose q k ih =>
  rcases h with hb | ⟨k',rfl,hk⟩
  ·exact .bad (hb.bind f)
  ·exact .inr ⟨_,rfl,λn=>ih n (hk n) hf⟩
 | sys c k ih =>
  rcases h with hb | ⟨hc,k',rfl,hk⟩
  ·exact .bad (hb.bind f)
  ·exact .inr ⟨hc,_,rfl,λr=>ih r (hk r) hf⟩
 | program k ih =>
  rcases h with hb | ⟨k',rfl,hk⟩
  ·exact .bad (hb.bind f)
  ·exact .inr ⟨_,rfl,ih Q hk hf⟩
 | mark m k ih =>
  rcases h with hb | ⟨rfl,k',rfl,hk⟩
  ·exact .bad (Bad.bind (s:=.mark m k) hb f)
  ·exact .inr ⟨rfl,_,rfl,ih hk hf⟩
 | halt x =>
  cases x with
  | panic v =>
   obtain⟨v',rfl,hv⟩:=h;exact⟨v',rfl,hv⟩
  | _=>exact h
theorem SR.imp{R':Rel α β}{s:Sem α}{ρ:Ren}{s':Sem β}(h:SR Q P R s ρ s')(hr:∀σ a b,Le ρ σ->R σ a b->R' σ a b):SR Q P R' s ρ s':=by
 have e:∀{α:Type} (x:Sem α),x.bind .pure=x:=by
  intro α x;induction x with
  | pure a=>rfl
  | load m a k ih=>simp only[qej,ih]
  | store m a v k ih=>simp only[qej,ih]
  | new o k ih=>simp only[qej,ih]
  | shape r k ih=>simp only[qej,ih]
  | freeze a n k ih=>simp only[qej,ih]
  | frozen a k ih=>simp only[qej,ih]
  | getObj r k ih=>simp only[qej,ih]
  | setObj r o k ih=>simp only[qej,ih]
  | choose q k ih=>simp only[qej,ih]
  | sys c k ih=>simp only[qej,ih]
  | program k ih=>simp only[qej,ih]
  | mark m k ih=>simp only[qej,ih]
  | halt h=>rfl
 rw[<- e s,<- e s'];exact h.bind λσ a b l hab=>⟨b,rfl,hr σ a b l hab⟩
end
theorem BR.inj{ρ:Ren}(hn:Inj ρ){i i' j:Nat}(h:BR ρ i j)(h':BR ρ i' j):i=i':=hn i i' j h h'
def junk(Q:q8b):Obj:=.cells #[] (yQ Q) (0,0)
structure WR[JunkSet](Q:q8b)(base:Nat)(ρ:Ren)(wq w:q3g):Prop where
 len:ρ.length=wq.heap.size
 nodup:Inj ρ
 lt:∀(i j:Nat),BR ρ i j->j<w.heap.size
 obj:∀(i j:Nat) (o:Obj),BR ρ i j->wq.heap[i]?=some o->(JunkSet.jk i/\o=junk Q/\Q.globals.size<=i/\∃c e f,w.heap[j]?=some (.cells c e f))\/(¬ JunkSet.jk i/\∃o',w.heap[j]?=some o'/\ObR ρ o o')
 low:∀(i:Nat),i<base->∃c e f,wq.heap[i]?=some (.cells c e f)/\∀o,o<c.size->f.1<=o/\o<f.2
 env:wq.os.env=w.os.env
 below:∀(i:Nat),JunkSet.jk i->i<base
 gar:∀(i:Nat) (o:Obj),wq.heap[i]?=some o->(∃j,BR ρ i j)\/zH o=false
def zw(D:Nat)(wq w:q3g):Prop:=∀(n:Nat) (q:qc7),wq.drawn+n<D->wq.tape (wq.drawn+n) q=w.tape (w.drawn+n) q
def rwR{α:Type}:qe0 α->q3g
 | .ok _ w=>w
 | .halt _ w=>w
theorem xq(p:q8b)(w:q3g)(a:qb9)(u:q8u)(k:qb9)(v:q58)(b:Bool){r:q3g × List qb9}(h:w.viewStore p a u k v b=.ok r):r.1.drawn=w.drawn:=by
 unfold World.viewStore at h;simp only[bind,Except.bind,pure,Except.pure] at h
 repeat' (split at h)
 all_goals first | (cases h;rfl) | cases h | (cases h;done)
theorem q86{α:Type}(x:Ask α):∀w:q3g,w.drawn<=(w.ask x).2.drawn:=by
 induction x with
 | done a=>intro w;exact q5m _
 | ask what range k ih =>
  intro w;unfold World.ask;dsimp only;split
  ·exact ih _ w
  ·refine q87 (Nat.le_succ _) ?_
   exact ih ((Question.extern what range).cut (w.tape w.drawn (Question.extern what range))) { w with drawn:=w.drawn+1 }
theorem q6C(w:q3g)(c:Sys):w.drawn<=(w.sys c).2.drawn:=by
 unfold World.sys;have:=q86 (Kernel.perform c w.os) w;split
 ·exact q5m _
 ·rename_i h
  rw[h] at this;exact this
theorem vB{α:Type}(p:q8b)(s:Sem α):∀w:q3g,w.drawn<=(rwR (s.run p w)).drawn:=by
 induction s with
 | pure a=>intro w;exact q5m _
 | load m a k ih =>
  intro w;simp only[qbk];split
  ·exact ih _ w
  ·split
   ·exact ih _ w
   ·exact q5m _
 | store m a v k ih =>
  intro w;have key:w.drawn<=(rwR (match w.cell? a with
     | some _=>if w.frozen? a then(.halt (.unsupported (.unsafePointer "a write to bytes that a string shares")) w:qe0 α) else k.run p (w.setCell a v)
     | none=>match w.farStore p a v (m == .atomic) with
      | .ok (w,_)=>k.run p w
      | .error h=>.halt h w)).drawn:=by
   split
   ·split
    ·exact q5m _
    ·exact ih (w.setCell a v)
   ·split
    ·rename_i w' t Z
     refine q87 ?_ (ih _);unfold qek at Z;split at Z
     ·split at Z
      ·rename_i r hr
       cases Z;exact Nat.le_of_eq (xq _ _ _ _ _ _ _ hr).symm
      ·cases Z
     ·cases Z
    ·exact q5m _
  cases v<;>first | exact key | exact q5m _
 | new o k ih=>intro w;exact ih _ { w with heap:=w.heap.push o }
 | shape r k ih=>intro w;exact ih _ w
 | freeze a n k ih =>
  intro w;refine q87 ?_ (ih (w.freeze a n));unfold World.freeze;split<;>exact q5m _
 | frozen a k ih=>intro w;exact ih _ w
 | getObj r k ih =>
  intro w;simp only[qbk];cases ho:w.heap[r]? with
  | none=>exact q5m _
  | some o=>cases o<;>first | exact ih _ w | exact q5m _
 | setObj r o k ih =>
  intro w;simp only[qbk];cases ho:w.heap[r]? with
  | none=>exact q5m _
  | some ob=>cases ob<;>first | exact ih { w with heap:=w.heap.setIfInBounds r o } | exact q5m _
 | choose q k ih =>
  intro w;simp only[qbk];split
  ·exact ih _ w
  ·exact q87 (Nat.le_succ _) (ih _ { w with drawn:=w.drawn+1 })
 | sys c k ih=>intro w;exact q87 (q6C w c) (ih _ _)
 | program k ih=>intro w;exact ih _ w
 | mark m k ih=>intro w;exact ih w
 | halt h=>intro w;exact q5m _
inductive kK [JunkSet] (base:Nat) (σ:Ren):qbr->Prop
 | cell {i j:Nat} (off:Nat) (spot:Option Nat) (wr:Bool):BR σ i j->¬ JunkSet.jk i->(wr=true->base<=i)->kK base σ ⟨.cell ⟨j,off,spot⟩,wr,false⟩
 | obj {i j:Nat} (wr:Bool):BR σ i j->base<=i->kK base σ ⟨.obj j,wr,false⟩
 | noRoom:kK base σ ⟨.mark .noRoom,false,true⟩
 | env:kK base σ ⟨.output,true,false⟩
structure Eff(base:Nat)(ρ σ:Ren)(w w':q3g):Prop where
 le:Le ρ σ
 tape:w'.tape=w.tape
 os:w'.os=w.os
 output:w'.output=w.output
 size:w.heap.size<=w'.heap.size
 keep:∀j,j<w.heap.size->(∀i,BR ρ i j->i<base)->w'.heap[j]?=w.heap[j]?
 fresh:∀i j,BR σ i j->ρ.length<=i->w.heap.size<=j
 mine:∀j,w.heap.size<=j->j<w'.heap.size->∃i,ρ.length<=i/\BR σ i j
theorem kK.mono[JunkSet]{base:Nat}{ρ σ:Ren}(l:Le ρ σ){e:qbr}(h:kK base ρ e):kK base σ e:=by
 cases h with
 | cell off spot wr h1 hk h2=>exact .cell off spot wr (h1.mono l) hk h2
 | obj wr h1 h2=>exact .obj wr (h1.mono l) h2
 | noRoom=>exact .noRoom
 | env=>exact .env
theorem Eff.refl(base:Nat){ρ:Ren}(w:q3g):Eff base ρ ρ w w :=
 ⟨.refl ρ,rfl,rfl,rfl,q5m _,λ_ _ _=>rfl,λi j h hi=>absurd h.lt (by omega),λj h1 h2=>by omega⟩
theorem Le.len{ρ σ:Ren}(l:Le ρ σ):ρ.length<=σ.length:=by
 obtain⟨⟨τ,rfl⟩,_⟩:=l;simp
theorem BR.back{ρ σ:Ren}(l:Le ρ σ){i j:Nat}(h:BR σ i j)(hi:i<ρ.length):BR ρ i j:=by
 obtain⟨⟨τ,rfl⟩,_⟩:=l;unfold BR at h ⊢
 rwa [qaj hi] at h
theorem Eff.trans{base:Nat}{ρ σ τ:Ren}{w w₁ w₂:q3g}(hb:base<=ρ.length)(h:Eff base ρ σ w w₁)(k:Eff base σ τ w₁ w₂):Eff base ρ τ w w₂:=by
 refine⟨h.le.trans k.le,k.tape.trans h.tape,k.os.trans h.os,k.output.trans h.output,q87 h.size k.size,λj hj hn=>?_,λi j hij hi=>?_,λj h1 h2=>?_⟩
 ·rw[k.keep j (q8m hj h.size) λi hij=>?_,h.keep j hj hn]
  rcases qbF i ρ.length with hl | hl
  ·exact hn i (hij.back h.le hl)
  ·have:=h.fresh i j hij hl
   omega
 ·rcases qbF i σ.length with hl | hl
  ·exact h.fresh i j (hij.back k.le hl) hi
  ·exact q87 h.size (k.fresh i j hij hl)
 ·rcases qbF j w₁.heap.size with hl | hl
  ·obtain⟨i,hi,hij⟩:=h.mine j h1 hl
   exact⟨i,hi,hij.mono k.le⟩
  ·obtain⟨i,hi,hij⟩:=k.mine j hl h2
   exact⟨i,q87 h.le.len hi,hij⟩
def vM{α:Type}:qe0 α->Prop
 | .ok _ _=>True
 | .halt h _=>odd h=true
def zK(w:q3g):Prop:=∀(i:Nat) (o:Obj),w.heap[i]?=some o->zH o=false
theorem jL{w:q3g}(hw:zK w)(a:qb9)(x:String){α:Type}(u:q3g):¬ vM (.halt (w.noCell a x) u:qe0 α):=by
 unfold World.noCell;split
 ·rename_i h
  have:=hw _ _ h;cases this
 ·exact λh=>by cases h
 ·exact λh=>by cases h
theorem q3r{p:q8b}{w:q3g}(hw:zK w){a:qb9}{b:Bool}{h:Halt}(e:w.farLoad p a b=.error h):odd h=false:=by
 unfold World.farLoad at e;split at e
 ·split at e
  ·cases e
  ·cases e;rfl
 ·cases e
  have:=jL hw a "load: no such cell" (α:=Unit) w;cases ho:odd (w.noCell a "load: no such cell") with
  | false=>rfl
  | true=>exact absurd ho this
theorem q1i{p:q8b}{w:q3g}(hw:zK w){a:qb9}{v:q58}{b:Bool}{h:Halt}(e:w.farStore p a v b=.error h):odd h=false:=by
 unfold qek at e;split at e
 ·split at e
  ·cases e
  ·cases e;rfl
 ·cases e
  have:=jL hw a "store: no such cell" (α:=Unit) w;cases ho:odd (w.noCell a "store: no such cell") with
  | false=>rfl
  | true=>exact absurd ho this
theorem yF{α:Type}{h:Halt}(hp:odd h=false)(w:q3g):¬ vM (.halt h w:qe0 α):=λx=>by
 have x:odd h=true:=x;rw[hp] at x;cases x
theorem zK.set{w:q3g}(hw:zK w){r:Nat}{o:Obj}(ho:zH o=false):zK { w with heap:=w.heap.setIfInBounds r o }:=λi x hx=>by
 simp only[qav] at hx;split at hx
 ·split at hx
  ·cases hx;exact ho
  ·cases hx
 ·exact hw i x hx
theorem zK.push{w:q3g}(hw:zK w){o:Obj}(ho:zH o=false):zK { w with heap:=w.heap.push o }:=λi x hx=>by
 simp only[Array.getElem?_push] at hx;split at hx
 ·cases hx;exact ho
 ·exact hw i x hx
theorem zK.modify{w:q3g}(hw:zK w)(r:Nat){f:Obj->Obj}(hf:∀o,zH o=false->zH (f o)=false):zK { w with heap:=w.heap.modify r f }:=λi x hx=>by
 simp only[Array.getElem?_modify] at hx;split at hx
 ·cases h:w.heap[i]? with
  | none=>rw[h] at hx;cases hx
  | some y =>
   rw[h] at hx;cases hx;exact hf y (hw i y h)
 ·exact hw i x hx
theorem zK.cell{w:q3g}(hw:zK w)(a:qb9)(v:q58):zK (w.setCell a v):=hw.modify a.block λo ho=>by
 cases o<;>first | rfl | exact ho
theorem zK.freeze{w:q3g}(hw:zK w)(a:qb9)(n:Nat):zK (w.freeze a n):=by
 unfold World.freeze;split
 ·exact hw
 ·exact hw.modify a.block λo ho=>by
   cases o<;>first | rfl | exact ho
theorem K8{p:q8b}{w:q3g}{a:qb9}{u:q8u}{k:qb9}{v:q58}{b:Bool}{r:q3g × List qb9}(h:w.viewStore p a u k v b=.ok r):∃x o,zH o=false/\r.1={ w with heap:=w.heap.setIfInBounds x o }:=by
 unfold World.viewStore at h;simp only[bind,Except.bind,pure,Except.pure] at h
 repeat' (split at h)
 all_goals first | (cases h;exact⟨_,_,rfl,rfl⟩) | cases h | (cases h;done)
theorem q8t(w:q3g)(c:Sys):(w.sys c).2.heap=w.heap:=by
 have key:∀{α:Type} (x:Ask α) (w:q3g),(w.ask x).2.heap=w.heap:=by
  intro α x;induction x with
  | done a=>intro w;rfl
  | ask what range k ih =>
   intro w;unfold World.ask;dsimp only;split
   ·exact ih _ w
   ·exact ih _ { w with drawn:=w.drawn+1 }
 unfold World.sys;have:=key (Kernel.perform c w.os) w;split
 ·rfl
 ·rename_i h
  rw[h] at this;exact this
theorem Bad.not_fine{α:Type}{p:q8b}{s:Sem α}:∀{w:q3g},zK w->Bad p s->¬ vM (s.run p w):=by
 induction s with
 | pure a=>intro w _ h;exact h.elim
 | load m a k ih =>
  intro w hw h;simp only[qbk];split
  ·exact ih _ hw (h _)
  ·split
   ·exact ih _ hw (h _)
   ·rename_i e
    exact yF (q3r hw e) w
 | store m a v k ih =>
  intro w hw h;have key:¬ vM (match w.cell? a with
     | some _=>if w.frozen? a then(.halt (.unsupported (.unsafePointer "a write to bytes that a string shares")) w:qe0 α) else k.run p (w.setCell a v)
     | none=>match w.farStore p a v (m == .atomic) with
      | .ok (w,_)=>k.run p w
      | .error h=>.halt h w):=by
   split
   ·split
    ·exact λh=>by cases h
    ·exact ih (hw.cell a v) h
   ·split
    ·rename_i w' t e
     refine ih ?_ h;unfold qek at e;split at e
     ·split at e
      ·rename_i r hr
       cases e;obtain⟨x,o,ho,hx⟩:=K8 hr;have hx:w'={ w with heap:=w.heap.setIfInBounds x o }:=hx;rw[hx];exact hw.set ho
      ·cases e
     ·cases e
    ·rename_i e
     exact yF (q1i hw e) w
  cases v<;>first | exact key | exact λh=>by cases h
 | new o k ih=>intro w hw h;exact ih _ (hw.push h.1) (h.2 _)
 | shape r k ih=>intro w hw h;exact ih _ hw (h _)
 | freeze a n k ih=>intro w hw h;exact ih (w:=w.freeze a n) (hw.freeze a n) h
 | frozen a k ih=>intro w hw h;exact ih _ hw (h _)
 | getObj r k ih =>
  intro w hw h;simp only[qbk];cases ho:w.heap[r]? with
  | none=>exact λh=>by cases h
  | some o=>cases o<;>first | exact ih _ hw (h _) | exact λh=>by cases h
 | setObj r o k ih =>
  intro w hw h;simp only[qbk];cases ho:w.heap[r]? with
  | none=>exact λh=>by cases h
  | some ob=>cases ob<;>first | exact ih (hw.set h.1) h.2 | exact λh=>by cases h
 | choose q k ih =>
  intro w hw h;simp only[qbk];split
  ·exact ih _ hw (h _)
  ·exact ih _ (w:={ w with drawn:=w.drawn+1 }) hw (h _)
 | sys c k ih =>
  intro w hw h;refine ih _ (w:=(w.sys c).2) (λi o ho=>hw i o ?_) (h _)
  rwa [q8t] at ho
 | program k ih=>intro w hw h;exact ih _ hw h
 | mark m k ih=>intro w hw h;exact ih hw h
 | halt x=>intro w hw h;exact yF h w
inductive ResR [JunkSet] {α β:Type} (R:Rel α β) (σ:Ren):qe0 α->q3g->qe0 β->q3g->Prop
 | ok {a:α} {b:β} (wq w:q3g):R σ a b->ResR R σ (.ok a wq) wq (.ok b w) w
 | panic {v v':q58} (wq w:q3g):VR σ v v'->ResR R σ (.halt (.panic v) wq) wq (.halt (.panic v') w) w
section
variable[JunkSet]{Q P:q8b}{base:Nat}
theorem WR.looked{ρ:Ren}{wq w:q3g}(h:WR Q base ρ wq w){a:qb9}{j:Nat}(hb:BR ρ a.block j){v:q58}(hv:wq.cell? a=some v):¬ JunkSet.jk a.block:=by
 intro hk;unfold qal at hv;split at hv
 ·rename_i c e f hc
  rcases h.obj _ _ _ hb hc with⟨_,ho,_⟩ | ⟨hn,_⟩
  ·cases ho
   split at hv<;>simp at hv
  ·exact hn hk
 ·cases hv
theorem WR.cell{ρ:Ren}{wq w:q3g}(h:WR Q base ρ wq w){a:qb9}{j:Nat}(hb:BR ρ a.block j){v:q58}(hv:wq.cell? a=some v) :
  ∃v',w.cell? ⟨j,a.off,a.spot⟩=some v'/\VR ρ v v':=by
 unfold qal at hv;split at hv
 ·rename_i c e f hc
  split at hv
  ·cases hv
  ·rename_i hs
   rcases h.obj _ _ _ hb hc with⟨_,hj,_⟩ | ⟨_,o',ho',hr⟩
   ·cases hj
    simp at hv
   ·cases hr with
    | cells e hcs hf =>
     obtain⟨v',a6,Z⟩:=hcs.get hv;refine⟨v',?_,Z⟩;unfold qal;simp only[ho'];rw[if_neg hs];exact a6
 ·cases hv
theorem WR.nopend{ρ:Ren}{wq w:q3g}(h:WR Q base ρ wq w):zK wq:=λi o ho=>by
 rcases h.gar i o ho with⟨j,hb⟩ | hp
 ·rcases h.obj _ _ _ hb ho with⟨_,rfl,_⟩ | ⟨_,o',_,hr⟩
  ·rfl
  ·cases hr<;>rfl
 ·exact hp
theorem WR.shape{ρ:Ren}{wq w:q3g}(h:WR Q base ρ wq w){i j:Nat}(hb:BR ρ i j):ShR Q i (wq.shape? i) (w.shape? j):=by
 have hi:i<wq.heap.size:=by rw[<- h.len];exact hb.lt
 have ho:wq.heap[i]?=some wq.heap[i]:=q9w hi;rcases h.obj _ _ _ hb ho with⟨Z,hj,hgl,c,e,f,hc⟩ | ⟨Z,o',ho',hr⟩
 ·rw[hj] at ho
  exact .inr ⟨Z,hgl,by simp[World.shape?,ho,junk],e,c.size,by simp[World.shape?,hc]⟩
 ·refine .inl ⟨Z,?_⟩
  unfold World.shape?;rw[ho,ho'];generalize wq.heap[i]=x at hr;cases hr with
  | cells e h1 h2=>simp[h1.1]
  | _=>rfl
theorem WR.noview{ρ:Ren}{wq w:q3g}(h:WR Q base ρ wq w){i j:Nat}(hb:BR ρ i j)(a:qb9)(t:q8u):wq.heap[i]?≠some (.view a t):=by
 intro hc;rcases h.obj _ _ _ hb hc with⟨_,hj,_⟩ | ⟨_,o',_,hr⟩
 ·cases hj
 ·cases hr
theorem WR.set{ρ:Ren}{wq w:q3g}(h:WR Q base ρ wq w){a:qb9}{j:Nat}(hb:BR ρ a.block j){u v v':q58}(hc:wq.cell? a=some u)(hf:wq.frozen? a=false)(hv:VR ρ v v') :
  base<=a.block/\w.frozen? ⟨j,a.off,a.spot⟩=false/\WR Q base ρ (wq.setCell a v) (w.setCell ⟨j,a.off,a.spot⟩ v')/\Eff base ρ ρ w (w.setCell ⟨j,a.off,a.spot⟩ v'):=by
 unfold qal at hc;split at hc
 ·rename_i c e f hcs
  split at hc
  ·cases hc
  ·rename_i hs
   have a7:a.spot=none:=by
    cases hsp:a.spot with
    | none=>rfl
    | some _=>rw[hsp] at hs;exact absurd rfl hs
   have hlt:a.off<c.size:=(q45.1 hc).1;have hbase:base<=a.block:=by
    rcases qbF a.block base with hl | hl
    ·obtain⟨c',e',f',h1,h2⟩:=h.low _ hl
     rw[hcs] at h1;cases h1;have:=h2 _ hlt;simp[World.frozen?,hcs,this.1,this.2] at hf
    ·exact hl
   rcases h.obj _ _ _ hb hcs with⟨_,hj,_⟩ | ⟨_,o',ho',hr⟩
   ·cases hj
    simp at hlt
   ·cases hr with
    | @cells _ c' _ _ f' hcc hff =>
     have b0:w.frozen? ⟨j,a.off,a.spot⟩=false:=by
      simp only[World.frozen?,ho'];rw[Bool.eq_false_iff];intro hx;simp only[q9b,decide_eq_true_eq] at hx;have:=hff _ hx.1 hx.2;simp[World.frozen?,hcs,this.1,this.2] at hf
     have hi:a.block<wq.heap.size:=(q45.1 hcs).1;have b7:j<w.heap.size:=(q45.1 ho').1;have a6:∀i:Nat,(wq.setCell a v).heap[i]?=if i=a.block then some (.cells (c.setIfInBounds a.off v) e f) else wq.heap[i]?:=by
      intro i;simp only[qci,Array.getElem?_modify];by_cases hx:a.block=i
      ·subst hx
       simp[hcs,a7]
      ·rw[if_neg hx,if_neg (λx=>hx x.symm)]
     have a9:∀i:Nat,(w.setCell ⟨j,a.off,a.spot⟩ v').heap[i]?=if i=j then some (.cells (c'.setIfInBounds a.off v') e f') else w.heap[i]?:=by
      intro i;simp only[qci,Array.getElem?_modify];by_cases hx:j=i
      ·subst hx
       simp[ho',a7]
      ·rw[if_neg hx,if_neg (λx=>hx x.symm)]
     refine⟨hbase,b0,⟨by rw[h.len];simp[qci],h.nodup,λi k hk=>by have:=h.lt i k hk;simpa[qci] using this,λi k o hik ho=>?_,λi a8=>?_,h.env,h.below,λi o Z=>by
      rw[a6] at Z;by_cases hx:i=a.block
      ·exact .inl ⟨j,hx ▸ hb⟩
      ·rw[if_neg hx] at Z;exact h.gar i o Z⟩,⟨.refl ρ,rfl,rfl,rfl,by simp[qci],λk hk hn=>?_,λi k hik a8=>absurd hik.lt (by omega),λk h1 h2=>by simp[qci] at h2;omega⟩⟩
     ·rw[a6] at ho
      rw[a9];by_cases hx:i=a.block
      ·subst hx
       have:k=j:=hik.fn hb;subst this;rw[if_pos rfl] at ho ⊢;cases ho;exact .inr ⟨λhk=>by have:=h.below _ hk;omega,_,rfl,.cells e (hcc.set _ hv) hff⟩
      ·have b6:k≠j:=λx=>by
        subst x;exact hx (hik.inj h.nodup hb)
       rw[if_neg hx] at ho;rw[if_neg b6];exact h.obj i k o hik ho
     ·obtain⟨c1,e1,f1,h1,h2⟩:=h.low i a8
      refine⟨c1,e1,f1,?_,h2⟩;rw[a6,if_neg (by omega)];exact h1
     ·rw[a9]
      by_cases hx:k=j
      ·subst hx
       have:=hn _ hb;omega
      ·rw[if_neg hx]
 ·cases hc
theorem WR.setO{ρ:Ren}{wq w:q3g}(h:WR Q base ρ wq w){r j:Nat}(hb:BR ρ r j){o o' ob:Obj}(hc:wq.heap[r]?=some ob)(hnc:∀c e f,ob≠.cells c e f)(ho:ObR ρ o o') :
  base<=r/\(∃Z,w.heap[j]?=some Z/\ObR ρ ob Z)/\WR Q base ρ { wq with heap:=wq.heap.setIfInBounds r o } { w with heap:=w.heap.setIfInBounds j o' }/\Eff base ρ ρ w { w with heap:=w.heap.setIfInBounds j o' }:=by
 have hbase:base<=r:=by
  rcases qbF r base with hl | hl
  ·obtain⟨c,e,f,h1,_⟩:=h.low _ hl
   rw[hc] at h1;cases h1;exact absurd rfl (hnc _ _ _)
  ·exact hl
 have hrel:∃Z,w.heap[j]?=some Z/\ObR ρ ob Z:=by
  rcases h.obj _ _ _ hb hc with⟨_,hj,_⟩ | ⟨_,hr⟩
  ·exact absurd hj (hnc _ _ _)
  ·exact hr
 obtain⟨Z,ho',hr⟩:=hrel;have hi:r<wq.heap.size:=(q45.1 hc).1;have a7:j<w.heap.size:=(q45.1 ho').1;refine⟨hbase,⟨Z,ho',hr⟩,⟨by rw[h.len];simp,h.nodup,λi k hk=>by have:=h.lt i k hk;simpa using this,λi k x hik hx=>?_,λi a8=>?_,h.env,h.below,λi x a6=>by
   rw[qav] at a6;by_cases hy:r=i
   ·exact .inl ⟨j,hy ▸ hb⟩
   ·rw[if_neg hy] at a6;exact h.gar i x a6⟩,⟨.refl ρ,rfl,rfl,rfl,by simp,λk hk hn=>?_,λi k hik a8=>absurd hik.lt (by omega),λk h1 h2=>by simp at h2;omega⟩⟩
 ·simp only[qav] at hx ⊢
  by_cases hy:r=i
  ·subst hy
   have:k=j:=hik.fn hb;subst this;rw[if_pos rfl,if_pos hi] at hx;cases hx;refine .inr ⟨λhk=>by have:=h.below _ hk;omega,o',?_,ho⟩;rw[if_pos rfl,if_pos a7]
  ·have a9:j≠k:=λx=>by
    subst x;exact hy (hb.inj h.nodup hik)
   rw[if_neg hy] at hx;rw[if_neg a9];exact h.obj i k x hik hx
 ·obtain⟨c1,e1,f1,h1,h2⟩:=h.low i a8
  refine⟨c1,e1,f1,?_,h2⟩;simp only[qav];rw[if_neg (by omega)];exact h1
 ·simp only[qav]
  by_cases hx:j=k
  ·subst hx
   have:=hn _ hb;omega
  ·rw[if_neg hx]
theorem WR.newO{ρ:Ren}{wq w:q3g}(h:WR Q base ρ wq w)(hb:base<=ρ.length){o o':Obj}(ho:ObR ρ o o') :
  WR Q base (ρ++[some w.heap.size]) { wq with heap:=wq.heap.push o } { w with heap:=w.heap.push o' }/\Eff base ρ (ρ++[some w.heap.size]) w { w with heap:=w.heap.push o' }:=by
 have hle:Le ρ (ρ++[some w.heap.size]):=.snoc _ _ λi hi=>qee _ (h.lt i _ hi);have Z:∀{i j:Nat},BR (ρ++[some w.heap.size]) i j->(i<ρ.length/\BR ρ i j)\/(i=ρ.length/\j=w.heap.size):=by
  intro i j hij;rcases hij.snoc_cases with hh | ⟨h1,h2⟩
  ·exact .inl hh
  ·exact .inr ⟨h1,(Option.some.inj h2).symm⟩
 refine⟨⟨by simp[h.len],?_,λi j hij=>?_,λi j x hij hx=>?_,λi hi=>?_,h.env,h.below,λi o hi=>?_⟩,⟨hle,rfl,rfl,rfl,by simp,λj hj hn=>?_,λi j hij hi=>?_,λj h1 h2=>?_⟩⟩
 ·exact hle.2 h.nodup
 ·rcases Z hij with⟨hl,hb'⟩ | ⟨rfl,rfl⟩
  ·have:=h.lt i j hb'
   simp;omega
  ·simp
 ·simp only[Array.getElem?_push] at hx ⊢
  rcases Z hij with⟨hl,hb'⟩ | ⟨rfl,rfl⟩
  ·have h1:=h.lt i j hb'
   rw[if_neg (by have:=h.len;omega)] at hx;rw[if_neg (by omega)];rcases h.obj i j x hb' hx with⟨hk,rfl,hc⟩ | ⟨hk,y,hy,hr⟩
   ·exact .inl ⟨hk,rfl,hc⟩
   ·exact .inr ⟨hk,y,hy,hr.mono hle⟩
  ·rw[if_pos h.len] at hx
   cases hx;exact .inr ⟨λhk=>by have:=h.below _ hk;omega,o',by simp,ho.mono hle⟩
 ·obtain⟨c1,e1,f1,h1,h2⟩:=h.low i hi
  refine⟨c1,e1,f1,?_,h2⟩;simp only[Array.getElem?_push];have:=h.len;rw[if_neg (by omega)];exact h1
 ·simp only[Array.getElem?_push] at hi
  split at hi
  ·rename_i e
   exact .inl ⟨w.heap.size,by rw[e,<- h.len];exact BR.new _ _⟩
  ·rcases h.gar i o hi with⟨j,hj⟩ | hp
   ·exact .inl ⟨j,hj.mono hle⟩
   ·exact .inr hp
 ·simp only[Array.getElem?_push]
  rw[if_neg (by omega)]
 ·rcases Z hij with⟨hl,_⟩ | ⟨_,rfl⟩
  ·omega
  ·exact q5m _
 ·simp at h2
  have:j=w.heap.size:=by omega
  subst this;exact⟨ρ.length,q5m _,BR.new _ _⟩
theorem WR.draw{ρ:Ren}{wq w:q3g}(h:WR Q base ρ wq w):WR Q base ρ { wq with drawn:=wq.drawn+1 } { w with drawn:=w.drawn+1 }/\Eff base ρ ρ w { w with drawn:=w.drawn+1 } :=
 ⟨⟨h.len,h.nodup,h.lt,h.obj,h.low,h.env,h.below,h.gar⟩,⟨.refl ρ,rfl,rfl,rfl,q5m _,λ_ _ _=>rfl,λi k hik Z=>absurd hik.lt (by omega),λk h1 h2=>by simp at h2;omega⟩⟩
omit [JunkSet] in
theorem zw.draw{D:Nat}{wq w:q3g}(h:zw D wq w):zw D { wq with drawn:=wq.drawn+1 } { w with drawn:=w.drawn+1 }:=λn q hn=>by
 have:=h (n+1) q (by simp only at hn;omega);simpa[Nat.add_assoc,Nat.add_comm 1 n] using this
omit [JunkSet] in
theorem zw.heap{D:Nat}{wq w wq' w':q3g}(h:zw D wq w)(h1:wq'.tape=wq.tape)(h2:wq'.drawn=wq.drawn)(h3:w'.tape=w.tape)(h4:w'.drawn=w.drawn):zw D wq' w':=λn q hn=>by
 rw[h1,h2,h3,h4];exact h n q (by rw[<- h2];exact hn)
theorem yt{α:Type}{p:q8b}{r:Nat}{k:Obj->Sem α}{w:q3g}{o:Obj}(h:w.heap[r]?=some o)(hn:∀c e f,o≠.cells c e f):(Sem.getObj r k).run p w=(k o).run p w:=by
 rw[qbk,h];cases o<;>first | exact absurd rfl (hn _ _ _) | rfl
theorem q2p{α:Type}{p:q8b}{r:Nat}{k:Obj->Sem α}{w:q3g}{o:Obj}(es:Array qbr)(h:w.heap[r]?=some o)(hn:∀c e f,o≠.cells c e f):(Sem.getObj r k).runT p w es=(k o).runT p w (es.push ⟨.obj r,false,o.isChan⟩):=by
 rw[qe8,h];cases o<;>first | exact absurd rfl (hn _ _ _) | rfl
theorem yr{α:Type}{p:q8b}{r:Nat}{x:Obj}{k:Sem α}{w:q3g}{o:Obj}(h:w.heap[r]?=some o)(hn:∀c e f,o≠.cells c e f):(Sem.setObj r x k).run p w=k.run p { w with heap:=w.heap.setIfInBounds r x }:=by
 rw[qbk,h];cases o<;>first | exact absurd rfl (hn _ _ _) | rfl
theorem q2o{α:Type}{p:q8b}{r:Nat}{x:Obj}{k:Sem α}{w:q3g}{o:Obj}(es:Array qbr)(h:w.heap[r]?=some o)(hn:∀c e f,o≠.cells c e f):(Sem.setObj r x k).runT p w es=k.runT p { w with heap:=w.heap.setIfInBounds r x } (es.push ⟨.obj r,true,x.isChan⟩):=by
 rw[qe8,h];cases o<;>first | exact absurd rfl (hn _ _ _) | rfl
theorem SR.runs{α β:Type}{R:Rel α β}{s:Sem α}{D:Nat}:∀{ρ:Ren} {s':Sem β} {wq w:q3g} (es:Array qbr),SR Q P R s ρ s'->base<=ρ.length->WR Q base ρ wq w->zw D wq w->(rwR (s.run Q wq)).drawn<=D->vM (s.run Q wq) ->
  ∃σ wq' w' es',ResR R σ (s.run Q wq) wq' (s'.run P w) w'/\(s'.runT P w es).2=es++es'/\(∀e∈es',kK base σ e)/\WR Q base σ wq' w'/\zw D wq' w'/\Eff base ρ σ w w'/\wq'.drawn+w.drawn=wq.drawn+w'.drawn:=by
 induction s with
 | pure a =>
  intro ρ s' wq w es h hb hw ht _ _;obtain⟨b,rfl,hr⟩:=h;exact⟨ρ,wq,w,#[],.ok wq w hr,by simp[qe8],by simp,hw,ht,.refl base w,rfl⟩
 | load m a k ih =>
  intro ρ s' wq w es h hb hw ht hd hf;rcases h with hbad | ⟨rfl,j,k',rfl,hbr,hk⟩
  ·exact absurd hf (Bad.not_fine hw.nopend hbad)
  simp only[qbk] at hd hf ⊢;cases hc:wq.cell? a with
  | none =>
   rw[hc] at hf;simp only[World.farLoad] at hf;split at hf
   ·rename_i hv
    split at hv
    ·rename_i a6
     exact absurd a6 (hw.noview hbr _ _)
    ·cases hv
   ·rename_i hv
    split at hv
    ·rename_i a6
     exact absurd a6 (hw.noview hbr _ _)
    ·cases hv
     exact absurd hf (jL hw.nopend _ _ _)
  | some v =>
   obtain⟨v',a6,hr⟩:=hw.cell hbr hc;rw[hc] at hd hf;simp only[a6] at hd hf ⊢;obtain⟨σ,wq',w',es',h1,h2,h3,h4,h5,h6,h7⟩:=ih v (es.push ⟨.cell ⟨j,a.off,a.spot⟩,false,false⟩) (hk v v' hr) hb hw ht hd hf;refine⟨σ,wq',w',#[⟨.cell ⟨j,a.off,a.spot⟩,false,false⟩]++es',h1,?_,?_,h4,h5,h6,h7⟩
   ·simp only[qe8,a6]
    rw[show((Mode.plain == Mode.atomic)=false) from rfl,h2];simp
   ·intro e he
    rw[qdc] at he;rcases he with he | he
    ·simp at he
     subst he;exact .cell _ _ _ (hbr.mono h6.le) (hw.looked hbr hc) (by simp)
    ·exact h3 e he
 | store m a v k ih =>
  intro ρ s' wq w es h hb hw ht hd hf;rcases h with hbad | ⟨rfl,j,v',k',rfl,hbr,hv,hk⟩
  ·exact absurd hf (Bad.not_fine hw.nopend (s:=.store m a v k) hbad)
  have b9:(∃x,v=.agg x)\/(∃x,v=.tuple x)\/((∀x,v≠.agg x)/\∀x,v≠.tuple x):=by
   cases v<;>simp
  rcases b9 with⟨x,rfl⟩ | ⟨x,rfl⟩ | ⟨hna,hnt⟩
  ·simp only[qbk] at hf
   exact absurd hf (λh=>by cases h)
  ·simp only[qbk] at hf
   exact absurd hf (λh=>by cases h)
  ·have b7:∀x,v'≠.agg x:=λx e=>by subst e;cases hv<;>first | exact hna _ rfl | (rename_i h;cases h)
   have b6:∀x,v'≠.tuple x:=λx e=>by subst e;cases hv<;>first | exact hnt _ rfl | (rename_i h;cases h)
   have e1:(Sem.store .plain a v k).run Q wq=match wq.cell? a with
     | some _=>if wq.frozen? a then .halt (.unsupported (.unsafePointer "a write to bytes that a string shares")) wq else k.run Q (wq.setCell a v)
     | none=>match wq.farStore Q a v false with
      | .ok (w,_)=>k.run Q w
      | .error h=>.halt h wq:=by
    cases v<;>first | rfl | exact absurd rfl (hna _) | exact absurd rfl (hnt _)
   have e2:(Sem.store .plain (⟨j,a.off,a.spot⟩:qb9) v' k').run P w=match w.cell? ⟨j,a.off,a.spot⟩ with
     | some _=>if w.frozen? ⟨j,a.off,a.spot⟩ then .halt (.unsupported (.unsafePointer "a write to bytes that a string shares")) w else k'.run P (w.setCell ⟨j,a.off,a.spot⟩ v')
     | none=>match w.farStore P ⟨j,a.off,a.spot⟩ v' false with
      | .ok (w,_)=>k'.run P w
      | .error h=>.halt h w:=by
    cases v'<;>first | rfl | exact absurd rfl (b7 _) | exact absurd rfl (b6 _)
   have e3:((Sem.store .plain (⟨j,a.off,a.spot⟩:qb9) v' k').runT P w es).2=(match w.cell? ⟨j,a.off,a.spot⟩ with
     | some _=>if w.frozen? ⟨j,a.off,a.spot⟩ then((Result.halt (.unsupported (.unsafePointer "a write to bytes that a string shares")) w:qe0 β),es) else k'.runT P (w.setCell ⟨j,a.off,a.spot⟩ v') (es.push ⟨.cell ⟨j,a.off,a.spot⟩,true,false⟩)
     | none=>match w.farStore P ⟨j,a.off,a.spot⟩ v' false with
      | .ok (w,touched)=>k'.runT P w (es++touched.toArray.map λx=>(⟨.cell x,true,false⟩:qbr))
      | .error h=>((Result.halt h w:qe0 β),es)).2:=by
    cases v'<;>first | rfl | exact absurd rfl (b7 _) | exact absurd rfl (b6 _)
   rw[e1] at hd hf ⊢;rw[e2,e3];cases hc:wq.cell? a with
   | none =>
    rw[hc] at hf;simp only[qek] at hf;split at hf
    ·rename_i hv
     split at hv
     ·rename_i a6
      exact absurd a6 (hw.noview hbr _ _)
     ·cases hv
    ·rename_i hv
     split at hv
     ·rename_i a6
      exact absurd a6 (hw.noview hbr _ _)
     ·cases hv
      exact absurd hf (jL hw.nopend _ _ _)
   | some u =>
    obtain⟨u',c9,_⟩:=hw.cell hbr hc;rw[hc] at hd hf;simp only[c9] at hd hf ⊢;cases hfz:wq.frozen? a with
    | true =>
     rw[hfz] at hf;exact absurd hf (λh=>by cases h)
    | false =>
     obtain⟨hbase,c3,a8,a9⟩:=hw.set hbr hc hfz hv;rw[hfz] at hd hf;simp only[c3,qa5,if_false] at hd hf ⊢;obtain⟨σ,wq',w',es',h1,h2,h3,h4,h5,h6,h7⟩:=ih (es.push ⟨.cell ⟨j,a.off,a.spot⟩,true,false⟩) hk hb a8 (ht.heap rfl rfl rfl rfl) hd hf;refine⟨σ,wq',w',#[⟨.cell ⟨j,a.off,a.spot⟩,true,false⟩]++es',h1,by rw[h2];simp,?_,h4,h5,a9.trans hb h6,h7⟩;intro e he;rw[qdc] at he;rcases he with he | he
     ·simp at he
      subst he;exact .cell _ _ _ (hbr.mono h6.le) (λhk=>absurd (hw.below _ hk) (by omega)) (λ_=>hbase)
     ·exact h3 e he
 | new o k ih =>
  intro ρ s' wq w es h hb hw ht hd hf;rcases h with hbad | ⟨o',k',rfl,ho,hk⟩
  ·exact absurd hf (Bad.not_fine hw.nopend (s:=.new o k) hbad)
  simp only[qbk] at hd hf ⊢;obtain⟨a8,a9⟩:=hw.newO hb ho;have hk':=hk w.heap.size (λi hi=>qee _ (hw.lt i _ hi));rw[hw.len] at hk';obtain⟨σ,wq',w',es',h1,h2,h3,h4,h5,h6,h7⟩:=ih _ es hk' (by simp;omega) a8 (ht.heap rfl rfl rfl rfl) hd hf;exact⟨σ,wq',w',es',h1,by simp only[qe8];exact h2,h3,h4,h5,a9.trans hb h6,by simp only at h7;omega⟩
 | shape r k ih =>
  intro ρ s' wq w es h hb hw ht hd hf;rcases h with hbad | ⟨j,k',rfl,hbr,hk⟩
  ·exact absurd hf (Bad.not_fine hw.nopend (s:=.shape r k) hbad)
  simp only[qbk] at hd hf ⊢;obtain⟨σ,wq',w',es',h1,h2,h3,h4,h5,h6,h7⟩:=ih _ es (hk _ _ (hw.shape hbr)) hb hw ht hd hf;exact⟨σ,wq',w',es',h1,by simp only[qe8];exact h2,h3,h4,h5,h6,h7⟩
 | freeze a n k _=>intro ρ s' wq w es h hb hw ht hd hf;exact absurd hf (Bad.not_fine hw.nopend (s:=.freeze a n k) h)
 | frozen a k _=>intro ρ s' wq w es h hb hw ht hd hf;exact absurd hf (Bad.not_fine hw.nopend (s:=.frozen a k) h)
 | getObj r k ih =>
  intro ρ s' wq w es h hb hw ht hd hf;rcases h with hbad | ⟨j,k',rfl,hbr,hk⟩
  ·exact absurd hf (Bad.not_fine hw.nopend (s:=.getObj r k) hbad)
  cases ho:wq.heap[r]? with
  | none=>simp only[qbk,ho] at hf;exact absurd hf (λh=>by cases h)
  | some o =>
   by_cases Z:∃c e f,o=.cells c e f
   ·obtain⟨c,e,f,rfl⟩:=Z
    simp only[qbk,ho] at hf;exact absurd hf (λh=>by cases h)
   ·have hnc:∀c e f,o≠.cells c e f:=λc e f x=>Z ⟨c,e,f,x⟩
    have hbase:base<=r:=by
     rcases qbF r base with hl | hl
     ·obtain⟨c,e,f,h1,_⟩:=hw.low _ hl
      rw[ho] at h1;cases h1;exact absurd rfl (hnc _ _ _)
     ·exact hl
    rcases hw.obj _ _ _ hbr ho with⟨_,hj,_⟩ | ⟨_,o',ho',hr⟩
    ·exact absurd hj (hnc _ _ _)
    ·have a7:∀c e f,o'≠.cells c e f:=λc e f x=>by subst x;cases hr;exact hnc _ _ _ rfl
     have b8:o'.isChan=false:=by cases hr<;>rfl
     rw[yt ho hnc] at hd hf;rw[yt ho hnc,yt ho' a7,q2p es ho' a7,b8];obtain⟨σ,wq',w',es',h1,h2,h3,h4,h5,h6,h7⟩:=ih o (es.push ⟨.obj j,false,false⟩) (hk _ _ hr) hb hw ht hd hf;refine⟨σ,wq',w',#[⟨.obj j,false,false⟩]++es',h1,by rw[h2];simp,?_,h4,h5,h6,h7⟩;intro e he;rw[qdc] at he;rcases he with he | he
     ·simp at he
      subst he;exact .obj _ (hbr.mono h6.le) hbase
     ·exact h3 e he
 | setObj r o k ih =>
  intro ρ s' wq w es h hb hw ht hd hf;rcases h with hbad | ⟨j,o',k',rfl,hbr,hor,hk⟩
  ·exact absurd hf (Bad.not_fine hw.nopend (s:=.setObj r o k) hbad)
  cases ho:wq.heap[r]? with
  | none=>simp only[qbk,ho] at hf;exact absurd hf (λh=>by cases h)
  | some ob =>
   by_cases Z:∃c e f,ob=.cells c e f
   ·obtain⟨c,e,f,rfl⟩:=Z
    simp only[qbk,ho] at hf;exact absurd hf (λh=>by cases h)
   ·have hnc:∀c e f,ob≠.cells c e f:=λc e f x=>Z ⟨c,e,f,x⟩
    obtain⟨hbase,⟨c8,b0,hr⟩,a8,a9⟩:=hw.setO hbr ho hnc hor;have a7:∀c e f,c8≠.cells c e f:=λc e f x=>by subst x;cases hr;exact hnc _ _ _ rfl
    have b8:o'.isChan=false:=by cases hor<;>rfl
    rw[yr ho hnc] at hd hf;rw[yr ho hnc,yr b0 a7,q2o es b0 a7,b8];obtain⟨σ,wq',w',es',h1,h2,h3,h4,h5,h6,h7⟩:=ih (es.push ⟨.obj j,true,false⟩) hk hb a8 (ht.heap rfl rfl rfl rfl) hd hf;refine⟨σ,wq',w',#[⟨.obj j,true,false⟩]++es',h1,by rw[h2];simp,?_,h4,h5,a9.trans hb h6,h7⟩;intro e he;rw[qdc] at he;rcases he with he | he
    ·simp at he
     subst he;exact .obj _ (hbr.mono h6.le) hbase
    ·exact h3 e he
 | choose q k ih =>
  intro ρ s' wq w es h hb hw ht hd hf;rcases h with hbad | ⟨k',rfl,hk⟩
  ·exact absurd hf (Bad.not_fine hw.nopend (s:=.choose q k) hbad)
  simp only[qbk] at hd hf ⊢;cases hq:q.forced with
  | true =>
   rw[hq] at hd hf;simp only[if_true] at hd hf ⊢;obtain⟨σ,wq',w',es',h1,h2,h3,h4,h5,h6,h7⟩:=ih _ es (hk _) hb hw ht hd hf;exact⟨σ,wq',w',es',h1,by simp only[qe8,hq,if_true];exact h2,h3,h4,h5,h6,h7⟩
  | false =>
   rw[hq] at hd hf;simp only[qa5,if_false] at hd hf ⊢;have d5:wq.tape wq.drawn q=w.tape w.drawn q:=by
    have:=q87 (vB Q _ _) hd;simpa using ht 0 q (by simp only at this;omega)
   obtain⟨a8,a9⟩:=hw.draw;rw[d5] at hd hf ⊢;obtain⟨σ,wq',w',es',h1,h2,h3,h4,h5,h6,h7⟩:=ih _ es (hk _) hb a8 ht.draw hd hf;exact⟨σ,wq',w',es',h1,by simp only[qe8,hq,qa5,if_false];exact h2,h3,h4,h5,a9.trans hb h6,by simp only at h7;omega⟩
 | sys c k ih =>
  intro ρ s' wq w es h hb hw ht hd hf;rcases h with hbad | ⟨rfl,k',rfl,hk⟩
  ·exact absurd hf (Bad.not_fine hw.nopend (s:=.sys c k) hbad)
  have e1:∀u:q3g,u.sys .env=(.strings u.os.env,u):=λu=>rfl;simp only[qbk,e1] at hd hf ⊢;rw[hw.env] at hd hf ⊢;obtain⟨σ,wq',w',es',h1,h2,h3,h4,h5,h6,h7⟩:=ih _ (es.push ⟨.output,true,false⟩) (hk _) hb hw ht hd hf;refine⟨σ,wq',w',#[⟨.output,true,false⟩]++es',h1,by simp only[qe8,e1];rw[h2];simp,?_,h4,h5,h6,h7⟩;intro e he;rw[qdc] at he;rcases he with he | he
  ·simp at he
   subst he;exact .env
  ·exact h3 e he
 | program k ih =>
  intro ρ s' wq w es h hb hw ht hd hf;rcases h with hbad | ⟨k',rfl,hk⟩
  ·exact absurd hf (Bad.not_fine hw.nopend (s:=.program k) hbad)
  simp only[qbk] at hd hf ⊢;obtain⟨σ,wq',w',es',h1,h2,h3,h4,h5,h6,h7⟩:=ih _ es hk hb hw ht hd hf;exact⟨σ,wq',w',es',h1,by simp only[qe8];exact h2,h3,h4,h5,h6,h7⟩
 | mark m k ih =>
  intro ρ s' wq w es h hb hw ht hd hf;rcases h with hbad | ⟨rfl,k',rfl,hk⟩
  ·exact absurd hf (Bad.not_fine hw.nopend (s:=.mark m k) hbad)
  simp only[qbk] at hd hf ⊢;obtain⟨σ,wq',w',es',h1,h2,h3,h4,h5,h6,h7⟩:=ih (es.push ⟨.mark .noRoom,false,true⟩) hk hb hw ht hd hf;refine⟨σ,wq',w',#[⟨.mark .noRoom,false,true⟩]++es',h1,by simp only[qe8];rw[h2];simp,?_,h4,h5,h6,h7⟩;intro e he;rw[qdc] at he;rcases he with he | he
  ·simp at he
   subst he;exact .noRoom
  ·exact h3 e he
 | halt x =>
  intro ρ s' wq w es h hb hw ht hd hf;cases x with
  | panic v =>
   obtain⟨v',rfl,hv⟩:=h;exact⟨ρ,wq,w,#[],.panic wq w hv,by simp[qe8],by simp,hw,ht,.refl base w,rfl⟩
  | _=>exact absurd hf (yF h wq)
end
end Go.Sim
end
section
namespace Go.Sim
def EqR{α:Type}:Rel α α:=λ_ a b=>b=a
def Gl(P:q8b)(ρ:Ren):Prop:=∀i,i<=P.globals.size->BR ρ i i
theorem Gl.mono{P:q8b}{ρ σ:Ren}(l:Le ρ σ)(h:Gl P ρ):Gl P σ:=λi hi=>(h i hi).mono l
section
variable[JunkSet]{Q P:q8b}{α β γ δ:Type}{R:Rel α β}{S:Rel γ δ}{ρ:Ren}
theorem qd{a:α}{b:β}(h:R ρ a b):SR Q P R (pure a) ρ (pure b):=⟨b,rfl,h⟩
theorem SR.bnd{s:Sem α}{s':Sem β}{f:α->Sem γ}{f':β->Sem δ}(h:SR Q P R s ρ s')(hf:∀σ a b,Le ρ σ->R σ a b->SR Q P S (f a) σ (f' b)) :
  SR Q P S (s>>=f) ρ (s'>>=f'):=SR.bind h hf
theorem SR.bndE{s s':Sem α}{f:α->Sem γ}{f':α->Sem δ}(h:SR Q P EqR s ρ s')(hf:∀σ a,Le ρ σ->SR Q P S (f a) σ (f' a)) :
  SR Q P S (s>>=f) ρ (s'>>=f'):=SR.bind h λσ a b l e=>by cases e;exact hf σ a l
theorem qf{w:String}{s':Sem β}:SR Q P R (stuck w) ρ s':=rfl
theorem qq{w:Unsupported}{s':Sem β}(h:odd (.unsupported w)=false:=by rfl):SR Q P R (unsupported w) ρ s':=by
 cases w<;>first | rfl | cases h
theorem zm{w:String}{f:α->Sem γ}{s':Sem δ}:SR Q P S ((stuck w:Sem α)>>=f) ρ s':=rfl
theorem zY{w:Unsupported}{f:α->Sem γ}{s':Sem δ}(h:odd (.unsupported w)=false:=by rfl):SR Q P S ((unsupported w:Sem α)>>=f) ρ s':=by
 cases w<;>first | rfl | cases h
theorem q8G{w:String}{s':Sem β}:SR Q P R (throw w) ρ s':=rfl
theorem zD{f:q8b->Sem α}{f':q8b->Sem β}(h:SR Q P R (f Q) ρ (f' P)):SR Q P R (program>>=f) ρ (program>>=f'):=.inr ⟨_,rfl,h⟩
theorem q2g{a:α}{f:α->Sem γ}{s':Sem δ}(h:SR Q P S (f a) ρ s'):SR Q P S (pure a>>=f) ρ s':=h
theorem vz{q:qc7}:SR Q P EqR (choose q) ρ (choose q):=.inr ⟨_,rfl,λn=>⟨n,rfl,rfl⟩⟩
theorem sr_map{f:α->γ}{s s':Sem α}(h:SR Q P EqR s ρ s'):SR Q P EqR (Functor.map f s) ρ (Functor.map f s'):=SR.bndE (S:=EqR) (f:=λx=>pure (f x)) (f':=λx=>pure (f x)) h λσ a _=>qd rfl
theorem q0F{f:α->Sem γ}{f':α->Sem γ}(h:∀σ a,SR Q P EqR (f a) σ (f' a)):∀(l:List α) (ρ:Ren),SR Q P EqR (l.mapM f) ρ (l.mapM f'):=by
 intro l;induction l with
 | nil=>intro ρ;exact qd rfl
 | cons a l ih =>
  intro ρ;rw[qey,qey];exact .bndE (h ρ a) λσ b _=>.bndE (ih σ) λτ bs _=>qd rfl
theorem sr_mapM{f:α->Sem γ}{f':α->Sem γ}(h:∀σ a,SR Q P EqR (f a) σ (f' a)){xs:Array α}:SR Q P EqR (xs.mapM f) ρ (xs.mapM f'):=by
 rw[qdu,qdu];exact sr_map (q0F h xs.toList ρ)
theorem q5D{i j:Nat}{off:Nat}{spot:Option Nat}(h:BR ρ i j):SR Q P VR (load ⟨i,off,spot⟩) ρ (load ⟨j,off,spot⟩):=.inr ⟨rfl,j,_,rfl,h,λv v' hv=>⟨v',rfl,hv⟩⟩
theorem q8H{i j:Nat}{off:Nat}{spot:Option Nat}{v v':q58}(h:BR ρ i j)(hv:VR ρ v v'):SR Q P (λ_ _ _=>True) (store ⟨i,off,spot⟩ v) ρ (store ⟨j,off,spot⟩ v'):=.inr ⟨rfl,j,v',_,rfl,h,hv,(),rfl,trivial⟩
theorem JW{o o':Obj}(h:ObR ρ o o'):SR Q P BR (newObj o) ρ (newObj o'):=.inr ⟨o',_,rfl,h,λj _=>⟨j,rfl,BR.new ρ j⟩⟩
theorem xL{i j:Nat}(h:BR ρ i j):SR Q P (λ_=>ShR Q i) (shape i) ρ (shape j):=.inr ⟨j,_,rfl,h,λx x' hx=>⟨x',rfl,hx⟩⟩
theorem jI{i j:Nat}(h:BR ρ i j):SR Q P ObR (getObj i) ρ (getObj j):=.inr ⟨j,_,rfl,h,λo o' ho=>⟨o',rfl,ho⟩⟩
theorem jH{i j:Nat}{o o':Obj}(h:BR ρ i j)(ho:ObR ρ o o'):SR Q P (λ_ _ _=>True) (setObj i o) ρ (setObj j o'):=.inr ⟨j,o',_,rfl,h,ho,(),rfl,trivial⟩
theorem jS{v v':q58}(h:VR ρ v v'):SR Q P R (goPanic v) ρ (goPanic v'):=⟨v',rfl,h⟩
theorem qC{c:Prop}[Decidable c]{a b:Sem α}{a' b':Sem β}(h1:c->SR Q P R a ρ a')(h2:¬ c->SR Q P R b ρ b'):SR Q P R (if c then a else b) ρ (if c then a' else b'):=by
 by_cases h:c
 ·rw[if_pos h,if_pos h];exact h1 h
 ·rw[if_neg h,if_neg h];exact h2 h
end
section
variable[JunkSet]{Q P:q8b}(hT:P.toTables=Q.toTables){ρ:Ren}{α β:Type}{R:Rel α β}
include hT
theorem JF(t:q8u):P.info? t=Q.info? t:=by rw[hT]
theorem kg(t:q8u):P.underlying t=Q.underlying t:=by unfold Program.underlying;rw[hT]
theorem zl(t:q8u):SR Q P EqR (qdD t) ρ (qdD t):=by
 refine zD ?_;rw[JF hT];cases Q.info? t with
 | some i=>exact qd rfl
 | none=>exact qf
theorem qB(t:q8u):SR Q P EqR (qdg t) ρ (qdg t):=by
 refine zD ?_;rw[kg hT];cases Q.underlying t with
 | some i=>exact qd rfl
 | none=>exact qf
theorem qO(t:q8u):SR Q P EqR (sizeOf t) ρ (sizeOf t):=.bndE (zl hT t) λσ i _=>qd rfl
theorem q2j(t:q8u):SR Q P EqR (isAgg t) ρ (isAgg t):=.bndE (qB hT t) λσ i _=>by
 cases i<;>exact qd rfl
def kL(P:q8b)(t:q8u):Bool :=
 match (P.info? t).bind (·.zero) with
 | some v=>bareB v
 | none=>true
omit hT in
theorem q2e{i:TypeInfo}(h:∀v,i.zero=some v->kY v):SR Q P VR (match i.zero with
  | some v=>pure v
  | none=>unsupported (.resourceLimit "a value of more than 2^22 cells")) ρ (match i.zero with
  | some v=>pure v
  | none=>unsupported (.resourceLimit "a value of more than 2^22 cells")):=by
 cases hz:i.zero with
 | some v=>exact qd ((h v hz).vr _)
 | none=>exact qq
theorem vN(t:q8u):SR Q P (λ_ a b=>b=a/\Q.info? t=some a) (qdD t) ρ (qdD t):=by
 refine zD ?_;rw[JF hT];cases Q.info? t with
 | some i=>exact qd ⟨rfl,rfl⟩
 | none=>exact qf
theorem zk{t:q8u}(h:kL Q t=true):SR Q P VR (zeroValue t) ρ (zeroValue t):=by
 refine .bnd (vN hT t) λσ i i' l hi=>?_;obtain⟨rfl,hi⟩:=hi;refine q2e λv hv=>?_;unfold kL at h;rw[hi] at h;simp only[Option.bind_some,hv] at h;exact q1w h
omit hT in
theorem VR.cells{v v':q58}(h:VR ρ v v'):AsR ρ v.cells v'.cells:=by
 cases h with
 | agg h1 h2=>exact⟨h1,h2⟩
 | bool b=>exact .one (.bool b)
 | int k n=>exact .one (.int k n)
 | string s=>exact .one (.string s)
 | ptrNil=>exact .one .ptrNil
 | ptr o s h=>exact .one (.ptr o s h)
 | sliceNil a b=>exact .one (.sliceNil a b)
 | slice o s a b h=>exact .one (.slice o s a b h)
 | mapNil=>exact .one .mapNil
 | map h=>exact .one (.map h)
 | func a b c d e=>exact .one (.func a b c d e)
 | nilFunc=>exact .one .nilFunc
 | iface t h=>exact .one (.iface t h)
 | nilIface=>exact .one .nilIface
 | tuple h1 h2=>exact .one (.tuple h1 h2)
 | meth n a c=>exact .one (.meth n a c)
 | wild _ h =>
  have e:v'.cells=#[v']:=by cases v'<;>first | rfl | (cases h;done)
  rw[e];exact .one (.wild _ h)
omit hT in
theorem AsR.agg{a b:Array q58}(h:AsR ρ a b):VR ρ (.agg a) (.agg b):=.agg h.1 h.2
omit hT in
theorem AsR.tuple{a b:Array q58}(h:AsR ρ a b):VR ρ (.tuple a) (.tuple b):=.tuple h.1 h.2
omit hT in
theorem yf(i j off n:Nat)(spot:Option Nat):∃o s,(⟨i,off,spot⟩:qb9).add n=⟨i,o,s⟩/\(⟨j,off,spot⟩:qb9).add n=⟨j,o,s⟩:=by
 unfold Addr.add;split
 ·exact⟨off,spot,rfl,rfl⟩
 ·exact⟨off+n,none,rfl,rfl⟩
omit hT in
theorem ZJ{i j:Nat}{off:Nat}{spot:Option Nat}(n:Nat):∀{ρ:Ren} (k:Nat) (a6 Z:Array q58),BR ρ i j->AsR ρ a6 Z ->
  SR Q P AsR (loadCellsFrom ⟨i,off,spot⟩ k n a6) ρ (loadCellsFrom ⟨j,off,spot⟩ k n Z):=by
 induction n with
 | zero=>intro ρ k a6 Z h ha;exact qd ha
 | succ n ih =>
  intro ρ k a6 Z h ha;obtain⟨o,s,e1,e2⟩:=yf i j off k spot;show SR Q P AsR (load ((⟨i,off,spot⟩:qb9).add k)>>=λv=>loadCellsFrom ⟨i,off,spot⟩ (k+1) n (a6.push v)) ρ (load ((⟨j,off,spot⟩:qb9).add k)>>=λv=>loadCellsFrom ⟨j,off,spot⟩ (k+1) n (Z.push v));rw[e1,e2];exact .bnd (q5D h) λσ v v' l hv=>ih (k+1) _ _ (h.mono l) ((ha.mono l).push hv)
omit hT in
theorem Z9{i j:Nat}{off:Nat}{spot:Option Nat}(n:Nat)(h:BR ρ i j):SR Q P AsR (loadCells ⟨i,off,spot⟩ n) ρ (loadCells ⟨j,off,spot⟩ n):=ZJ n 0 _ _ h .nil
omit hT in
theorem jz{i j:Nat}{off:Nat}{spot:Option Nat}{vs Z:List q58}(hv:LsR (VR ρ) vs Z):∀(k:Nat),BR ρ i j ->
  SR Q P (λ_ _ _=>True) (storeCells ⟨i,off,spot⟩ vs k) ρ (storeCells ⟨j,off,spot⟩ Z k):=by
 have a6:∀(vs Z:List q58) (ρ:Ren) (k:Nat),LsR (VR ρ) vs Z->BR ρ i j->SR Q P (λ_ _ _=>True) (storeCells ⟨i,off,spot⟩ vs k) ρ (storeCells ⟨j,off,spot⟩ Z k):=by
  intro vs;induction vs with
  | nil=>intro Z ρ k h hb;cases h;exact qd trivial
  | cons v l ih =>
   intro Z ρ k h hb;cases h with
   | @cons _ v' _ l' hv hl =>
    obtain⟨o,s,e1,e2⟩:=yf i j off k spot;show SR Q P _ (store ((⟨i,off,spot⟩:qb9).add k) v>>=λ_=>storeCells ⟨i,off,spot⟩ l (k+1)) ρ (store ((⟨j,off,spot⟩:qb9).add k) v'>>=λ_=>storeCells ⟨j,off,spot⟩ l' (k+1));rw[e1,e2];exact .bnd (q8H hb hv) λσ _ _ l' _=>ih _ σ (k+1) (hl.imp λ_ _ x=>x.mono l') (hb.mono l')
 exact λk hb=>a6 vs Z ρ k hv hb
theorem JX{t:q8u}{i j:Nat}{off:Nat}{spot:Option Nat}(h:BR ρ i j):SR Q P VR (loadVar t ⟨i,off,spot⟩) ρ (loadVar t ⟨j,off,spot⟩):=by
 refine .bndE (q2j hT t) λσ b l=>?_;cases b with
 | true=>exact .bndE (qO hT t) λτ n l'=>.bnd (Z9 n (h.mono (l.trans l'))) λυ a b _ hab=>qd hab.agg
 | false=>exact q5D (h.mono l)
theorem q2f{t:q8u}{i j:Nat}{off:Nat}{spot:Option Nat}{v v':q58}(h:BR ρ i j)(hv:VR ρ v v') :
  SR Q P (λ_ _ _=>True) (storeVar t ⟨i,off,spot⟩ v) ρ (storeVar t ⟨j,off,spot⟩ v'):=by
 refine .bndE (qO hT t) λσ n l=>?_;dsimp only;rw[<- (hv.mono l).cells.1];split
 ·exact zm
 ·refine q2g ?_
  exact jz (zf.1 (hv.mono l).cells) 0 (h.mono l)
omit hT in
theorem vw{e:q8u}{c c':Array q58}(h:AsR ρ c c'):SR Q P (λσ a b=>∃i j,a=⟨i,0,none⟩/\b=⟨j,0,none⟩/\BR σ i j) (newRow e c) ρ (newRow e c') :=
 .bnd (JW (.cells e h λo h1 h2=>absurd h2 (by simp))) λσ i j l hb=>qd ⟨i,j,rfl,rfl,hb⟩
omit hT in
theorem Qb{e:q8u}{v v':q58}(h:VR ρ v v'):SR Q P (λσ a b=>∃i j,a=⟨i,0,none⟩/\b=⟨j,0,none⟩/\BR σ i j) (newVar e v) ρ (newVar e v'):=vw h.cells
theorem KL(t:q8u):SR Q P EqR (elemOf t) ρ (elemOf t):=.bndE (qB hT t) λσ d _=>by
 cases d with
 | pointer e=>exact qd rfl
 | _=>exact qf
theorem jB{t:q8u}{c c':Array q58}(h:AsR ρ c c')(off:Nat):SR Q P VR (part t c off) ρ (part t c' off):=by
 refine .bndE (q2j hT t) λσ b l=>?_;cases b with
 | true=>exact .bndE (qO hT t) λτ n l'=>qd (((h.mono (l.trans l')).extract _ _).agg)
 | false =>
  simp only[qa5,if_false];cases hc:c[off]? with
  | some v =>
   obtain⟨v',Z,hr⟩:=h.get hc;simp only[Z];exact qd (hr.mono l)
  | none=>exact qf
theorem qx(hG:Gl P ρ)(e:RuntimeError):SR Q P R (qdo e) ρ (qdo e):=by
 have Z:P.rt=Q.rt:=by rw[hT]
 refine zD ?_;dsimp only;rw[Z];have hh:∀(σ:Ren) (l:Le ρ σ) (t:q8u),VR σ (typeHandle Q t) (typeHandle P t):=λσ l t=>by
  unfold typeHandle;have:P.globals.size=Q.globals.size:=by rw[hT]
  rw[<- this];exact .ptr _ _ ((hG _ (q5m _)).mono l)
 cases e with
 | bounds x y s c=>exact jS (kY.vr _ (q1w rfl) |> λh=>.iface _ h)
 | error m=>exact jS (.iface _ (.string _))
 | plain m=>exact jS (.iface _ (.string _))
 | nilDeref=>exact jS (.iface _ (.string _))
 | typeAssertion i c a m =>
  refine .bndE (KL hT _) λσ el l=>.bnd (Qb (AsR.agg ?_)) λτ x y l' hxy=>?_
  ·have ho:∀o:Option q8u,VR σ (match o with | some t=>typeHandle Q t | none=>.pointer none) (match o with | some t=>typeHandle P t | none=>.pointer none):=λo=>by
    cases o with
    | none=>exact .ptrNil
    | some t=>exact hh σ l t
   rw[zf];exact .cons (ho i) (.cons (ho c) (.cons (ho (some a)) (.cons (.string _) .nil)))
  ·obtain⟨i,j,rfl,rfl,hb⟩:=hxy
   exact jS (.iface _ (.ptr _ _ hb))
 | panicNil =>
  refine .bndE (KL hT _) λσ el l=>.bnd (Qb (AsR.agg .nil)) λτ x y l' hxy=>?_;obtain⟨i,j,rfl,rfl,hb⟩:=hxy;exact jS (.iface _ (.ptr _ _ hb))
 | unhashable t=>exact jS (.iface _ (AsR.agg (.one (hh ρ (.refl ρ) t))))
theorem jc(hG:Gl P ρ)(k:IntKind)(x y:Int)(c:BoundsCode):SR Q P R (qdG k x y c) ρ (qdG k x y c):=by
 unfold qdG;dsimp only;refine qC (λ_=>?_) λ_=>?_
 ·exact .bndE (sr_map vz) λσ n l=>qx hT (hG.mono l) _
 ·exact(qx hT hG (.bounds (IntKind.i64.wrap x) y (k != IntKind.u64) c):SR Q P R _ ρ _)
omit hT in
theorem vQ{v v':q58}(h:VR ρ v v'):SR Q P EqR (asIntOf v) ρ (asIntOf v'):=by
 cases h<;>first | exact qd rfl | exact qf | exact qq
omit hT in
theorem Zb{v v':q58}(h:VR ρ v v'):SR Q P EqR (asInt v) ρ (asInt v'):=.bndE (vQ h) λσ a _=>qd rfl
omit hT in
theorem q6G{v v':q58}(h:VR ρ v v'):SR Q P EqR (asBool v) ρ (asBool v'):=by
 cases h<;>first | exact qd rfl | exact qf
omit hT in
theorem q97{v v':q58}(h:VR ρ v v'):SR Q P AsR (asAgg v) ρ (asAgg v'):=by
 cases h with
 | agg h1 h2=>exact qd ⟨h1,h2⟩
 | _=>exact qf
def AdR:Rel qb9 qb9:=λρ a b=>∃i j o s,a=⟨i,o,s⟩/\b=⟨j,o,s⟩/\BR ρ i j
theorem KM(hG:Gl P ρ){v v':q58}(h:VR ρ v v'):SR Q P AdR (asAddr v) ρ (asAddr v'):=by
 cases h with
 | ptr o s h=>exact qd ⟨_,_,o,s,rfl,rfl,h⟩
 | ptrNil =>
  show SR Q P AdR (qdo .nilDeref) ρ (qdo .nilDeref);exact qx hT hG _
 | _=>exact qf
end
section
variable[JunkSet]{Q P:q8b}(hT:P.toTables=Q.toTables){ρ:Ren}
theorem yJ{v v':q58}(h:VR ρ v v'):SR Q P AdR (Instr.sureAddr v) ρ (Instr.sureAddr v'):=by
 cases h with
 | ptr o s h=>exact qd ⟨_,_,o,s,rfl,rfl,h⟩
 | _=>exact qf
include hT
theorem q6F(t:q8u){v v':q58}(h:VR ρ v v'):SR Q P VR (Instr.loadAt t v) ρ (Instr.loadAt t v') :=
 .bnd (yJ h) λσ a b l hab=>by obtain⟨i,j,o,s,rfl,rfl,hb⟩:=hab;exact JX hT hb
theorem q4j(t:q8u){v v' x x':q58}(h:VR ρ v v')(hx:VR ρ x x'):SR Q P (λ_ _ _=>True) (Instr.storeAt t v x) ρ (Instr.storeAt t v' x') :=
 .bnd (yJ h) λσ a b l hab=>by obtain⟨i,j,o,s,rfl,rfl,hb⟩:=hab;exact q2f hT hb (hx.mono l)
theorem q99{t:q8u}(hz:kL Q t=true):SR Q P VR (Instr.alloc t true (.tuple #[])) ρ (Instr.alloc t true (.tuple #[])):=by
 refine .bnd (zk hT hz) λσ z z' l Z=>?_;show SR Q P VR (newVar t z>>=λa=>pure (.pointer (some a))) σ (newVar t z'>>=λa=>pure (.pointer (some a)));exact .bnd (Qb Z) λτ a b l hab=>by obtain⟨i,j,rfl,rfl,hb⟩:=hab;exact qd (.ptr _ _ hb)
omit hT in
theorem sr_box(t:q8u){v v':q58}(h:VR ρ v v'):SR Q P VR (Instr.box t v) ρ (Instr.box t v') :=
 .bnd (Qb h) λτ a b l hab=>by obtain⟨i,j,rfl,rfl,hb⟩:=hab;exact qd (.ptr _ _ hb)
def q0t(ρ:Ren)(a b:Nat × q58):Prop:=b.1=a.1/\VR ρ a.2 b.2
omit hT in
theorem q3p(Z:Nat->Option (Nat × Nat)):∀(l l':List (Nat × q58)) (c c':Array q58),LsR (q0t ρ) l l'->AsR ρ c c' ->
  (qel Z c l=none/\qel Z c' l'=none)\/∃r r',qel Z c l=some r/\qel Z c' l'=some r'/\AsR ρ r r':=by
 intro l;induction l with
 | nil=>intro l' c c' h hc;cases h;exact .inr ⟨c,c',rfl,rfl,hc⟩
 | cons x l ih =>
  intro l' c c' h hc;cases h with
  | @cons _ y _ l' hxy hl =>
   obtain⟨i,v⟩:=x;obtain⟨i',v'⟩:=y;obtain⟨rfl,hv⟩:=hxy;simp only[qel];cases hp:Z i' with
   | none=>exact .inl ⟨rfl,rfl⟩
   | some os =>
    obtain⟨off,size⟩:=os;dsimp only;have e1:v'.cells.size=v.cells.size:=hv.cells.1.symm;rw[e1,<- hc.1];by_cases a6:(decide (v.cells.size≠size) || decide (off+v.cells.size > c.size))=true
    ·rw[if_pos a6,if_pos a6]
     exact .inl ⟨rfl,rfl⟩
    ·rw[if_neg a6,if_neg a6]
     refine ih l' _ _ hl ?_;have a8:∀(xs a7:List q58) (k:Nat) (d d':Array q58),LsR (VR ρ) xs a7->AsR ρ d d' ->
       AsR ρ ((xs.zipIdx k).foldl (λcs (x:q58 × Nat)=>cs.setIfInBounds (off+x.2) x.1) d) ((a7.zipIdx k).foldl (λcs (x:q58 × Nat)=>cs.setIfInBounds (off+x.2) x.1) d'):=by
      intro xs;induction xs with
      | nil=>intro a7 k d d' hx hd;cases hx;exact hd
      | cons a xs ihx =>
       intro a7 k d d' hx hd;cases hx with
       | cons ha hxs=>exact ihx _ (k+1) _ _ hxs (hd.set _ ha)
     have:=a8 v.cells.toList v'.cells.toList 0 c c' (zf.1 hv.cells) hc;have e3:∀(a d:Array q58),a.zipIdx.foldl (λcs (x:q58 × Nat)=>cs.setIfInBounds (off+x.2) x.1) d=(a.toList.zipIdx 0).foldl (λcs (x:q58 × Nat)=>cs.setIfInBounds (off+x.2) x.1) d:=λa d=>by
      rw[<- qev,Array.toList_zipIdx]
     exact(e3 v.cells c ▸ e3 v'.cells c' ▸ this :)
theorem q96{t:q8u}(hz:kL Q t=true){ps Z:Array (Nat × q58)}(h:LsR (q0t ρ) ps.toList Z.toList):SR Q P VR (Instr.build t ps) ρ (Instr.build t Z):=by
 refine .bnd (zk hT hz) λσ z z' l a8=>.bndE (qB hT t) λτ d l'=>?_;have hp:LsR (q0t τ) ps.toList Z.toList:=h.imp λ_ _ x=>⟨x.1,x.2.mono (l.trans l')⟩
 have hc:AsR τ z.cells z'.cells:=a8.cells.mono l';have fin:∀(pl:Nat->Option (Nat × Nat)) (υ:Ren) (a6:String),Le τ υ->SR Q P VR
   (match qel pl z.cells ps.toList with | some cells=>pure (.agg cells) | _=>stuck a6) υ (match qel pl z'.cells Z.toList with | some cells=>pure (.agg cells) | _=>stuck a6):=λpl υ a6 lu=>by
  rcases q3p (ρ:=υ) pl _ _ _ _ (hp.imp λ_ _ x=>⟨x.1,x.2.mono lu⟩) (hc.mono lu) with⟨e1,e2⟩ | ⟨r,r',e1,e2,hr⟩
  ·rw[e1,e2];exact qf
  ·rw[e1,e2];exact qd hr.agg
 cases d with
 | struct fs =>
  refine .bndE (sr_mapM λσ f=>?_) λυ a7 lu=>fin _ υ _ lu;exact .bndE (qO hT _) λ_ n _=>qd rfl
 | array n e=>exact .bndE (qO hT _) λυ size lu=>fin _ υ _ lu
 | _=>exact qf
end
end Go.Sim
end
section
namespace Go.Sim
def PVR[JunkSet]:Rel q58 q58:=λρ a b=>VR ρ a b/\a≠.tuple #[]/\∀r,a≠.chan r
section
variable[JunkSet]{Q P:q8b}(hT:P.toTables=Q.toTables)
include hT
theorem yC(t:q8u):P.cellsOf t=Q.cellsOf t:=by unfold Program.cellsOf;rw[hT]
theorem kC(t:q8u):P.bytesOf t=Q.bytesOf t:=by unfold Program.bytesOf;rw[hT]
theorem Q6:P.depth=Q.depth:=by unfold Program.depth;rw[hT]
theorem QU:P.globals=Q.globals:=by rw[hT]
theorem kW:∀d t off,byteOfCell P d t off=byteOfCell Q d t off:=by
 intro d;induction d with
 | zero=>intro t off;rfl
 | succ d ih=>intro t off;simp only[byteOfCell,kg hT,yC hT,kC hT,ih]
theorem Kq:∀d t off,cellOfByte P d t off=cellOfByte Q d t off:=by
 intro d;induction d with
 | zero=>intro t off;rfl
 | succ d ih=>intro t off;simp only[cellOfByte,kg hT,yC hT,kC hT,ih]
theorem YU(d:Nat)(e:q8u)(c o:Nat)(b:Int):qex P d e c o b=qex Q d e c o b:=by
 simp only[qex,yC hT,kC hT,kW hT,Kq hT]
theorem qaG:∀d t u,P.alikeButTags d t u=Q.alikeButTags d t u:=by
 intro d;induction d with
 | zero=>intro t u;rfl
 | succ d ih=>intro t u;simp only[Program.alikeButTags,JF hT,ih]
theorem q4b(t:q8u):P.underlyingId t=Q.underlyingId t:=by unfold Program.underlyingId;rw[hT]
theorem q8A(t:q8u):P.stoodInHeld t=Q.stoodInHeld t:=by
 unfold Program.stoodInHeld Program.stoodInAs;simp only[kg hT,qaG hT,q4b hT,JF hT,Q6 hT];rw[show P.cutTypes=Q.cutTypes by rw[hT]]
theorem q1d:∀d t,P.eqGuardType d t=Q.eqGuardType d t:=by
 intro d;induction d with
 | zero=>intro t;rfl
 | succ d ih=>intro t;simp only[Program.eqGuardType,kg hT,ih]
omit hT in
theorem noInfo:Q.info? (yQ Q)=none:=by
 unfold yQ Tables.info?;rw[if_neg (qee _)];have e:∀(f:Nat) (t:q8u),Made.infoAt Q.toTables (f+1) t=if t<Q.types.size then Q.types[t]? else(Made.decode (t - Q.types.size)).bind (Made.reckon (Made.infoAt Q.toTables f)):=λ_ _=>rfl;show Made.infoAt Q.toTables (99+1) Q.types.size=none;rw[e,if_neg (qee _),Nat.sub_self];rfl
omit hT in
theorem q5k:Q.cellsOf (yQ Q)=0:=by unfold Program.cellsOf;rw[noInfo];rfl
variable{ρ:Ren}{α β:Type}{R:Rel α β}
omit hT in
theorem KG{i j:Nat}(h:BR ρ i j):SR Q P (λ_ a b=>a=none/\b=none) (viewAt i) ρ (viewAt j):=by
 refine .bnd (xL h) λσ x x' l hx=>?_;have e:x'.isSome=x.isSome:=by
  rcases hx with⟨_,rfl⟩ | ⟨_,_,rfl,e,n,rfl⟩<;>rfl
 rw[e];cases x.isSome with
 | true=>exact qd ⟨rfl,rfl⟩
 | false =>
  refine .bnd (jI (h.mono l)) λτ o o' l' ho=>?_;cases ho<;>exact qd ⟨rfl,rfl⟩
omit hT in
theorem q2i{i j:Nat}(h:BR ρ i j):SR Q P (λσ a b=>(a=none/\b=none)\/∃i j o s x,a=some (⟨i,o,s⟩,x)/\b=some (⟨j,o,s⟩,x)/\BR σ i j) (numberAt i) ρ (numberAt j):=by
 refine .bnd (xL h) λσ x x' l hx=>?_;have e:x'.isSome=x.isSome:=by
  rcases hx with⟨_,rfl⟩ | ⟨_,_,rfl,e,n,rfl⟩<;>rfl
 rw[e];cases x.isSome with
 | true=>exact qd (.inl ⟨rfl,rfl⟩)
 | false =>
  refine .bnd (jI (h.mono l)) λτ o o' l' ho=>?_;cases ho with
  | number o s x h=>exact qd (.inr ⟨_,_,o,s,x,rfl,rfl,h⟩)
  | _=>exact qd (.inl ⟨rfl,rfl⟩)
omit hT in
theorem KH{i j:Nat}{o o':Nat}{s s':Option Nat}(h:BR ρ i j):SR Q P (λ_ _ _=>True) (noView ⟨i,o,s⟩) ρ (noView ⟨j,o',s'⟩) :=
 .bnd (KG h) λσ a b l hab=>by obtain⟨rfl,rfl⟩:=hab;exact qd trivial
omit hT in
theorem jJ{i j:Nat}{o:Nat}{s:Option Nat}(h:BR ρ i j):SR Q P (λσ a b=>∃i j o s x,a=(⟨i,o,s⟩,x)/\b=(⟨j,o,s⟩,x)/\BR σ i j) (qct ⟨i,o,s⟩) ρ (qct ⟨j,o,s⟩) :=
 .bnd (q2i h) λσ a b l hab=>by
  rcases hab with⟨rfl,rfl⟩ | ⟨i',j',o',s',x,rfl,rfl,hb⟩
  ·exact qd ⟨_,_,_,_,_,rfl,rfl,h.mono l⟩
  ·exact qd ⟨_,_,_,_,_,rfl,rfl,hb⟩
theorem Qc{i j:Nat}{o:Nat}{s:Option Nat}(h:BR ρ i j)(hg:i<Q.globals.size):SR Q P EqR (byteOf ⟨i,o,s⟩) ρ (byteOf ⟨j,o,s⟩):=by
 unfold byteOf;cases s with
 | some s=>exact qd rfl
 | none =>
  dsimp only;refine zD ?_;refine .bnd (KH h) λσ _ _ l _=>.bnd (xL (h.mono l)) λτ x x' l' hx=>?_;have e:x'=x:=by
   rcases hx with⟨_,h⟩ | ⟨_,hge,_⟩
   ·exact h
   ·omega
  subst e;cases x' with
  | none=>exact qf
  | some en =>
   obtain⟨e,n⟩:=en;dsimp only;rw[yC hT];refine qC (λ_=>qd rfl) λ_=>?_;rw[Q6 hT,kW hT,kC hT];cases byteOfCell Q Q.depth e (o % Q.cellsOf e) with
   | none=>exact qf
   | some b=>exact qd rfl
theorem Z8{i j i' j':Nat}{o o':Nat}{s s':Option Nat}(h:BR ρ i j)(h':BR ρ i' j')(hG:Gl P ρ) :
  SR Q P EqR (Op.twoPlaces ⟨i,o,s⟩ ⟨i',o',s'⟩) ρ (Op.twoPlaces ⟨j,o,s⟩ ⟨j',o',s'⟩):=by
 unfold Op.twoPlaces;refine zD ?_;dsimp only;by_cases hi:i<Q.globals.size
 ·have hP:P.globals.size=Q.globals.size:=by rw[QU hT]
  have e1:j=i:=(hG i (by omega)).fn h |>.symm;by_cases Z:i'=i
  ·subst Z
   have e2:j'=j:=h'.fn h;subst e2;subst e1;simp only[bne_self_eq_false,Bool.false_or,QU hT];rw[if_neg (by simpa using hi)];exact .bndE (Qc hT h hi) λσ a l=>.bndE (Qc hT (h'.mono l) hi) λτ b _=>qd rfl
  ·have:(i != i' || decide (i>=Q.globals.size))=true:=by
    simp[Ne.symm Z]
   rw[if_pos this];exact zY
 ·have:(i != i' || decide (i>=Q.globals.size))=true:=by
   have:i>=Q.globals.size:=by omega
   simp[this]
  rw[if_pos this];exact zY
theorem q4u{i j i' j':Nat}{o o':Nat}{s s':Option Nat}(k:IntKind)(h:BR ρ i j)(h':BR ρ i' j')(hG:Gl P ρ) :
  SR Q P VR (Op.addrSub k ⟨i,o,s⟩ ⟨i',o',s'⟩) ρ (Op.addrSub k ⟨j,o,s⟩ ⟨j',o',s'⟩) :=
 .bndE (Z8 hT h h' hG) λσ a l=>qd (.int _ _)
theorem q4w{i j i' j':Nat}{o o':Nat}{s s':Option Nat}(op:BinOp)(h:BR ρ i j)(h':BR ρ i' j')(hG:Gl P ρ) :
  SR Q P VR (Op.addrCmp op ⟨i,o,s⟩ ⟨i',o',s'⟩) ρ (Op.addrCmp op ⟨j,o,s⟩ ⟨j',o',s'⟩) :=
 .bndE (Z8 hT h h' hG) λσ a l=>by
  obtain⟨x,y⟩:=a;cases op<;>first | exact qd (.bool _) | exact qq
omit hT in
theorem vO{i j:Nat}(h:BR ρ i j)(hk:¬ JunkSet.jk i):SR Q P EqR (shape i) ρ (shape j) :=
 (xL h).imp λσ x x' _ hx=>by
  rcases hx with⟨_,e⟩ | ⟨h,_⟩
  ·exact e
  ·exact absurd h hk
omit hT in
theorem Qr{i j:Nat}(h:BR ρ i j)(hk:JunkSet.jk i):SR Q P (λ_ x x'=>x=some (yQ Q,0)/\∃e n,x'=some (e,n)) (shape i) ρ (shape j) :=
 (xL h).imp λσ x x' _ hx=>by
  rcases hx with⟨h,_⟩ | ⟨_,_,h⟩
  ·exact absurd hk h
  ·exact h
omit hT in
theorem q4m{f:TypeInfo->Sem α}{s':Sem β}:SR Q P R (qdD (yQ Q)>>=f) ρ s':=by
 refine .bad ?_;refine Bad.bind (f:=f) ?_;show Bad Q (match Q.info? (yQ Q) with
  | some i=>(pure i:Sem TypeInfo)
  | none=>stuck "no such type")
 rw[noInfo];trivial
theorem q4s{i j:Nat}{o:Nat}{s:Option Nat}(h:BR ρ i j)(hk:¬ JunkSet.jk i):SR Q P EqR (byteOf ⟨i,o,s⟩) ρ (byteOf ⟨j,o,s⟩):=by
 unfold byteOf;cases s with
 | some s=>exact qd rfl
 | none =>
  dsimp only;refine zD ?_;refine .bnd (KH h) λσ _ _ l _=>.bndE (vO (h.mono l) hk) λτ x l'=>?_;cases x with
  | none=>exact qf
  | some en =>
   obtain⟨e,n⟩:=en;dsimp only;rw[yC hT];refine qC (λ_=>qd rfl) λ_=>?_;rw[Q6 hT,kW hT,kC hT];cases byteOfCell Q Q.depth e (o % Q.cellsOf e) with
   | none=>exact qf
   | some b=>exact qd rfl
theorem q4v{i j:Nat}{o:Nat}{s:Option Nat}(k:IntKind)(n:Int)(h:BR ρ i j):SR Q P VR (Op.addrMod k ⟨i,o,s⟩ n) ρ (Op.addrMod k ⟨j,o,s⟩ n):=by
 by_cases hk:JunkSet.jk i
 ·refine .bnd (Qr h hk) λσ x x' l hx=>?_
  obtain⟨rfl,e,m,rfl⟩:=hx;exact q4m
 ·refine .bndE (vO h hk) λσ x l=>?_
  cases x with
  | none=>exact qq
  | some en =>
   obtain⟨e,m⟩:=en;refine .bndE (zl hT e) λτ ti l'=>?_;dsimp only;refine qC (λ_=>zY) λ_=>?_;exact .bndE (q4s hT (h.mono (l.trans l')) hk) λυ b _=>qd (.int _ _)
theorem Qq{t t':q8u}{ts Z:Array q8u}{v v' x x':q58}(h:VR ρ v v')(hx:VR ρ x x') :
  SR Q P PVR (qcf ts t #[v,x]) ρ (qcf Z t' #[v',x']):=by
 have key:∀(p p':Option qb9),VR ρ (.pointer p) (.pointer p')->SR Q P PVR (qcf ts t #[.pointer p,x]) ρ (qcf Z t' #[.pointer p',x']):=by
  intro p p' hp;unfold qcf;dsimp only;refine .bndE (Zb hx) λσ n l=>?_;refine qC (λ_=>?_) λ_=>?_
  ·cases hp with
   | ptrNil=>exact qq
   | ptr o s h =>
    dsimp only;refine .bnd (KG (h.mono l)) λτ a b l' hab=>?_;obtain⟨rfl,rfl⟩:=hab;exact qd ⟨.ptr _ _ (h.mono (l.trans l')),by simp⟩
  ·refine qC (λ_=>zY) λ_=>?_
   cases hp with
   | ptrNil=>exact qq
   | @ptr i j o s h =>
    dsimp only;by_cases hk:JunkSet.jk i
    ·refine .bnd (Qr (h.mono l) hk) λτ x x' l' a6=>?_
     obtain⟨rfl,e,m,rfl⟩:=a6;refine .bad ?_;show Bad Q (match qex Q Q.depth (yQ Q) (0 / Q.cellsOf (yQ Q)) o n with
      | some off=>(pure (.pointer (some ⟨i,off,s⟩)):Sem q58)
      | none=>unsupported (.unsafePointer "Add"))
     have:qex Q Q.depth (yQ Q) (0 / Q.cellsOf (yQ Q)) o n=none:=by
      unfold qex;simp[q5k]
     rw[this];trivial
    ·refine .bndE (vO (h.mono l) hk) λτ x l'=>?_
     cases x with
     | none=>exact qq
     | some en =>
      obtain⟨e,m⟩:=en;dsimp only;refine zD ?_;rw[YU hT,Q6 hT,yC hT];cases qex Q Q.depth e (m / Q.cellsOf e) o n with
      | none=>exact qq
      | some off=>exact qd ⟨.ptr _ _ (h.mono (l.trans l')),by simp⟩
 cases h with
 | ptrNil=>exact key _ _ .ptrNil
 | ptr o s h=>exact key _ _ (.ptr o s h)
 | _=>exact qf
theorem q0E{t t':q8u}{ts Z:Array q8u}{v v' x x':q58}(h:VR ρ v v')(hx:VR ρ x x') :
  SR Q P VR (qcf ts t #[v,x]) ρ (qcf Z t' #[v',x']):=(Qq hT h hx).imp λ_ _ _ _ h=>h.1
theorem ja{t:q8u}{v v' x x':q58}(h:VR ρ v v')(hx:VR ρ x x'):SR Q P VR (movedNumber t v x) ρ (movedNumber t v' x'):=by
 have rest:∀σ,Le ρ σ->SR Q P VR (do
   let .pointer (some n):=v | qcf #[] t #[v,x]
   let (a,lost) <- qct n
   match <- qcf #[] t #[.pointer (some a),x] with
    | .pointer (some b)=>asNumber b lost
    | v=>pure v) σ (do
   let .pointer (some n):=v' | qcf #[] t #[v',x']
   let (a,lost) <- qct n
   match <- qcf #[] t #[.pointer (some a),x'] with
    | .pointer (some b)=>asNumber b lost
    | v=>pure v):=by
  intro σ l;have hx':=hx.mono l;have Z:SR Q P VR (qcf #[] t #[v,x]) σ (qcf #[] t #[v',x']):=q0E hT (h.mono l) hx';cases h with
  | ptr o s h =>
   dsimp only;refine .bnd (jJ (h.mono l)) λτ a b l' hab=>?_;obtain⟨i',j',o',s',lost,rfl,rfl,hb⟩:=hab;dsimp only;refine .bnd (Qq hT (.ptr o' s' hb) (hx'.mono l')) λυ y y' lu a7=>?_;obtain⟨hy,a8⟩:=a7;have a6:SR Q P VR (pure y) υ (pure y'):=qd hy;cases hy with
   | ptr o' s' h'=>exact .bnd (JW (.number _ _ _ h')) λω i j _ hij=>qd (.ptr _ _ hij)
   | wild _ _=>exact absurd rfl (a8.2 _)
   | _=>exact a6
  | _=>exact Z
 unfold movedNumber;refine .bndE (qB hT t) λσ d l=>?_;cases d<;>first | exact rest σ l | exact qq
def q15(Q:q8b)(t:q8u):Bool :=
 match Q.underlying t with
 | some .unsafePointer=>false
 | _=>true
theorem qL(t:q8u):SR Q P (λ_ a b=>b=a/\Q.underlying t=some a) (qdg t) ρ (qdg t):=by
 refine zD ?_;rw[kg hT];cases Q.underlying t with
 | some i=>exact qd ⟨rfl,rfl⟩
 | none=>exact qf
def Kj:BinOp->Bool
 | .eql | .neq=>true
 | _=>false
theorem q98{op:BinOp}(ho:Kj op=false){t:q8u}(ht:q15 Q t=true){v v' x x':q58}(h:VR ρ v v')(hx:VR ρ x x')(hG:Gl P ρ) :
  SR Q P VR (binOp op t v x) ρ (binOp op t v' x'):=by
 have ints:∀(k:IntKind) (a:Int) (k':IntKind) (b:Int),SR Q P VR (binOp op t (.int k a) (.int k' b)) ρ (binOp op t (.int k a) (.int k' b)):=by
  intro k a k' b;have b6:∀op,SR Q P VR (Op.intDiv op k a b) ρ (Op.intDiv op k a b):=λop=>by
   unfold Op.intDiv;refine qC (λ_=>qx hT hG _) λ_=>?_;cases op<;>first | exact qd (.int _ _) | exact qf
  have Z:∀op,SR Q P VR (Op.shift op k a k' b) ρ (Op.shift op k a k' b):=λop=>by
   unfold Op.shift;refine qC (λ_=>qx hT hG _) λ_=>?_;dsimp only;cases op<;>first | exact qd (.int _ _) | exact qf
  cases op<;>first
   | exact Z .shl
   | exact Z .shr
   | (refine qC (λ_=>qf) λ_=>?_;first | exact b6 .quo | exact b6 .rem | exact qd (.int _ _) | exact qd (.bool _))
   | exact absurd ho (by decide)
 have a6:op=.add->∀(p p':Option qb9) (k:IntKind) (b:Int),VR ρ (.pointer p) (.pointer p')->SR Q P VR (binOp .add t (.pointer p) (.int k b)) ρ (binOp .add t (.pointer p') (.int k b)):=by
  intro _ p p' k b hp;refine .bnd (qL hT t) λσ d d' l hd=>?_;obtain⟨rfl,hd⟩:=hd;have:SR Q P VR (movedNumber t (.pointer p) (.int k b)) σ (movedNumber t (.pointer p') (.int k b)):=ja hT (hp.mono l) (.int k b);unfold q15 at ht;rw[hd] at ht;cases d'<;>first | exact this | cases ht
 have a8:∀(a7:BinOp) {i j i' j' o s o' s'},BR ρ i j->BR ρ i' j'->SR Q P VR (do Op.addrCmp a7 (<- qct ⟨i,o,s⟩).1 (<- qct ⟨i',o',s'⟩).1) ρ (do Op.addrCmp a7 (<- qct ⟨j,o,s⟩).1 (<- qct ⟨j',o',s'⟩).1):=by
  intro a7 i j i' j' o s o' s' h1 h2;refine .bnd (jJ h1) λσ a b l hab=>?_;obtain⟨_,_,_,_,_,rfl,rfl,hb1⟩:=hab;refine .bnd (jJ (h2.mono l)) λτ a b l' hab=>?_;obtain⟨_,_,_,_,_,rfl,rfl,b0⟩:=hab;exact q4w hT a7 (hb1.mono l') b0 (hG.mono (l.trans l'))
 have sub:∀{i j i' j' o s o' s'},BR ρ i j->BR ρ i' j'->SR Q P VR (do Op.addrSub .u64 (<- qct ⟨i,o,s⟩).1 (<- qct ⟨i',o',s'⟩).1) ρ (do Op.addrSub .u64 (<- qct ⟨j,o,s⟩).1 (<- qct ⟨j',o',s'⟩).1):=by
  intro i j i' j' o s o' s' h1 h2;refine .bnd (jJ h1) λσ a b l hab=>?_;obtain⟨_,_,_,_,_,rfl,rfl,hb1⟩:=hab;refine .bnd (jJ (h2.mono l)) λτ a b l' hab=>?_;obtain⟨_,_,_,_,_,rfl,rfl,b0⟩:=hab;exact q4u hT .u64 (hb1.mono l') b0 (hG.mono (l.trans l'))
 have a9:∀{i j o s} (k:IntKind) (n:Int),BR ρ i j->SR Q P VR (do Op.addrMod k (<- qct ⟨i,o,s⟩).1 n) ρ (do Op.addrMod k (<- qct ⟨j,o,s⟩).1 n):=by
  intro i j o s k n h1;refine .bnd (jJ h1) λσ a b l hab=>?_;obtain⟨_,_,_,_,_,rfl,rfl,hb1⟩:=hab;exact q4v hT k n hb1
 cases h with
 | int k a =>
  cases hx with
  | int k' b=>exact ints k a k' b
  | ptr o s hb=>cases op<;>first | exact ja hT (.ptr o s hb) (.int k a) | exact a9 k (a+1) hb | exact qq | exact absurd ho (by decide)
  | ptrNil=>cases op<;>first | exact ja hT .ptrNil (.int k a) | exact qq | exact absurd ho (by decide)
  | _=>cases op<;>first | exact qf | exact absurd ho (by decide)
 | string a =>
  cases hx with
  | string b =>
   cases op<;>first
    | exact qd (.bool _)
    | exact qf
    | (refine qC (λ_=>qq) λ_=>?_;exact qd (.string _))
    | exact absurd ho (by decide)
  | ptr o s hb=>cases op<;>first | exact qq | exact qf | exact absurd ho (by decide)
  | ptrNil=>cases op<;>first | exact qq | exact qf | exact absurd ho (by decide)
  | _=>cases op<;>first | exact qf | exact absurd ho (by decide)
 | ptr o s hb =>
  cases hx with
  | int k b=>cases op<;>first | exact a6 rfl _ _ k b (.ptr o s hb) | exact ja hT (.ptr o s hb) (.int k (-b)) | exact a9 k b hb | exact a9 k (b+1) hb | exact qq | exact absurd ho (by decide)
  | ptr o' s' hb'=>cases op<;>first | exact sub hb hb' | exact a8 .lss hb hb' | exact a8 .leq hb hb' | exact a8 .gtr hb hb' | exact a8 .geq hb hb' | exact qq | exact absurd ho (by decide)
  | ptrNil=>cases op<;>first | exact qq | exact absurd ho (by decide)
  | _=>cases op<;>first | exact qq | exact qf | exact absurd ho (by decide)
 | ptrNil =>
  cases hx with
  | int k b=>cases op<;>first | exact a6 rfl _ _ k b .ptrNil | exact ja hT .ptrNil (.int k (-b)) | exact qq | exact absurd ho (by decide)
  | _=>cases op<;>first | exact qq | exact qf | exact absurd ho (by decide)
 | _ =>
  cases hx with
  | ptr o s hb=>cases op<;>first | exact qq | exact qf | exact absurd ho (by decide)
  | ptrNil=>cases op<;>first | exact qq | exact qf | exact absurd ho (by decide)
  | _=>cases op<;>first | exact qf | exact absurd ho (by decide)
end
end Go.Sim
end
section
namespace Go.Sim
def q65(Q:q8b)(t:q8u):Bool :=
 match Q.info? t with
 | some i=>match i.desc with | .named n _=>n != "sync.copyChecker" | _=>true
 | none=>true
def eqB(Q:q8b):Nat->q8u->Bool
 | 0,_=>false
 | n+1,t =>
  match Q.underlying t with
  | some .bool | some .string | some (.slice _) | some (.map ..) | some (.func ..)=>true
  | some (.int _)=>q65 Q t
  | some (.struct fs)=>fs.all λf=>f.name == "_" || eqB Q n f.type
  | some (.array _ e)=>eqB Q n e
  | _=>false
theorem zS{Q:q8b}{v:q58}(hv:v=.tuple #[]\/∃r,v=.chan r)(d:Nat){t:q8u}(ht:∀a b,Q.underlying t≠some (.chan a b))(x:q58):Bad Q (Op.equalIn d t v x):=by
 cases d with
 | zero=>exact rfl
 | succ d =>
  unfold Op.equalIn;show Bad Q ((match Q.underlying t with | some i=>(pure i:Sem TypeDesc) | none=>stuck "no such type").bind _);cases hu:Q.underlying t with
  | none=>exact rfl
  | some ty =>
   rcases hv with rfl | ⟨r,rfl⟩
   ·cases ty<;>cases x<;>first | exact rfl | (rename_i p;cases p<;>exact rfl)
   ·cases ty<;>first | exact absurd hu (ht _ _) | (cases x<;>first | exact rfl | (rename_i p;cases p<;>exact rfl))
theorem zR{Q:q8b}{v:q58}(hv:v=.tuple #[]\/∃r,v=.chan r)(d:Nat){t:q8u}(ht:∀a b,Q.underlying t≠some (.chan a b))(x:q58):Bad Q (Op.equalIn d t x v):=by
 cases d with
 | zero=>exact rfl
 | succ d =>
  unfold Op.equalIn;show Bad Q ((match Q.underlying t with | some i=>(pure i:Sem TypeDesc) | none=>stuck "no such type").bind _);cases hu:Q.underlying t with
  | none=>exact rfl
  | some ty =>
   rcases hv with rfl | ⟨r,rfl⟩
   ·cases ty<;>cases x<;>first | exact rfl | (rename_i p;cases p<;>exact rfl) | (rename_i p _;cases p<;>exact rfl) | (rename_i p _ _;cases p<;>exact rfl)
   ·cases ty<;>first | exact absurd hu (ht _ _) | (cases x<;>first | exact rfl | (rename_i p;cases p<;>exact rfl) | (rename_i p _;cases p<;>exact rfl) | (rename_i p _ _;cases p<;>exact rfl))
theorem jZ{Q:q8b}{n:Nat}{t:q8u}(h:eqB Q n t=true):∀a b,Q.underlying t≠some (.chan a b):=by
 intro a b e;cases n with
 | zero=>cases h
 | succ n =>
  unfold eqB at h;rw[e] at h;cases h
section
variable[JunkSet]{Q P:q8b}(hT:P.toTables=Q.toTables){ρ:Ren}{α β γ:Type}{R:Rel α β}
theorem zF{σT:Type}{K:Ren->Prop}(hK:∀ρ σ,Le ρ σ->K ρ->K σ){f f':α->σT->Sem (ForInStep σT)}(l:List α)(h:∀a∈l,∀ρ b,K ρ->SR Q P EqR (f a b) ρ (f' a b)):∀(ρ:Ren) (b:σT),K ρ->SR Q P EqR (forIn l b f) ρ (forIn l b f'):=by
 induction l with
 | nil=>intro ρ b _;exact qd rfl
 | cons a l ih =>
  intro ρ b k;rw[List.forIn_cons,List.forIn_cons];refine .bndE (h a (List.mem_cons_self ..) ρ b k) λσ s lσ=>?_;cases s with
  | done b=>exact qd rfl
  | yield b=>exact ih (λa ha=>h a (List.mem_cons_of_mem _ ha)) σ b (hK _ _ lσ k)
include hT
theorem QL:∀(n d:Nat) {ρ:Ren} {t:q8u} {x x' y y':q58},eqB Q n t=true->VR ρ x x'->VR ρ y y'->Gl P ρ ->
  SR Q P EqR (Op.equalIn d t x y) ρ (Op.equalIn d t x' y'):=by
 intro n;induction n with
 | zero=>intro d ρ t x x' y y' h;cases h
 | succ n ih =>
  intro d ρ t x x' y y' h hx hy hG;cases d with
  | zero=>exact qq
  | succ d =>
   unfold Op.equalIn;refine .bnd (qL hT t) λσ ty a9 l Z=>?_;obtain⟨rfl,Z⟩:=Z;replace hx:=hx.mono l;replace hy:=hy.mono l;replace hG:=hG.mono l;unfold eqB at h;rw[Z] at h;cases a9 with
   | bool=>cases hx<;>first | exact qf | (cases hy<;>first | exact qf | exact qd rfl)
   | string=>cases hx<;>first | exact qf | (cases hy<;>first | exact qf | exact qd rfl)
   | slice e=>cases hx<;>first | exact qf | (cases hy<;>first | exact qf | exact qd rfl)
   | map k e=>cases hx<;>first | exact qf | (cases hy<;>first | exact qf | exact qd rfl)
   | func a b c=>cases hx<;>first | exact qf | (cases hy<;>first | exact qf | exact qd rfl)
   | int k =>
    have b0:∀{i j i' j' o s o' s'},BR σ i j->BR σ i' j'->SR Q P EqR (do
      let (a,b):=((<- qct ⟨i,o,s⟩).1,(<- qct ⟨i',o',s'⟩).1)
      if a.block == b.block && a.block<(<- program).globals.size then return (<- byteOf a) == (<- byteOf b)
      let .named "sync.copyChecker" _:=(<- qdD t).desc | unsupported .addressObserved
      if a == b then pure true else unsupported .addressObserved) σ (do
      let (a,b):=((<- qct ⟨j,o,s⟩).1,(<- qct ⟨j',o',s'⟩).1)
      if a.block == b.block && a.block<(<- program).globals.size then return (<- byteOf a) == (<- byteOf b)
      let .named "sync.copyChecker" _:=(<- qdD t).desc | unsupported .addressObserved
      if a == b then pure true else unsupported .addressObserved):=by
     intro i j i' j' o s o' s' h1 h2;refine .bnd (jJ h1) λσ a b l hab=>?_;obtain⟨_,_,_,_,_,rfl,rfl,hb1⟩:=hab;refine .bnd (jJ (h2.mono l)) λτ a b l' hab=>?_;obtain⟨_,_,_,_,_,rfl,rfl,a7⟩:=hab;dsimp only;refine zD ?_
     rename_i i1 j1 o1 s1 x1 i2 j2 o2 s2 x2
     have hP:P.globals.size=Q.globals.size:=by rw[QU hT]
     by_cases hc:(i1 == i2 && decide (i1<Q.globals.size))=true
     ·rw[if_pos hc]
      simp only[q9b,beq_iff_eq,decide_eq_true_eq] at hc;obtain⟨rfl,hlt⟩:=hc;have e:j2=j1:=a7.fn (hb1.mono l');subst e;have e1:j2=i1:=(((hG.mono l).mono l') i1 (by omega)).fn a7 |>.symm;rw[if_pos (by simp[e1,hP,hlt])];exact .bndE (Qc hT (hb1.mono l') hlt) λυ a lu=>.bndE (Qc hT (a7.mono lu) hlt) λω b _=>qd rfl
     ·rw[if_neg hc]
      refine .bad ?_;show Bad Q ((qdD t).bind _);have a6:∃ti,Q.info? t=some ti:=by
       unfold Program.underlying at Z;cases hq:Q.info? t with
       | none=>rw[hq] at Z;cases Z
       | some ti=>exact⟨ti,rfl⟩
      obtain⟨ti,a8⟩:=a6;unfold q65 at h;simp only[a8] at h;show Bad Q ((match Q.info? t with
       | some i=>(pure i:Sem TypeInfo)
       | none=>stuck "no such type").bind _)
      rw[a8];show Bad Q (match ti.desc with
       | .named "sync.copyChecker" _=>if((⟨i1,o1,s1⟩:qb9) == ⟨i2,o2,s2⟩)=true then pure true else unsupported .addressObserved
       | _=>unsupported .addressObserved)
      split
      ·rename_i u hd
       rw[hd] at h;simp at h
      ·trivial
    cases hx with
    | int k1 a =>
     cases hy with
     | int k2 b=>exact qC (λ_=>qd rfl) λ_=>qf
     | ptr o s hb =>
      cases a with
      | ofNat m=>cases m with
       | zero=>exact qd rfl
       | succ m=>exact qq
      | negSucc m=>exact qq
     | ptrNil=>exact qq
     | _=>exact qf
    | ptr o s hb =>
     cases hy with
     | int k2 b =>
      cases b with
      | ofNat m=>cases m with
       | zero=>exact qd rfl
       | succ m=>exact qq
      | negSucc m=>exact qq
     | ptr o' s' hb'=>exact b0 hb hb'
     | ptrNil=>exact qq
     | _=>exact qq
    | ptrNil=>cases hy<;>exact qq
    | _=>cases hy<;>first | exact qf | exact qq
   | struct fs =>
    cases hx with
    | agg h1 h2 =>
     cases hy with
     | agg h3 h4 =>
      dsimp only;refine zD ?_;rw[q8A hT];refine qC (λ_=>zY) λ_=>?_;rw[<- qe1,<- qe1];dsimp only at h;rw[qbu] at h;refine .bndE (zF (K:=λω=>Le σ ω) (λ_ _ l k=>k.trans l) _ (λf hf υ b lu=>?_) σ _ (.refl σ)) λυ r lu=>?_
      ·refine qC (λhne=>?_) λ_=>qd rfl
       have b6:eqB Q n f.type=true:=by
        have:=h f (qcs.1 hf);simp only[qcy,beq_iff_eq] at this;exact this.resolve_left hne
       exact .bnd (jB hT (AsR.mono lu ⟨h1,h2⟩) _) λω1 p p' l1 hp=>.bnd (jB hT (AsR.mono (lu.trans l1) ⟨h3,h4⟩) _) λω2 q q' l2 hq =>
        .bndE (ih d b6 (hp.mono l2) hq (hG.mono ((lu.trans l1).trans l2))) λω3 r _=>qC (λ_=>qd rfl) λ_=>qd rfl
      ·obtain⟨r,u⟩:=r
       cases r<;>exact qd rfl
     | _=>exact qf
    | _=>exact qf
   | array len e =>
    cases hx with
    | agg h1 h2 =>
     cases hy with
     | agg h3 h4 =>
      dsimp only;refine .bndE (qO hT e) λτ n l'=>?_;rw[qc8,qc8];refine .bndE (zF (K:=λω=>Le σ ω) (λ_ _ l k=>k.trans l) _ (λf hf υ b lu=>?_) τ _ l') λυ r lu=>?_
      ·exact .bnd (jB hT (AsR.mono lu ⟨h1,h2⟩) _) λω1 p p' l1 hp=>.bnd (jB hT (AsR.mono (lu.trans l1) ⟨h3,h4⟩) _) λω2 q q' l2 hq =>
        .bndE (ih d h (hp.mono l2) hq (hG.mono ((lu.trans l1).trans l2))) λω3 r _=>qC (λ_=>qd rfl) λ_=>qd rfl
      ·obtain⟨r,u⟩:=r
       cases r<;>exact qd rfl
     | _=>exact qf
    | _=>exact qf
   | _=>cases h
theorem JZ:∀(n d:Nat) {ρ:Ren} {t:q8u} {x x' y y':q58},eqB Q n t=true->VR ρ x x'->VR ρ y y' ->
  SR Q P EqR (Op.eqGuardIn d t x y) ρ (Op.eqGuardIn d t x' y'):=by
 intro n;induction n with
 | zero=>intro d ρ t x x' y y' h;cases h
 | succ n ih =>
  intro d ρ t x x' y y' h hx hy;cases d with
  | zero=>exact qq
  | succ d =>
   unfold Op.eqGuardIn;refine .bnd (qL hT t) λσ ty a6 l Z=>?_;obtain⟨rfl,Z⟩:=Z;replace hx:=hx.mono l;replace hy:=hy.mono l;unfold eqB at h;rw[Z] at h;cases a6 with
   | struct fs =>
    cases hx with
    | agg h1 h2 =>
     cases hy with
     | agg h3 h4 =>
      dsimp only;rw[<- qe1,<- qe1];dsimp only at h;rw[qbu] at h;refine .bndE (zF (K:=λω=>Le σ ω) (λ_ _ l k=>k.trans l) _ (λf hf υ b lu=>?_) σ _ (.refl σ)) λυ r lu=>?_
      ·refine qC (λhne=>?_) λ_=>qd rfl
       have a7:eqB Q n f.type=true:=by
        have:=h f (qcs.1 hf);simp only[qcy,beq_iff_eq] at this;exact this.resolve_left hne
       exact .bnd (jB hT (AsR.mono lu ⟨h1,h2⟩) _) λω1 p p' l1 hp=>.bnd (jB hT (AsR.mono (lu.trans l1) ⟨h3,h4⟩) _) λω2 q q' l2 hq =>
        .bndE (ih d a7 (hp.mono l2) hq) λω3 r _=>qC (λ_=>qd rfl) λ_=>qd rfl
      ·obtain⟨r,u⟩:=r
       cases r<;>exact qd rfl
     | wild _ hn=>cases y'<;>first | exact qd rfl | cases hn
     | _=>exact qd rfl
    | wild _ hn=>cases x'<;>first | exact qd rfl | cases hn
    | _=>exact qd rfl
   | array len e =>
    cases hx with
    | agg h1 h2 =>
     cases hy with
     | agg h3 h4 =>
      dsimp only;refine .bndE (qO hT e) λτ n l'=>?_;rw[qc8,qc8];refine .bndE (zF (K:=λω=>Le σ ω) (λ_ _ l k=>k.trans l) _ (λf hf υ b lu=>?_) τ _ l') λυ r lu=>?_
      ·exact .bnd (jB hT (AsR.mono lu ⟨h1,h2⟩) _) λω1 p p' l1 hp=>.bnd (jB hT (AsR.mono (lu.trans l1) ⟨h3,h4⟩) _) λω2 q q' l2 hq =>
        .bndE (ih d h (hp.mono l2) hq) λω3 r _=>qC (λ_=>qd rfl) λ_=>qd rfl
      ·obtain⟨r,u⟩:=r
       cases r<;>exact qd rfl
     | wild _ hn=>cases y'<;>first | exact qd rfl | cases hn
     | _=>exact qd rfl
    | wild _ hn=>cases x'<;>first | exact qd rfl | cases hn
    | _=>exact qd rfl
   | interface ms=>cases h
   | _=>cases hx<;>first | exact qd rfl | (cases hy<;>exact qd rfl)
def kw:qaH->Bool
 | .const .nilIface=>true
 | _=>false
def eqOk(Q:q8b)(t:q8u)(x y:qaH):Bool:=eqB Q 6 t || (kw x || kw y) && (match Q.underlying t with | some (.interface _)=>true | _=>false)
theorem sr_eql{op:BinOp}(ho:Kj op=true){t:q8u}(ht:eqB Q 6 t=true){v v' x x':q58}(h:VR ρ v v')(hx:VR ρ x x')(hG:Gl P ρ) :
  SR Q P VR (binOp op t v x) ρ (binOp op t v' x'):=by
 have e:SR Q P VR (do pure (.bool (<- Op.equal t v x))) ρ (do pure (.bool (<- Op.equal t v' x'))):=.bndE (QL hT 6 _ ht h hx hG) λσ b _=>qd (.bool _);have n:SR Q P VR (do pure (.bool (!(<- Op.equal t v x)))) ρ (do pure (.bool (!(<- Op.equal t v' x')))):=.bndE (QL hT 6 _ ht h hx hG) λσ b _=>qd (.bool _);cases op<;>first | exact absurd ho (by decide) | skip
 ·cases h<;>first | exact e | exact .bad (Bad.bind (zS (.inl rfl) _ (jZ ht) _) _) | exact .bad (Bad.bind (zS (.inr ⟨_,rfl⟩) _ (jZ ht) _) _) | (cases hx<;>first | exact e | exact .bad (Bad.bind (zR (.inl rfl) _ (jZ ht) _) _) | exact .bad (Bad.bind (zR (.inr ⟨_,rfl⟩) _ (jZ ht) _) _) | exact qd (.bool _) | exact qC (λ_=>qf) λ_=>qd (.bool _))
 ·cases h<;>first | exact n | exact .bad (Bad.bind (zS (.inl rfl) _ (jZ ht) _) _) | exact .bad (Bad.bind (zS (.inr ⟨_,rfl⟩) _ (jZ ht) _) _) | (cases hx<;>first | exact n | exact .bad (Bad.bind (zR (.inl rfl) _ (jZ ht) _) _) | exact .bad (Bad.bind (zR (.inr ⟨_,rfl⟩) _ (jZ ht) _) _) | exact qd (.bool _) | exact qC (λ_=>qf) λ_=>qd (.bool _))
end
end Go.Sim
end
section
namespace Go.Sim
section
variable[JunkSet]{Q P:q8b}(hT:P.toTables=Q.toTables){ρ:Ren}{α β γ:Type}{R:Rel α β}
include hT
theorem q94{op:BinOp}(ho:Kj op=true){t:q8u}(ht:∃ms,Q.underlying t=some (.interface ms)){v v' x x':q58}(h:VR ρ v v')(hx:VR ρ x x')(hn:v=.nilIface\/x=.nilIface) :
  SR Q P VR (binOp op t v x) ρ (binOp op t v' x'):=by
 obtain⟨ms,a7⟩:=ht;have Z:∀a b,Q.underlying t≠some (.chan a b):=λa b e=>by rw[a7] at e;cases e
 have key:SR Q P EqR (Op.equal t v x) ρ (Op.equal t v' x'):=by
  refine .bnd (qL hT t) λσ ty a8 l a6=>?_;obtain⟨rfl,a6⟩:=a6;rw[a7] at a6;cases a6;rcases hn with rfl | rfl
  ·cases h
   cases hx<;>first | exact qd rfl | exact qf
  ·cases hx
   cases h<;>first | exact qd rfl | exact qf
 have e:SR Q P VR (do pure (.bool (<- Op.equal t v x))) ρ (do pure (.bool (<- Op.equal t v' x'))):=.bndE key λσ b _=>qd (.bool _);have n:SR Q P VR (do pure (.bool (!(<- Op.equal t v x)))) ρ (do pure (.bool (!(<- Op.equal t v' x')))):=.bndE key λσ b _=>qd (.bool _);cases op<;>first | exact absurd ho (by decide) | skip
 ·rcases hn with rfl | rfl
  ·cases h
   cases hx<;>first | exact e | exact .bad (Bad.bind (zR (.inl rfl) _ Z _) _) | exact .bad (Bad.bind (zR (.inr ⟨_,rfl⟩) _ Z _) _)
  ·cases hx
   cases h<;>first | exact e | exact .bad (Bad.bind (zS (.inl rfl) _ Z _) _) | exact .bad (Bad.bind (zS (.inr ⟨_,rfl⟩) _ Z _) _)
 ·rcases hn with rfl | rfl
  ·cases h
   cases hx<;>first | exact n | exact .bad (Bad.bind (zR (.inl rfl) _ Z _) _) | exact .bad (Bad.bind (zR (.inr ⟨_,rfl⟩) _ Z _) _)
  ·cases hx
   cases h<;>first | exact n | exact .bad (Bad.bind (zS (.inl rfl) _ Z _) _) | exact .bad (Bad.bind (zS (.inr ⟨_,rfl⟩) _ Z _) _)
theorem Y1{op:BinOp}{t:q8u}{x y:qaH}(ht:Kj op=true->eqOk Q t x y=true){v v' u u':q58}(h:VR ρ v v')(hu:VR ρ u u')(hx:kw x=true->v=.nilIface)(hy:kw y=true->u=.nilIface)(hw:Kj op=true->∀w,(w=v\/w=u)->w≠.chan none) :
  SR Q P (λ_ _ _=>True) (eqGuard op t x y v u) ρ (eqGuard op t x y v' u'):=by
 have a6:Kj op=true->SR Q P (λ_ _ _=>True) (eqGuard .eql t x y v u) ρ (eqGuard .eql t x y v' u'):=by
  intro ho;have ht:=ht ho;have a7:=hw ho v (.inl rfl);have Z:=hw ho u (.inr rfl);unfold eqOk at ht;simp only[qcy,q9b] at ht;cases h with
  | wild _ _=>exact absurd rfl a7
  | nilIface =>
   cases hu with
   | nilIface =>
    refine qC (λh=>absurd h (by decide)) λ_=>?_;refine qC (λ_=>qd trivial) λhc=>?_;rcases ht with ht | ⟨hn,_⟩
    ·refine .bndE (JZ hT 6 _ ht .nilIface .nilIface) λσ b _=>?_
     exact qC (λ_=>qq) λ_=>qd trivial
    ·exfalso
     apply hc;rcases hn with hn | hn
     ·cases x<;>first | rfl | (exact absurd hn (by simp[kw]))
     ·cases y<;>first | exact absurd hn Bool.false_ne_true | (simp;done)
   | wild _ _=>exact absurd rfl Z
   | _=>exact qd trivial
  | agg h1 h2 =>
   cases hu with
   | agg h3 h4 =>
    refine qC (λh=>absurd h (by decide)) λ_=>?_;refine zD (zD ?_);rw[q1d hT,Q6 hT];refine qC (λ_=>qd trivial) λ_=>?_;rcases ht with ht | ⟨hn,_⟩
    ·refine .bndE (JZ hT 6 _ ht (.agg h1 h2) (.agg h3 h4)) λσ b _=>?_
     exact qC (λ_=>qq) λ_=>qd trivial
    ·rcases hn with hn | hn
     ·have:=hx hn;cases this
     ·have:=hy hn;cases this
   | wild _ _=>exact absurd rfl Z
   | _=>exact qd trivial
  | _=>exact qd trivial
 cases op<;>first | exact a6 rfl | exact qd trivial
theorem bad_eqT{op:BinOp}(ho:Kj op=true){t:q8u}(ht:∀a b,Q.underlying t≠some (.chan a b)){x y:qaH}{v u:q58}(h:v=.chan none\/u=.chan none):Bad Q (do eqGuard op t x y v u;binOp op t v u):=by
 rcases h with rfl | rfl
 ·cases op<;>first | (cases ho;done) | exact Bad.bind (zS (.inr ⟨_,rfl⟩) _ ht _) _
 ·cases op<;>first | (cases ho;done) | (cases v<;>exact Bad.bind (zR (.inr ⟨_,rfl⟩) _ ht _) _)
omit hT in
theorem q4q{v v':q58}(h:VR ρ v v')(i:Nat):SR Q P VR (Instr.extract v i) ρ (Instr.extract v' i):=by
 cases h with
 | @tuple a a' h1 h2 =>
  have ha:AsR ρ a a':=⟨h1,h2⟩
  unfold Instr.extract;dsimp only;cases hc:a[i]? with
  | none=>exact qf
  | some x =>
   obtain⟨y,hy,hv⟩:=ha.get hc;rw[hy];exact qd hv
 | _=>exact qf
theorem q93(t:q8u){v v':q58}(h:VR ρ v v')(i:Nat):SR Q P VR (Instr.field t v i) ρ (Instr.field t v' i):=by
 refine .bndE (qB hT t) λσ d l=>?_;cases d with
 | struct fs =>
  dsimp only;cases fs[i]? with
  | none=>exact qf
  | some f=>exact .bnd (q97 (h.mono l)) λτ a a' l' ha=>jB hT ha _
 | _=>exact qf
theorem q92(hG:Gl P ρ)(t:q8u){v v' x x':q58}(h:VR ρ v v')(hx:VR ρ x x'):SR Q P VR (Instr.index t v x) ρ (Instr.index t v' x'):=by
 refine .bndE (vQ hx) λσ ki l=>?_;obtain⟨k,i⟩:=ki;refine .bndE (qB hT t) λτ d l'=>?_;have h':=h.mono (l.trans l');have Z:=hG.mono (l.trans l');cases d with
 | array len e =>
  cases h' with
  | agg h1 h2 =>
   dsimp only;refine qC (λ_=>?_) λ_=>jc hT Z _ _ _ _;exact .bndE (qO hT e) λυ n lu=>jB hT (AsR.mono lu ⟨h1,h2⟩) _
  | _=>exact qf
 | string =>
  cases h' with
  | string s =>
   dsimp only;split
   ·exact qd (.int _ _)
   ·exact jc hT Z _ _ _ _
  | _=>exact qf
 | _=>exact qf
theorem ZI(t:q8u){v v':q58}(h:VR ρ v v'):SR Q P VR (Instr.makeInterface t v) ρ (Instr.makeInterface t v'):=by
 refine .bndE (qB hT t) λσ d l=>?_;cases d<;>first | exact qd (.iface t (h.mono l)) | exact qf
theorem q8F{op:UnOp}{v v':q58}(h:VR ρ v v'):SR Q P VR (Op.unary op v) ρ (Op.unary op v'):=by
 cases h<;>cases op<;>first | exact qf | exact qq | exact qd (.int _ _) | exact qd (.bool _)
theorem Ka(hG:Gl P ρ){t a:q8u}(hz:kL Q a=true)(c:Bool){v v':q58}(h:VR ρ v v'):SR Q P VR (qdw v t a c) ρ (qdw v' t a c):=by
 have a6:∀{σ:Ren} {u u':q58},VR σ u u'->SR Q P VR (pure (if c then .tuple #[u,.bool true] else u):Sem q58) σ (pure (if c then .tuple #[u',.bool true] else u')):=by
  intro σ u u' hu;cases c with
  | true=>exact qd (AsR.tuple (zf.2 (.cons hu (.cons (.bool _) .nil))))
  | false=>exact qd hu
 have Z:∀{σ:Ren} (s d:Option q8u) (m:String),Le ρ σ->SR Q P VR (if c then do pure (.tuple #[<- zeroValue a,.bool false]) else qdo (.typeAssertion s d a m):Sem q58) σ (if c then do pure (.tuple #[<- zeroValue a,.bool false]) else qdo (.typeAssertion s d a m)):=by
  intro σ s d m l;cases c with
  | true=>exact .bnd (zk hT hz) λτ z z' _ a7=>qd (AsR.tuple (zf.2 (.cons a7 (.cons (.bool _) .nil))))
  | false=>exact qx hT (hG.mono l) (.typeAssertion s d a m)
 unfold qdw;dsimp only;refine .bndE (qB hT a) λσ d l=>?_;have h':=h.mono l;cases d with
 | interface ms =>
  cases h' with
  | nilIface=>exact Z none none "" l
  | iface ty hv =>
   dsimp only;refine .bndE (zl hT ty) λτ ti l'=>?_;split
   ·exact a6 (.iface ty (hv.mono l'))
   ·exact Z none (some ty) _ (l.trans l')
  | _=>exact qf
 | _ =>
  cases h' with
  | nilIface=>exact Z (some t) none "" l
  | iface ty hv =>
   dsimp only;by_cases e:ty=a
   ·rw[if_pos e,if_pos e];exact a6 hv
   ·rw[if_neg e,if_neg e];exact Z (some t) (some ty) "" l
  | _=>exact qf
def sizeB(Q:q8b)(t:q8u):Bool :=
 match Q.info? t with
 | some i=>i.size != 0
 | none=>true
theorem q4l{t:q8u}(h:sizeB Q t=true):SR Q P (λ_ a b=>b=a/\a≠0) (sizeOf t) ρ (sizeOf t):=by
 refine .bnd (vN hT t) λσ i i' l hi=>?_;obtain⟨rfl,hi⟩:=hi;refine qd ⟨rfl,?_⟩;unfold sizeB at h;rw[hi] at h;simpa using h
def q1h(Q:q8b)(s:q8u)(f:Nat):Bool :=
 match Q.underlying s with
 | some (.struct fs)=>match fs[f]? with | some f=>sizeB Q f.type | none=>true
 | _=>true
theorem q4p{s:q8u}{f:Nat}(hf:q1h Q s f=true){v v':q58}(h:VR ρ v v'):SR Q P VR (Instr.fieldAt s v f) ρ (Instr.fieldAt s v' f):=by
 refine .bnd (qL hT s) λσ d d' l hd=>?_;obtain⟨rfl,hd⟩:=hd;unfold q1h at hf;rw[hd] at hf;cases d' with
 | struct fs =>
  dsimp only at hf ⊢;cases hfs:fs[f]? with
  | none=>exact qf
  | some fd =>
   rw[hfs] at hf;dsimp only at hf ⊢;refine .bnd (yJ (h.mono l)) λτ a b l' hab=>?_;obtain⟨i,j,o,sp,rfl,rfl,hb⟩:=hab;show SR Q P VR (fieldPlace ⟨i,o,sp⟩ fd>>=λp=>pure (.pointer (some p))) τ (fieldPlace ⟨j,o,sp⟩ fd>>=λp=>pure (.pointer (some p)));refine .bnd (R:=AdR) ?_ λυ p q _ Z=>by obtain⟨i',j',o',s',rfl,rfl,hb'⟩:=Z;exact qd (.ptr _ _ hb')
   refine .bnd (q4l hT hf) λυ n n' lu hn=>?_;obtain⟨rfl,hn⟩:=hn;rw[if_neg hn,if_neg hn];obtain⟨o1,s1,e1,e2⟩:=yf i j o fd.offset sp;rw[e1,e2];exact qd ⟨_,_,_,_,rfl,rfl,hb.mono lu⟩
 | _=>exact qf
theorem q4o(hG:Gl P ρ)(t:q8u){v v' x x':q58}(h:VR ρ v v')(hx:VR ρ x x'):SR Q P VR (Instr.indexAt t v x) ρ (Instr.indexAt t v' x'):=by
 unfold Instr.indexAt;refine .bndE (vQ hx) λσ ki l=>?_;obtain⟨k,i⟩:=ki;dsimp only;refine .bndE (qB hT t) λτ d l'=>?_;have h':=h.mono (l.trans l');have a6:=hG.mono (l.trans l');have fin:∀(υ:Ren) (b b':Option qb9) (len:Nat) (e:q8u) (Z:Bool),Le τ υ->VR υ (.pointer b) (.pointer b') ->
   SR Q P VR (match b with
    | some a=>if 0<=i/\i<len then do pure (.pointer (some (a.add (i.toNat*(<- sizeOf e))))) else if Z then unsupported (.noEntry "op/indexAddr.an index out of range at an array of length 0 or 1 (ledger 616)") else qdG k i len .index
    | none=>qdG k i 0 .index) υ (match b' with
    | some a=>if 0<=i/\i<len then do pure (.pointer (some (a.add (i.toNat*(<- sizeOf e))))) else if Z then unsupported (.noEntry "op/indexAddr.an index out of range at an array of length 0 or 1 (ledger 616)") else qdG k i len .index
    | none=>qdG k i 0 .index):=by
  intro υ b b' len e Z lu hb;cases hb with
  | ptrNil=>exact jc hT (a6.mono lu) _ _ _ _
  | @ptr i1 j1 o s hb =>
   dsimp only;refine qC (λ_=>?_) λ_=>qC (λ_=>qq) λ_=>jc hT (a6.mono lu) _ _ _ _;refine .bndE (qO hT e) λω n l2=>?_;obtain⟨o1,s1,e1,e2⟩:=yf i1 j1 o (i.toNat*n) s;rw[e1,e2];exact qd (.ptr _ _ (hb.mono l2))
 have go:∀(υ:Ren) (b b':Option qb9) (len:Nat) (e:q8u),Le τ υ->VR υ (.pointer b) (.pointer b')->SR Q P VR (do
    let Z:=len<=1 && (match <- qdg t with | .array ..=>true | _=>false)
    match b with
    | some a=>if 0<=i/\i<len then do pure (.pointer (some (a.add (i.toNat*(<- sizeOf e))))) else if Z then unsupported (.noEntry "op/indexAddr.an index out of range at an array of length 0 or 1 (ledger 616)") else qdG k i len .index
    | none=>qdG k i 0 .index) υ (do
    let Z:=len<=1 && (match <- qdg t with | .array ..=>true | _=>false)
    match b' with
    | some a=>if 0<=i/\i<len then do pure (.pointer (some (a.add (i.toNat*(<- sizeOf e))))) else if Z then unsupported (.noEntry "op/indexAddr.an index out of range at an array of length 0 or 1 (ledger 616)") else qdG k i len .index
    | none=>qdG k i 0 .index):=λυ b b' len e lu hb =>
   .bndE (qB hT t) λω d l2=>fin ω b b' len e _ (lu.trans l2) (hb.mono l2)
 cases d with
 | array len e =>
  refine .bnd (yJ h') λυ a b lu hab=>?_;obtain⟨i1,j1,o,s,rfl,rfl,hb⟩:=hab;exact go υ _ _ len e lu (.ptr o s hb)
 | slice e =>
  cases h' with
  | sliceNil n c=>exact go τ none none n e (.refl _) .ptrNil
  | slice o s n c hb=>exact go τ _ _ n e (.refl _) (.ptr o s hb)
  | _=>exact zm
 | _=>exact zm
theorem yD(hG:Gl P ρ){x x':q58}(h:VR ρ x x')(y:Nat)(c:BoundsCode):SR Q P EqR (qdd x y c) ρ (qdd x' y c):=by
 refine .bndE (vQ h) λσ ki l=>?_;obtain⟨k,i⟩:=ki;exact qC (λ_=>qd rfl) λ_=>jc hT (hG.mono l) _ _ _ _
def Z0(ρ:Ren)(a b:Option q58):Prop:=(a=none/\b=none)\/∃x y,a=some x/\b=some y/\VR ρ x y
theorem j8(hG:Gl P ρ)(b:Bool)(len cap:Nat){lo lo' hi a7 mx Z:Option q58}(h1:Z0 ρ lo lo')(h2:Z0 ρ hi a7)(h3:Z0 ρ mx Z) :
  SR Q P EqR (Instr.sliceBounds b len cap lo hi mx) ρ (Instr.sliceBounds b len cap lo' a7 Z):=by
 have low:∀(σ:Ren) (m h:Nat) (c:BoundsCode),Le ρ σ->SR Q P EqR (do
   let l <- match lo with
    | some v=>qdd v h c
    | none=>pure 0
   pure (l,h,m)) σ (do
   let l <- match lo' with
    | some v=>qdd v h c
    | none=>pure 0
   pure (l,h,m)):=by
  intro σ m h c l;rcases h1 with⟨rfl,rfl⟩ | ⟨x,y,rfl,rfl,hv⟩
  ·exact qd rfl
  ·exact .bndE (yD hT (hG.mono l) (hv.mono l) _ _) λτ a _=>qd rfl
 have a6:∀(σ:Ren) (m:Nat) (c1 c2 c3:BoundsCode),Le ρ σ->SR Q P EqR (do
   let h <- match hi,mx with
    | some v,some _=>qdd v m c1
    | some v,none=>qdd v m c2
    | none,none=>pure len
    | none,some _=>stuck "Slice: max without high"
   let l <- match lo with
    | some v=>qdd v h c3
    | none=>pure 0
   pure (l,h,m)) σ (do
   let h <- match a7,Z with
    | some v,some _=>qdd v m c1
    | some v,none=>qdd v m c2
    | none,none=>pure len
    | none,some _=>stuck "Slice: max without high"
   let l <- match lo' with
    | some v=>qdd v h c3
    | none=>pure 0
   pure (l,h,m)):=by
  intro σ m c1 c2 c3 l;rcases h3 with⟨rfl,rfl⟩ | ⟨x,y,rfl,rfl,hv⟩
  ·rcases h2 with⟨rfl,rfl⟩ | ⟨x,y,rfl,rfl,hv⟩
   ·exact low σ _ _ _ l
   ·exact .bndE (yD hT (hG.mono l) (hv.mono l) _ _) λυ a l'=>low υ _ _ _ (l.trans l')
  ·rcases h2 with⟨rfl,rfl⟩ | ⟨x,y,rfl,rfl,hv⟩
   ·exact zm
   ·exact .bndE (yD hT (hG.mono l) (hv.mono l) _ _) λυ a l'=>low υ _ _ _ (l.trans l')
 have es:Z.isSome=mx.isSome:=by rcases h3 with⟨rfl,rfl⟩ | ⟨x,y,rfl,rfl,_⟩<;>rfl
 unfold Instr.sliceBounds;rw[es];rcases h3':mx with _ | x
 ·have e2:Z=none:=by rcases h3 with⟨_,rfl⟩ | ⟨x,y,rfl,rfl,_⟩<;>first | rfl | cases h3'
  subst h3';subst e2;exact a6 ρ cap _ _ _ (.refl ρ)
 ·obtain⟨y,e2,hv⟩:∃y,Z=some y/\VR ρ x y:=by
   rcases h3 with⟨rfl,_⟩ | ⟨x',y,rfl,e2,hv⟩
   ·cases h3'
   ·cases h3';exact⟨y,e2,hv⟩
  subst h3';subst e2;exact .bndE (yD hT hG hv _ _) λτ a l=>a6 τ a _ _ _ l
theorem q90(hG:Gl P ρ)(t:q8u){v v':q58}(h:VR ρ v v'){lo lo' hi a7 mx a6:Option q58}(h1:Z0 ρ lo lo')(h2:Z0 ρ hi a7)(h3:Z0 ρ mx a6) :
  SR Q P VR (Instr.slice t v lo hi mx) ρ (Instr.slice t v' lo' a7 a6):=by
 have Z:∀{σ:Ren} {a b:Option q58},Le ρ σ->Z0 ρ a b->Z0 σ a b:=λl h=>h.imp id λ⟨x,y,e1,e2,hv⟩=>⟨x,y,e1,e2,hv.mono l⟩
 refine .bndE (qB hT t) λσ d l=>?_;have h':=h.mono l;cases d with
 | string =>
  cases h' with
  | string s =>
   dsimp only;have e:a6.isSome=mx.isSome:=by rcases h3 with⟨rfl,rfl⟩ | ⟨x,y,rfl,rfl,_⟩<;>rfl
   rw[e];refine qC (λ_=>zm) λ_=>?_;exact .bndE (j8 hT (hG.mono l) false _ _ (Z l h1) (Z l h2) (.inl ⟨rfl,rfl⟩)) λτ r l'=>qd (.string _)
  | _=>exact qf
 | slice e =>
  cases h' with
  | sliceNil n c =>
   refine .bndE (j8 hT (hG.mono l) true _ _ (Z l h1) (Z l h2) (Z l h3)) λτ r l'=>?_;obtain⟨a,b,c'⟩:=r;refine .bndE (qO hT e) λυ z _=>?_;have e1:(if c'=a then(none:Option qb9) else Option.map (λ(x:qb9)=>x.add (a*z)) none)=none:=by split<;>rfl
   rw[e1];exact qd (.sliceNil _ _)
  | @slice i1 j1 o s n c hb =>
   refine .bndE (j8 hT (hG.mono l) true _ _ (Z l h1) (Z l h2) (Z l h3)) λτ r l'=>?_;obtain⟨a,b,c'⟩:=r;refine .bndE (qO hT e) λυ z l2=>?_;obtain⟨o1,s1,e1,e2⟩:=yf i1 j1 o (a*z) s;by_cases hc:c'=a
   ·rw[if_pos hc,if_pos hc]
    exact qd (.slice _ _ _ _ (hb.mono (l'.trans l2)))
   ·rw[if_neg hc,if_neg hc]
    simp only[qbt,e1,e2];exact qd (.slice _ _ _ _ (hb.mono (l'.trans l2)))
  | _=>exact qf
 | pointer arr =>
  refine .bnd (KM hT (hG.mono l) h') λτ a b l' hab=>?_;obtain⟨i1,j1,o,s,rfl,rfl,hb⟩:=hab;refine .bndE (qB hT arr) λυ d l2=>?_;cases d with
  | array n e =>
   dsimp only;have lu:=(l.trans l').trans l2;refine .bndE (j8 hT (hG.mono lu) false _ _ (Z lu h1) (Z lu h2) (Z lu h3)) λω r l3=>?_;obtain⟨a,b,c'⟩:=r;refine .bndE (qO hT e) λψ z l4=>?_;dsimp only;obtain⟨o1,s1,e1,e2⟩:=yf i1 j1 o (a*z) s;by_cases hc:c'=a
   ·rw[if_pos hc,if_pos hc]
    exact qd (.slice _ _ _ _ (hb.mono ((l2.trans l3).trans l4)))
   ·rw[if_neg hc,if_neg hc,e1,e2]
    exact qd (.slice _ _ _ _ (hb.mono ((l2.trans l3).trans l4)))
  | _=>exact qf
 | _=>exact qf
theorem q4k(hG:Gl P ρ)(t:q8u){v v':q58}(h:VR ρ v v'){lo lo' hi a7 mx a6:Option q58}(h1:Z0 ρ lo lo')(h2:Z0 ρ hi a7)(h3:Z0 ρ mx a6) :
  SR Q P VR (Instr.sliceAt t v lo hi mx) ρ (Instr.sliceAt t v' lo' a7 a6):=by
 have Z:∀{σ:Ren} {a b:Option q58},Le ρ σ->Z0 ρ a b->Z0 σ a b:=λl h=>h.imp id λ⟨x,y,e1,e2,hv⟩=>⟨x,y,e1,e2,hv.mono l⟩
 refine .bndE (qB hT t) λσ d l=>?_;have h':=h.mono l;have plain:SR Q P VR (Instr.slice t v lo hi mx) σ (Instr.slice t v' lo' a7 a6):=q90 hT (hG.mono l) t h' (Z l h1) (Z l h2) (Z l h3);cases d with
 | array n e =>
  refine .bnd (yJ h') λτ a b l' hab=>?_;obtain⟨i1,j1,o,s,rfl,rfl,hb⟩:=hab;have lu:=l.trans l';refine .bndE (j8 hT (hG.mono lu) false _ _ (Z lu h1) (Z lu h2) (Z lu h3)) λω r l3=>?_;obtain⟨a,b,c'⟩:=r;refine .bndE (qO hT e) λψ z l4=>?_;obtain⟨o1,s1,e1,e2⟩:=yf i1 j1 o (a*z) s;by_cases hc:c'=a
  ·rw[if_pos hc,if_pos hc]
   exact qd (.slice _ _ _ _ (hb.mono (l3.trans l4)))
  ·rw[if_neg hc,if_neg hc,e1,e2]
   exact qd (.slice _ _ _ _ (hb.mono (l3.trans l4)))
 | _=>exact plain
end
end Go.Sim
end
section
namespace Go.Sim
section
variable[JunkSet]{Q P:q8b}(hT:P.toTables=Q.toTables){ρ:Ren}{α β γ:Type}{R:Rel α β}
theorem JY{v v':q58}(h:VR ρ v v'):SR Q P EqR (Builtin.lenOf v) ρ (Builtin.lenOf v'):=by
 cases h<;>first | exact qd rfl | exact qf
theorem zB(size n:Nat){v v':q58}(h:VR ρ v v'):SR Q P AsR (Builtin.firstCells size n v) ρ (Builtin.firstCells size n v'):=by
 cases h with
 | sliceNil=>exact qd .nil
 | slice o s _ _ hb=>exact Z9 _ hb
 | string s =>
  refine qd ⟨rfl,λi x y hx hy=>?_⟩;rw[hx] at hy;cases hy;rw[Array.getElem?_map] at hx;cases hb:(s.extract 0 n).data[i]? with
  | none=>rw[hb] at hx;cases hx
  | some b=>rw[hb] at hx;cases hx;exact .int _ _
 | _=>exact qf
theorem AsR.getBang{a b:Array q58}(h:AsR ρ a b)(i:Nat):VR ρ a[i]! b[i]!:=by
 rw[Array.getElem!_eq_getD,Array.getElem!_eq_getD];exact h.getD i (.bool _)
theorem kX{n:Nat}{f g:Nat->q58}(h:∀i,VR ρ (f i) (g i)):AsR ρ ((Array.range n).map f) ((Array.range n).map g):=by
 refine⟨by simp,λi x y hx hy=>?_⟩;simp only[Array.getElem?_map] at hx hy;cases hr:(Array.range n)[i]? with
 | none=>rw[hr] at hx;cases hx
 | some k=>rw[hr] at hx hy;cases hx;cases hy;exact h k
theorem AsR.zeroCells{z z':Array q58}(h:AsR ρ z z')(n:Nat):AsR ρ (qck z n) (qck z' n):=by
 unfold qck;rw[<- h.1];exact kX λi=>h.getBang _
theorem QM(n:Nat):SR Q P (λ_ _ _=>True) (askRoom n) ρ (askRoom n):=by
 unfold askRoom;refine qC (λ_=>?_) λ_=>qd trivial;exact .inr ⟨rfl,_,rfl,(),rfl,trivial⟩
def NP(Q:q8b){α:Type}:Sem α->Prop
 | .pure _=>True
 | .load _ _ k=>∀v,NP Q (k v)
 | .store _ _ _ k=>NP Q k
 | .new o k=>zH o=false/\∀r,NP Q (k r)
 | .shape _ k=>∀x,NP Q (k x)
 | .freeze _ _ k=>NP Q k
 | .frozen _ k=>∀b,NP Q (k b)
 | .getObj _ k=>∀o,NP Q (k o)
 | .setObj _ o k=>zH o=false/\NP Q k
 | .choose _ k=>∀n,NP Q (k n)
 | .sys _ k=>∀r,NP Q (k r)
 | .program k=>NP Q (k Q)
 | .mark _ k=>NP Q k
 | .halt h=>odd h=false
theorem NP.bind{s:Sem α}{f:α->Sem γ}(h:NP Q s)(hf:∀a,NP Q (f a)):NP Q (s>>=f):=by
 show NP Q (s.bind f);induction s with
 | pure a=>exact hf a
 | load m a k ih=>exact λv=>ih v (h v)
 | store m a v k ih=>exact ih h
 | new o k ih=>exact⟨h.1,λv=>ih v (h.2 v)⟩
 | shape r k ih=>exact λv=>ih v (h v)
 | freeze a n k ih=>exact ih h
 | frozen a k ih=>exact λv=>ih v (h v)
 | getObj r k ih=>exact λv=>ih v (h v)
 | setObj r o k ih=>exact⟨h.1,ih h.2⟩
 | choose q k ih=>exact λv=>ih v (h v)
 | sys c k ih=>exact λv=>ih v (h v)
 | program k ih=>exact ih Q h
 | mark m k ih=>exact ih h
 | halt x=>exact h
theorem Bad.of_np{s:Sem α}{f:α->Sem γ}(h:NP Q s)(hf:∀a,Bad Q (f a)):Bad Q (s>>=f):=by
 show Bad Q (s.bind f);induction s with
 | pure a=>exact hf a
 | load m a k ih=>exact λv=>ih v (h v)
 | store m a v k ih=>exact ih h
 | new o k ih=>exact⟨h.1,λv=>ih v (h.2 v)⟩
 | shape r k ih=>exact λv=>ih v (h v)
 | freeze a n k ih=>exact ih h
 | frozen a k ih=>exact λv=>ih v (h v)
 | getObj r k ih=>exact λv=>ih v (h v)
 | setObj r o k ih=>exact⟨h.1,ih h.2⟩
 | choose q k ih=>exact λv=>ih v (h v)
 | sys c k ih=>exact λv=>ih v (h v)
 | program k ih=>exact ih Q h
 | mark m k ih=>exact ih h
 | halt x=>exact h
theorem np_holds(a:qb9)(c:Nat):NP Q (Builtin.holdsCells a c):=λx=>by
 cases x with
 | none=>trivial
 | some p=>trivial
theorem J7(size Z n:Nat)(base:Option qb9)(x:q58):NP Q (Builtin.mayShare size Z n base x):=by
 have rest:∀b:Bool,NP Q (if(!b)=true then(pure true:Sem Bool) else match x with
   | .slice (some b) _ _=>do pure (!(<- Builtin.holdsCells b (n*size)) || base.any (·.block == b.block))
   | _=>pure false):=λb=>by
  split
  ·trivial
  ·split
   ·exact NP.bind (np_holds _ _) λ_=>trivial
   ·trivial
 unfold Builtin.mayShare;cases base with
 | none=>exact rest true
 | some a=>exact NP.bind (np_holds _ _) λp=>NP.bind (s:=frozen _) (λb=>trivial) λq=>rest _
theorem q2m{v v':q58}(h:VR ρ v v'):(∃b b' n c,v=.slice b n c/\v'=.slice b' n c/\VR ρ (.pointer b) (.pointer b'))\/∀b n c,v≠.slice b n c:=by
 cases h with
 | sliceNil n c=>exact .inl ⟨none,none,n,c,rfl,rfl,.ptrNil⟩
 | slice o s n c hb=>exact .inl ⟨_,_,n,c,rfl,rfl,.ptr o s hb⟩
 | _=>exact .inr λb n c=>by simp
theorem VR.slice_of{b b':Option qb9}(hb:VR ρ (.pointer b) (.pointer b'))(n c:Nat):VR ρ (.slice b n c) (.slice b' n c):=by
 cases hb with
 | ptrNil=>exact .sliceNil n c
 | ptr o s hb=>exact .slice o s n c hb
def appB(Q:q8b)(ts:Array q8u):Bool :=
 (match ts[0]? with
  | some st=>match Q.underlying st with | some (.slice e)=>kL Q e | _=>true
  | none=>true) &&
 (match ts[1]? with
  | some xt=>match Q.underlying xt with | some (.int _)=>false | _=>true
  | none=>true)
include hT in
theorem q6H(hG:Gl P ρ){ts:Array q8u}{t:q8u}{a a':Array q58}(h:AsR ρ a a')(hB:appB Q ts=true) :
  SR Q P VR (Builtin.append_ ts t a) ρ (Builtin.append_ ts t a'):=by
 unfold appB at hB;simp only[q9b] at hB;obtain⟨a6,a8⟩:=hB;unfold Builtin.append_;cases ht0:ts[0]? with
 | none=>exact qf
 | some st =>
  rw[ht0] at a6;cases h0:a[0]? with
  | none=>exact qf
  | some s0 =>
   obtain⟨c9,e0,hs⟩:=h.get h0;cases h1:a[1]? with
   | none=>exact qf
   | some x =>
    obtain⟨x',e1,hx⟩:=h.get h1;rw[e0,e1];dsimp only;refine .bnd (qL hT st) λσ d d' l hd=>?_;obtain⟨rfl,hd⟩:=hd;dsimp only at a6;rw[hd] at a6;cases d' with
    | slice e =>
     dsimp only at a6 ⊢;rcases q2m (hs.mono l) with⟨b,b',Z,a9,rfl,rfl,hb⟩ | hns
     ·dsimp only
      refine .bndE (qO hT e) λτ size l1=>?_;cases ht1:ts[1]? with
      | none =>
       dsimp only;simp only[qa5,if_false,Bool.not_false,if_true,false_or,pure_bind];have LL:=l.trans l1;have LB:=l1;refine .bndE (JY (hx.mono LL)) λυ n lu=>?_;have L2:=LL.trans lu;have a7:=hb.mono (LB.trans lu);refine qC (λ_=>?_) λ_=>?_
       ·refine .bnd (zB size n (hx.mono L2)) λω c c' l2 hc=>?_
        have b7:=a7.mono l2;cases b7 with
        | ptrNil=>exact qd (.sliceNil _ _)
        | @ptr i j o s hbb =>
         dsimp only;obtain⟨o1,s1,e1,e2⟩:=yf i j o (Z*size) s;rw[e1,e2];exact .bnd (jz (zf.1 hc) 0 hbb) λψ _ _ l3 _=>qd (.slice _ _ _ _ (hbb.mono l3))
       ·refine .bndE (zl hT e) λω ti l2=>?_
        refine qC (λ_=>?_) λ_=>?_
        ·exact .bnd (R:=λ_ _ _=>False) (qx hT (hG.mono (L2.trans l2)) _) λ_ _ _ _ hf=>hf.elim
        ·refine .bndE (zl hT e) λω2 b9 l3=>?_
         refine qC (λ_=>?_) λ_=>?_
         ·exact .bad (Bad.bind (Bad.of_np (J7 _ _ _ _ _) λb=>by cases b<;>trivial) _)
         ·refine .bndE vz λω3 nc l4=>?_
          refine .bndE (zl hT e) λω4 b8 l5=>?_;refine .bnd (QM _) λω5 _ _ l6 _=>?_;have L6:=((((l2.trans l3).trans l4).trans l5).trans l6)
          refine .bnd (zB size Z ((a7.mono L6).slice_of Z a9)) λω6 c c' l7 hc=>?_;refine .bnd (zB size n (hx.mono ((L2.trans L6).trans l7))) λω7 d d' l8 b6=>?_;refine .bnd (zk hT a6) λω8 z z' l9 hz=>?_;refine .bnd (vw ((((hc.mono l8).append b6).mono l9).append (hz.cells.zeroCells _))) λω9 a b c3 hab=>?_;obtain⟨i,j,rfl,rfl,hij⟩:=hab;exact qd (.slice _ _ _ _ hij)
      | some xt =>
       rw[ht1] at a8;dsimp only at a8 ⊢;refine .bnd (qL hT xt) λυ dx c8 l2 b0=>?_;obtain⟨rfl,b0⟩:=b0;rw[b0] at a8;cases c8 with
       | int k=>cases a8
       | _ =>
        simp only[qa5,if_false,Bool.not_false,if_true,false_or,pure_bind];have LL:=(l.trans l1).trans l2;have LB:=l1.trans l2;refine .bndE (JY (hx.mono LL)) λυ n lu=>?_;have L2:=LL.trans lu;have a7:=hb.mono (LB.trans lu);refine qC (λ_=>?_) λ_=>?_
        ·refine .bnd (zB size n (hx.mono L2)) λω c c' l2 hc=>?_
         have b7:=a7.mono l2;cases b7 with
         | ptrNil=>exact qd (.sliceNil _ _)
         | @ptr i j o s hbb =>
          dsimp only;obtain⟨o1,s1,e1,e2⟩:=yf i j o (Z*size) s;rw[e1,e2];exact .bnd (jz (zf.1 hc) 0 hbb) λψ _ _ l3 _=>qd (.slice _ _ _ _ (hbb.mono l3))
        ·refine .bndE (zl hT e) λω ti l2=>?_
         refine qC (λ_=>?_) λ_=>?_
         ·exact .bnd (R:=λ_ _ _=>False) (qx hT (hG.mono (L2.trans l2)) _) λ_ _ _ _ hf=>hf.elim
         ·refine .bndE (zl hT e) λω2 b9 l3=>?_
          refine qC (λ_=>?_) λ_=>?_
          ·exact .bad (Bad.bind (Bad.of_np (J7 _ _ _ _ _) λb=>by cases b<;>trivial) _)
          ·refine .bndE vz λω3 nc l4=>?_
           refine .bndE (zl hT e) λω4 b8 l5=>?_;refine .bnd (QM _) λω5 _ _ l6 _=>?_;have L6:=((((l2.trans l3).trans l4).trans l5).trans l6)
           refine .bnd (zB size Z ((a7.mono L6).slice_of Z a9)) λω6 c c' l7 hc=>?_;refine .bnd (zB size n (hx.mono ((L2.trans L6).trans l7))) λω7 d d' l8 b6=>?_;refine .bnd (zk hT a6) λω8 z z' l9 hz=>?_;refine .bnd (vw ((((hc.mono l8).append b6).mono l9).append (hz.cells.zeroCells _))) λω9 a b c3 hab=>?_;obtain⟨i,j,rfl,rfl,hij⟩:=hab;exact qd (.slice _ _ _ _ hij)
     ·split
      ·exact absurd rfl (hns _ _ _)
      ·exact qf
    | _=>exact qf
end
end Go.Sim
end
section
namespace Go.Sim
def lenB(Q:q8b)(ts:Array q8u):Bool:=match ts[0]? with | some t=>(match Q.underlying t with | some (.chan _ _)=>false | _=>true) | none=>true
section
variable[JunkSet]{Q P:q8b}(hT:P.toTables=Q.toTables){ρ:Ren}{α β γ:Type}{R:Rel α β}
include hT
theorem sr_copy{ts:Array q8u}{t:q8u}{a a':Array q58}(h:AsR ρ a a'):SR Q P VR (Builtin.copy_ ts t a) ρ (Builtin.copy_ ts t a'):=by
 unfold Builtin.copy_;cases ht0:ts[0]? with
 | none=>exact qf
 | some dt =>
  cases h0:a[0]? with
  | none=>exact qf
  | some d =>
   obtain⟨d',e0,hd⟩:=h.get h0;cases h1:a[1]? with
   | none=>exact qf
   | some x =>
    obtain⟨x',e1,hx⟩:=h.get h1;rw[e0,e1];dsimp only;refine .bndE (qB hT dt) λσ u l=>?_;cases u with
    | slice e =>
     dsimp only;rcases q2m (hd.mono l) with⟨b,b',a6,a7,rfl,rfl,hb⟩ | hns
     ·dsimp only
      refine .bndE (JY (hx.mono l)) λτ n l1=>.bndE (qO hT e) λυ size l2=>?_;refine .bnd (zB size _ (hx.mono ((l.trans l1).trans l2))) λω c c' l3 hc=>?_;have Z:=hb.mono ((l1.trans l2).trans l3);cases Z with
      | ptrNil=>exact qd (.int _ _)
      | ptr o s hbb=>exact .bnd (jz (zf.1 hc) 0 hbb) λψ _ _ l3 _=>qd (.int _ _)
     ·split
      ·exact absurd rfl (hns _ _ _)
      ·exact qf
    | _=>exact qf
theorem sr_len{ts:Array q8u}{t:q8u}{a a':Array q58}(hB:lenB Q ts=true)(h:AsR ρ a a'):SR Q P VR (Builtin.len_ ts t a) ρ (Builtin.len_ ts t a'):=by
 unfold Builtin.len_;cases ht0:ts[0]? with
 | none=>exact qf
 | some dt =>
  cases h0:a[0]? with
  | none=>exact qf
  | some d =>
   obtain⟨d',e0,hd⟩:=h.get h0;rw[e0];dsimp only;refine .bnd (qL hT dt) λσ u u' l hu=>?_;obtain⟨rfl,hu⟩:=hu;have Z:=hd.mono l;cases u' with
   | array n e=>exact qd (.int _ _)
   | pointer arr =>
    refine .bndE (qB hT arr) λτ u l=>?_;cases u with
    | array n e=>exact qd (.int _ _)
    | _=>exact qf
   | string=>cases Z<;>first | exact qf | exact qd (.int _ _)
   | slice e=>cases Z<;>first | exact qf | exact qd (.int _ _)
   | map k e =>
    cases Z with
    | mapNil=>exact qd (.int _ _)
    | map hb =>
     refine .bnd (jI hb) λτ o o' l' ho=>?_;cases ho with
     | @map es es' c he =>
      dsimp only;have:es.size=es'.size:=he.length;rw[this];exact qd (.int _ _)
     | _=>exact qf
    | _=>exact qf
   | chan a b =>
    unfold lenB at hB;rw[ht0] at hB;dsimp only at hB;rw[hu] at hB;cases hB
   | _=>exact qf
theorem sr_cap{ts:Array q8u}{t:q8u}{a a':Array q58}(hB:lenB Q ts=true)(h:AsR ρ a a'):SR Q P VR (Builtin.cap_ ts t a) ρ (Builtin.cap_ ts t a'):=by
 unfold Builtin.cap_;cases ht0:ts[0]? with
 | none=>exact qf
 | some dt =>
  cases h0:a[0]? with
  | none=>exact qf
  | some d =>
   obtain⟨d',e0,hd⟩:=h.get h0;rw[e0];dsimp only;refine .bnd (qL hT dt) λσ u u' l hu=>?_;obtain⟨rfl,hu⟩:=hu;have Z:=hd.mono l;cases u' with
   | array n e=>exact qd (.int _ _)
   | pointer arr =>
    refine .bndE (qB hT arr) λτ u l=>?_;cases u with
    | array n e=>exact qd (.int _ _)
    | _=>exact qf
   | slice e=>cases Z<;>first | exact qf | exact qd (.int _ _)
   | chan a b =>
    unfold lenB at hB;rw[ht0] at hB;dsimp only at hB;rw[hu] at hB;cases hB
   | _=>exact qf
omit hT in
theorem sr_min2{v v' x x':q58}(h:VR ρ v v')(hx:VR ρ x x'):SR Q P VR (Builtin.min2 v x) ρ (Builtin.min2 v' x'):=by
 cases h with
 | int k n=>cases hx<;>first | exact qd (.int _ _) | exact qf | exact qq
 | string s =>
  cases hx with
  | string u=>exact(qd (VR.string _):SR Q P VR (pure (Value.string _)) ρ (pure (Value.string _)))
  | _=>first | exact qf | exact qq
 | ptr o s hb=>exact qq
 | _=>cases hx<;>first | exact qf | exact qq
omit hT in
theorem sr_max2{v v' x x':q58}(h:VR ρ v v')(hx:VR ρ x x'):SR Q P VR (Builtin.max2 v x) ρ (Builtin.max2 v' x'):=by
 cases h with
 | int k n=>cases hx<;>first | exact qd (.int _ _) | exact qf | exact qq
 | string s =>
  cases hx with
  | string u=>exact(qd (VR.string _):SR Q P VR (pure (Value.string _)) ρ (pure (Value.string _)))
  | _=>first | exact qf | exact qq
 | ptr o s hb=>exact qq
 | _=>cases hx<;>first | exact qf | exact qq
omit hT in
theorem q2k{f f':q58->q58->Sem q58}(hf:∀{σ:Ren} {v v' x x':q58},VR σ v v'->VR σ x x'->SR Q P VR (f v x) σ (f' v' x')):∀{l l':List q58} {ρ:Ren} {v v':q58},LsR (VR ρ) l l'->VR ρ v v' ->
  SR Q P VR (l.foldlM f v) ρ (l'.foldlM f' v'):=by
 intro l;induction l with
 | nil=>intro l' ρ v v' h hv;cases h;exact qd hv
 | cons a l ih =>
  intro l' ρ v v' h hv;cases h with
  | cons ha hl =>
   rw[List.foldlM_cons,List.foldlM_cons];exact .bnd (hf hv ha) λσ x x' lσ hx=>ih (hl.imp λ_ _ k=>k.mono lσ) hx
omit hT in
theorem sr_min{ts:Array q8u}{t:q8u}{a a':Array q58}(h:AsR ρ a a'):SR Q P VR (Builtin.min_ ts t a) ρ (Builtin.min_ ts t a'):=by
 have hl:=zf.1 h;unfold Builtin.min_;generalize a.toList=l at hl ⊢;generalize a'.toList=l' at hl ⊢;cases hl with
 | nil=>exact qf
 | cons hx hr=>exact q2k (λh hx=>sr_min2 h hx) hr hx
omit hT in
theorem sr_max{ts:Array q8u}{t:q8u}{a a':Array q58}(h:AsR ρ a a'):SR Q P VR (Builtin.max_ ts t a) ρ (Builtin.max_ ts t a'):=by
 have hl:=zf.1 h;unfold Builtin.max_;generalize a.toList=l at hl ⊢;generalize a'.toList=l' at hl ⊢;cases hl with
 | nil=>exact qf
 | cons hx hr=>exact q2k (λh hx=>sr_max2 h hx) hr hx
def Q0(Q:q8b)(t:q8u):Bool:=match Q.underlying t with | some (.slice e)=>kL Q e | _=>true
theorem q95{ts:Array q8u}{t:q8u}{a a':Array q58}(h:AsR ρ a a')(hB:(match ts[0]? with | some st=>Q0 Q st | none=>true)=true):SR Q P VR (Builtin.clear_ ts t a) ρ (Builtin.clear_ ts t a'):=by
 unfold Builtin.clear_;cases ht0:ts[0]? with
 | none=>exact qf
 | some dt =>
  rw[ht0] at hB;cases h0:a[0]? with
  | none=>exact qf
  | some d =>
   obtain⟨d',e0,hd⟩:=h.get h0;rw[e0];dsimp only at hB ⊢;refine .bnd (qL hT dt) λσ u u' l hu=>?_;obtain⟨rfl,hu⟩:=hu;unfold Q0 at hB;rw[hu] at hB;have Z:=hd.mono l;have fin:∀υ,SR Q P VR (pure (.tuple #[]):Sem q58) υ (pure (.tuple #[])):=λυ=>qd (AsR.tuple .nil);cases Z with
   | mapNil=>cases u'<;>exact fin _
   | sliceNil n c=>cases u'<;>exact fin _
   | @map i j hb =>
    have go:SR Q P VR (do
      let .map _ clock <- getObj i | stuck "clear: map expected"
      setObj i (.map #[] clock)
      pure (.tuple #[])) σ (do
      let .map _ clock <- getObj j | stuck "clear: map expected"
      setObj j (.map #[] clock)
      pure (.tuple #[])):=by
     refine .bnd (jI hb) λτ o o' l' ho=>?_;cases ho with
     | map c he=>exact .bnd (jH (hb.mono l') (.map c .nil)) λυ _ _ _ _=>fin υ
     | _=>exact qf
    cases u'<;>exact go
   | slice o s n c hb =>
    cases n with
    | zero=>cases u'<;>exact fin _
    | succ n =>
     cases u' with
     | slice e =>
      refine .bnd (zk hT hB) λτ z z' l' hz=>?_;exact .bnd (jz (zf.1 (hz.cells.zeroCells _)) 0 (hb.mono l')) λυ _ _ _ _=>fin υ
     | _=>exact qf
   | _=>cases u'<;>exact qf
theorem q0G(hG:Gl P ρ){t:q8u}(hB:Q0 Q t=true){v v' x x':q58}(h:VR ρ v v')(hx:VR ρ x x'):SR Q P VR (Instr.makeSlice t v x) ρ (Instr.makeSlice t v' x'):=by
 refine .bnd (qL hT t) λσ d d' l hd=>?_;obtain⟨rfl,hd⟩:=hd;unfold Q0 at hB;rw[hd] at hB;cases d' with
 | slice e =>
  dsimp only at hB ⊢;refine .bndE (Zb (h.mono l)) λτ len l1=>.bndE (Zb (hx.mono (l.trans l1))) λυ cap l2=>?_;refine .bndE (zl hT e) λω ti l3=>?_;have L:=((l.trans l1).trans l2).trans l3;have HG:=hG.mono L;have Z:∀(σ:Ren) (m:String) {f f':PUnit->Sem q58},Le ω σ->SR Q P VR ((qdo (.error m):Sem PUnit)>>=f) σ ((qdo (.error m):Sem PUnit)>>=f'):=λσ m f f' lσ=>.bnd (R:=λ_ _ _=>False) (qx hT (HG.mono lσ) _) λ_ _ _ _ hf=>hf.elim;have a6:∀(σ:Ren) (n:Nat) {z z':Array q58} (ln cp:Nat),AsR σ z z'->SR Q P VR (do
    let a <- newRow e ((Array.range n).map λx=>z[x % z.size]!)
    pure (.slice (some a) ln cp)) σ (do
    let a <- newRow e ((Array.range n).map λx=>z'[x % z'.size]!)
    pure (.slice (some a) ln cp)):=λσ n z z' ln cp hz=>by
   refine .bnd (vw (by rw[<- hz.1];exact kX λi=>hz.getBang _)) λω9 a b a7 hab=>?_;obtain⟨i,j,rfl,rfl,hij⟩:=hab;exact qd (.slice _ _ _ _ hij)
  refine qC (λ_=>?_) λ_=>?_
  ·refine qC (λ_=>Z ω _ (.refl ω)) λ_=>qC (λ_=>Z ω _ (.refl ω)) λ_=>?_
   exact .bndE vz λω1 n l4=>Z ω1 _ l4
  ·refine .bnd (QM _) λω1 _ _ l4 _=>.bndE (qO hT e) λω2 size l5=>?_
   refine qC (λ_=>a6 ω2 _ _ _ .nil) λ_=>?_;exact .bnd (zk hT hB) λω4 z z' _ hz=>a6 ω4 _ _ _ hz.cells
 | _=>exact qf
theorem Kd{t:q8u}(hB:Q0 Q t=true)(n:Nat){ps Z:Array (Nat × q58)}(h:LsR (q0t ρ) ps.toList Z.toList):SR Q P VR (Instr.buildSlice t n ps) ρ (Instr.buildSlice t n Z):=by
 refine .bnd (qL hT t) λσ d d' l hd=>?_;obtain⟨rfl,hd⟩:=hd;unfold Q0 at hB;rw[hd] at hB;cases d' with
 | slice e =>
  dsimp only at hB ⊢;refine .bndE (qO hT e) λτ size l1=>?_;refine qC (λ_=>zY) λ_=>?_;have fin:∀(υ:Ren) {z z':Array q58},Le τ υ->AsR υ z z'->SR Q P VR (do
    let some cells:=qel (λi=>some (i*size,size)) ((Array.range (n*size)).map (λx=>z[x % z.size]!)) ps.toList | stuck "buildSlice: a part of the wrong size"
    pure (.slice (some (<- newRow e cells)) n n)) υ (do
    let some cells:=qel (λi=>some (i*size,size)) ((Array.range (n*size)).map (λx=>z'[x % z'.size]!)) Z.toList | stuck "buildSlice: a part of the wrong size"
    pure (.slice (some (<- newRow e cells)) n n)):=by
   intro υ z z' lu hz;have hp:LsR (q0t υ) ps.toList Z.toList:=h.imp λ_ _ x=>⟨x.1,x.2.mono ((l.trans l1).trans lu)⟩
   have hc:AsR υ ((Array.range (n*size)).map (λx=>z[x % z.size]!)) ((Array.range (n*size)).map (λx=>z'[x % z'.size]!)):=by rw[<- hz.1];exact kX λi=>hz.getBang _
   rcases q3p (λi=>some (i*size,size)) _ _ _ _ hp hc with⟨e1,e2⟩ | ⟨r,r',e1,e2,hr⟩
   ·rw[e1,e2];exact qf
   ·rw[e1,e2]
    refine .bnd (vw hr) λω a b _ hab=>?_;obtain⟨i,j,rfl,rfl,hij⟩:=hab;exact qd (.slice _ _ _ _ hij)
  refine qC (λ_=>fin τ (.refl τ) .nil) λ_=>?_;exact .bnd (zk hT hB) λυ z z' lu hz=>fin υ lu hz.cells
 | _=>exact qf
theorem q4n(t:q8u){r r':Option q58}(h:Z0 ρ r r'):SR Q P VR (Instr.makeMap t r) ρ (Instr.makeMap t r'):=by
 have fin:∀σ,SR Q P VR (do pure (.map (some (<- newObj (.map #[] 0))))) σ (do pure (.map (some (<- newObj (.map #[] 0))))):=λσ=>.bnd (JW (.map 0 .nil)) λτ i j _ hij=>qd (.map hij);unfold Instr.makeMap;rcases h with⟨rfl,rfl⟩ | ⟨x,y,rfl,rfl,hv⟩
 ·exact fin ρ
 ·refine .bndE (qB hT t) λσ d l=>?_
  cases d with
  | map k e=>exact .bndE (Zb (hv.mono l)) λτ n _=>fin τ
  | _=>exact qf
theorem J2(em:Bool):∀(n d:Nat) {ρ:Ren} {t:q8u} {x x':q58},eqB Q n t=true->VR ρ x x'->SR Q P (λ_ _ _=>True) (qdx em d t x) ρ (qdx em d t x'):=by
 intro n;induction n with
 | zero=>intro d ρ t x x' h;cases h
 | succ n ih =>
  intro d ρ t x x' h hx;cases d with
  | zero=>exact qq
  | succ d =>
   unfold qdx;refine .bnd (qL hT t) λσ ty a6 l Z=>?_;obtain⟨rfl,Z⟩:=Z;replace hx:=hx.mono l;unfold eqB at h;rw[Z] at h;cases a6 with
   | interface ms=>cases h
   | struct fs =>
    cases hx with
    | agg h1 h2 =>
     dsimp only;rw[<- qe1,<- qe1];dsimp only at h;rw[qbu] at h;refine .bndE (zF (K:=λω=>Le σ ω) (λ_ _ l k=>k.trans l) _ (λf hf υ b lu=>?_) σ _ (.refl σ)) λυ r lu=>qd trivial;refine qC (λhne=>?_) λ_=>qd rfl;have a7:eqB Q n f.type=true:=by
      have:=h f (qcs.1 hf);simp only[qcy,beq_iff_eq] at this;exact this.resolve_left hne
     exact .bnd (jB hT (AsR.mono lu ⟨h1,h2⟩) _) λω1 p p' l1 hp=>.bnd (ih d a7 hp) λω3 _ _ _ _=>qd rfl
    | _=>exact qf
   | array len e =>
    cases hx with
    | agg h1 h2 =>
     dsimp only;rw[qc8,qc8];refine .bndE (zF (K:=λω=>Le σ ω) (λ_ _ l k=>k.trans l) _ (λf hf υ b lu=>?_) σ _ (.refl σ)) λυ r lu=>qd trivial;exact .bndE (qO hT e) λω0 n l0=>.bnd (jB hT (AsR.mono (lu.trans l0) ⟨h1,h2⟩) _) λω1 p p' l1 hp=>.bnd (ih d h hp) λω3 _ _ _ _=>qd rfl
    | _=>exact qf
   | _=>cases hx<;>exact qd trivial
def q1B(ρ:Ren)(a b:Option (Nat × q58)):Prop:=(a=none/\b=none)\/∃i x y,a=some (i,x)/\b=some (i,y)/\VR ρ x y
omit hT in
theorem q4B(d:TypeDesc){x x' y y':q58}(hx:VR ρ x x')(hy:VR ρ y y'):Instr.sameNow d x' y'=Instr.sameNow d x y:=by
 have out:∀{u:q58},exotic u=true->∀d v,Instr.sameNow d u v=none/\Instr.sameNow d v u=none:=by
  intro u hu d v;cases u<;>first | (cases hu;done) | (cases d<;>cases v<;>exact⟨rfl,rfl⟩)
 cases hx with
 | wild _ h=>rw[(out h d _).1,(out (u:=.chan none) rfl d _).1]
 | _=>first
  | (cases d<;>rfl)
  | (
    cases hy with
   | wild _ h=>rw[(out h d _).2,(out (u:=.chan none) rfl d _).2]
   | _=>cases d<;>rfl)
omit hT in
theorem q3n(d:TypeDesc){k k':q58}(hk:VR ρ k k'):∀{es es':List qdm} (i:Nat),LsR (yZ ρ) es es' ->
  (Instr.findNow d k es i=none/\Instr.findNow d k' es' i=none)\/∃r r',Instr.findNow d k es i=some r/\Instr.findNow d k' es' i=some r'/\q1B ρ r r':=by
 intro es;induction es with
 | nil=>intro es' i h;cases h;exact .inr ⟨none,none,rfl,rfl,.inl ⟨rfl,rfl⟩⟩
 | cons e es ih =>
  intro es' i h;cases h with
  | cons he hes =>
   simp only[Instr.findNow,q4B d hk he.key];cases Instr.sameNow d k e.key with
   | none=>exact .inl ⟨rfl,rfl⟩
   | some b =>
    cases b with
    | true=>exact .inr ⟨_,_,rfl,rfl,.inr ⟨i,_,_,rfl,rfl,he.val⟩⟩
    | false=>exact ih (i+1) hes
theorem Kb{t:q8u}(ht:eqB Q 6 t=true){k k':q58}:∀{es es':List qdm} {ρ:Ren} (i:Nat),VR ρ k k'->Gl P ρ->LsR (yZ ρ) es es' ->
  SR Q P q1B (Instr.findAsking t k es i) ρ (Instr.findAsking t k' es' i):=by
 intro es;induction es with
 | nil=>intro es' ρ i hk hG h;cases h;exact qd (.inl ⟨rfl,rfl⟩)
 | cons e es ih =>
  intro es' ρ i hk hG h;cases h with
  | cons he hes =>
   refine .bndE (QL hT 6 _ ht hk he.key hG) λσ b l=>?_;refine qC (λ_=>qd (.inr ⟨i,_,_,rfl,rfl,he.val.mono l⟩)) λ_=>?_;exact ih (i+1) (hk.mono l) (hG.mono l) (hes.imp λ_ _ x=>x.mono l)
theorem Y0{t:q8u}(ht:eqB Q 6 t=true){k k':q58}{es es':List qdm}(hk:VR ρ k k')(hG:Gl P ρ)(h:LsR (yZ ρ) es es') :
  SR Q P q1B (Instr.findKey t k es) ρ (Instr.findKey t k' es'):=by
 refine .bndE (qB hT t) λσ d l=>?_;have h':LsR (yZ σ) es es':=h.imp λ_ _ x=>x.mono l;rcases q3n d (hk.mono l) 0 h' with⟨e1,e2⟩ | ⟨r,r',e1,e2,hr⟩
 ·rw[e1,e2];exact Kb hT ht 0 (hk.mono l) (hG.mono l) h'
 ·rw[e1,e2];exact qd hr
end
end Go.Sim
end
section
namespace Go.Sim
section
variable[JunkSet]{Q P:q8b}(hT:P.toTables=Q.toTables){ρ:Ren}{α β γ:Type}{R:Rel α β}
include hT
def Yr(Q:q8b)(t:q8u):Bool:=match Q.underlying t with | some (.map k e)=>eqB Q 6 k && kL Q e | _=>true
theorem q6E(hG:Gl P ρ){t:q8u}(hB:Yr Q t=true)(c:Bool){m m' k k':q58}(hm:VR ρ m m')(hk:VR ρ k k'):SR Q P VR (Instr.lookup t m k c) ρ (Instr.lookup t m' k' c):=by
 refine .bnd (qL hT t) λσ d d' l hd=>?_;obtain⟨rfl,hd⟩:=hd;unfold Yr at hB;rw[hd] at hB;cases d' with
 | map kt et =>
  dsimp only at hB ⊢;simp only[q9b] at hB;have fin:∀(τ:Ren) {es es':Array qdm},Le ρ τ->LsR (yZ τ) es.toList es'.toList->SR Q P VR (do
    qdx es.isEmpty 10000 kt k
    let (v,ok) <- match <- Instr.findKey kt k es.toList with
     | some (_,v)=>pure (v,true)
     | none=>pure (<- zeroValue et,false)
    pure (if c then .tuple #[v,.bool ok] else v)) τ (do
    qdx es'.isEmpty 10000 kt k'
    let (v,ok) <- match <- Instr.findKey kt k' es'.toList with
     | some (_,v)=>pure (v,true)
     | none=>pure (<- zeroValue et,false)
    pure (if c then .tuple #[v,.bool ok] else v)):=by
   intro τ es es' lτ he;have Z:es'.isEmpty=es.isEmpty:=by
    have:=he.length;simp only[Array.length_toList] at this;simp[Array.isEmpty,this]
   rw[Z];refine .bnd (J2 hT _ 6 _ hB.1 (hk.mono lτ)) λυ _ _ l1 _=>?_;refine .bnd (Y0 hT hB.1 (hk.mono (lτ.trans l1)) (hG.mono (lτ.trans l1)) (he.imp λ_ _ x=>x.mono l1)) λω r r' l2 hr=>?_;have last:∀(ψ:Ren) {v v':q58} (ok:Bool),VR ψ v v'->SR Q P VR (pure (if c then .tuple #[v,.bool ok] else v):Sem q58) ψ (pure (if c then .tuple #[v',.bool ok] else v')):=by
    intro ψ v v' ok hv;cases c with
    | true=>exact qd (AsR.tuple (zf.2 (.cons hv (.cons (.bool _) .nil))))
    | false=>exact qd hv
   rcases hr with⟨rfl,rfl⟩ | ⟨i,x,y,rfl,rfl,hv⟩
   ·exact .bnd (zk hT hB.2) λψ z z' _ hz=>last ψ false hz
   ·exact last ω true hv
  cases(hm.mono l) with
  | mapNil=>exact fin σ l .nil
  | map hb =>
   refine .bnd (jI hb) λτ o o' l' ho=>?_;cases ho with
   | map c he=>exact fin τ (l.trans l') he
   | _=>exact zm
  | _=>exact zm
 | _=>exact qf
omit hT in
theorem LsR.get{α β:Type}{R:α->β->Prop}{l:List α}{m:List β}(h:LsR R l m)(i:Nat):(l[i]?=none/\m[i]?=none)\/∃x y,l[i]?=some x/\m[i]?=some y/\R x y:=by
 induction h generalizing i with
 | nil=>exact .inl ⟨by simp,by simp⟩
 | cons hx hl ih =>
  cases i with
  | zero=>exact .inr ⟨_,_,rfl,rfl,hx⟩
  | succ i=>simpa using ih i
omit hT in
theorem q3v{es es':Array qdm}(h:LsR (yZ ρ) es.toList es'.toList)(i:Nat){f g:qdm->qdm}(hf:∀e e',yZ ρ e e'->yZ ρ (f e) (g e')):LsR (yZ ρ) (es.modify i f).toList (es'.modify i g).toList:=by
 rw[q6c] at h ⊢;simp only[Array.length_toList,Array.getElem?_toList] at h ⊢;refine⟨by simpa using h.1,λj x y hx hy=>?_⟩;rw[Array.getElem?_modify] at hx hy;by_cases e:i=j
 ·rw[if_pos e] at hx hy
  cases hx':es[j]? with
  | none=>rw[hx'] at hx;cases hx
  | some a =>
   cases hy':es'[j]? with
   | none=>rw[hy'] at hy;cases hy
   | some b =>
    rw[hx'] at hx;rw[hy'] at hy;cases hx;cases hy;exact hf _ _ (h.2 j a b hx' hy')
 ·rw[if_neg e] at hx hy
  exact h.2 j x y hx hy
def q6n(Q:q8b)(s d:q8u):Bool:=match Q.underlying s,Q.underlying d with | some (.int _),some (.int _)=>true | _,_=>false
theorem q4r{s d:q8u}(hB:q6n Q s d=true){v v':q58}(h:VR ρ v v'):SR Q P VR (convert s d v) ρ (convert s d v'):=by
 refine .bnd (qL hT s) λσ a a' l ha=>.bnd (qL hT d) λτ b b' l' hb=>?_;obtain⟨rfl,ha⟩:=ha;obtain⟨rfl,hb⟩:=hb;unfold q6n at hB;rw[ha,hb] at hB;cases a' with
 | int k1 =>
  cases b' with
  | int k2 =>
   cases h with
   | int k n=>exact qd (.int _ _)
   | _=>first | exact qq | exact qf
  | _=>cases hB
 | _=>cases b'<;>cases hB
end
end Go.Sim
end
section
namespace Go.Sim
inductive zM [JunkSet] (ρ:Ren):qe4->qe4->Prop
 | value {v v':q58}:VR ρ v v'->zM ρ (.value v) (.value v')
 | skip:zM ρ .skip .skip
 | enter {f:qbe} {a a':Array q58}:JunkSet.okf f->AsR ρ a a'->zM ρ (.enter f a) (.enter f a')
 | round {l l':Nat} (f:qbe) {t t':Array q58} {a b:qcm}:BR ρ l l'->AsR ρ t t'->JunkSet.okg f->JunkSet.okc a->JunkSet.okc b->zM ρ (.round l f t a b) (.round l' f t' a b)
 | defer {d d':qc3}:yO ρ d d'->zM ρ (.defer d) (.defer d')
 | recover:zM ρ .recover .recover
def biB(Q:q8b)(b:Builtin)(ts:Array q8u):Bool :=
 match b with
 | .append=>appB Q ts
 | .len | .cap=>lenB Q ts
 | .copy | .min | .max | .recover | .panic=>true
 | .clear=>match ts[0]? with | some st=>Q0 Q st | none=>true
 | _=>false
structure Pair[JunkSet](Q P:q8b):Prop where
 bis:∀b ts,JunkSet.okb b ts->biB Q b ts=true
 tables:P.toTables=Q.toTables
 funcs:∀f,JunkSet.okf f->∃fq fp,Q.funcs[f]?=some fq/\P.funcs[f]?=some fp/\fq.body.isNone=false/\fp.body.isNone=false/\(fq.name == "runtime.NumGoroutine")=false/\(fp.name == "runtime.NumGoroutine")=false
 meths:∀n,JunkSet.okm n->∀t i m,Q.info? t=some i->i.methods.find? (·.name == n)=some m->m.path=#[]/\∃f b,m.func=some (f,b)/\JunkSet.okf f/\∀e,Q.underlying t=some (.pointer e)->b=true
 nometh:∀i,Q.info? 0=some i->(i.methods.find? (·.name == "")).isNone=true
section
variable[JunkSet]{Q P:q8b}(H:Pair Q P){ρ:Ren}{α β γ:Type}{R:Rel α β}
theorem yp{l l':Nat}(h:BR ρ l l'):SR Q P QD (Instr.getLoop l) ρ (Instr.getLoop l') :=
 .bnd (jI h) λσ o o' _ ho=>by
  cases ho with
  | loop h=>exact qd h
  | _=>exact qf
theorem Kl:∀{ps:List (Tmp × q58)} {Z:List (Tmp × q58)} {t t':Array q58},LsR (λa b=>b.1=a.1/\VR ρ a.2 b.2) ps Z->AsR ρ t t' ->
  AsR ρ (ps.foldl (λtmps (x:Tmp × q58)=>tmps.setIfInBounds x.1 x.2) t) (Z.foldl (λtmps (x:Tmp × q58)=>tmps.setIfInBounds x.1 x.2) t'):=by
 intro ps;induction ps with
 | nil=>intro Z t t' h ht;cases h;exact ht
 | cons p ps ih =>
  intro Z t t' h ht;cases h with
  | @cons _ q _ qs hp hps =>
   obtain⟨a,x⟩:=p;obtain⟨b,y⟩:=q;obtain⟨rfl,hv⟩:=hp;simp only[List.foldl_cons];exact ih hps (ht.set _ hv)
theorem zip_rel{ps:List Tmp}:∀{a a':List q58},LsR (VR ρ) a a'->LsR (λ(a b:Tmp × q58)=>b.1=a.1/\VR ρ a.2 b.2) (ps.zip a) (ps.zip a'):=by
 induction ps with
 | nil=>intro a a' h;exact .nil
 | cons p ps ih =>
  intro a a' h;cases h with
  | nil=>exact .nil
  | cons hx hl=>exact .cons ⟨rfl,hx⟩ (ih hl)
theorem q8E{l l':Nat}(h:BR ρ l l'){a a':Array q58}(ha:AsR ρ a a'):SR Q P zM (Instr.yield l a) ρ (Instr.yield l' a'):=by
 refine .bnd (yp h) λσ r r' lσ hr=>?_;dsimp only;rw[hr.params,<- ha.1,hr.fn,hr.assign,hr.body];refine qC (λ_=>zm) λ_=>q2g ?_;refine qd (.round _ (h.mono lσ) ?_ hr.okF hr.okA hr.okB);rw[<- qev,<- qev,Array.toList_zip,Array.toList_zip];exact Kl (zip_rel (zf.1 (ha.mono lσ))) hr.tmps
include H
theorem J3{f:qbe}(hf:JunkSet.okf f){a a':Array q58}(ha:AsR ρ a a'):SR Q P zM (callFunc f a) ρ (callFunc f a'):=by
 obtain⟨fq,fp,h1,h2,h3,h4,h5,h6⟩:=H.funcs f hf;refine zD ?_;rw[h1,h2];dsimp only;rw[h5,h6,h3,h4];exact qd (.enter hf ha)
theorem q6D(n:String)(hn:JunkSet.okm n)(a6 Z:Nat)(hff:(a6=0↔Z=0)){t:q8u}{v v':q58}(h:VR ρ v v') :
  SR Q P (λσ a b=>b.1=a.1/\JunkSet.okf a.1/\VR σ a.2 b.2) (method a6 t v n) ρ (method Z t v' n):=by
 cases a6 with
 | zero=>exact qq
 | succ k =>
  cases Z with
  | zero=>omega
  | succ k' =>
   unfold method;refine .bnd (vN H.tables t) λσ i i' l hi=>?_;obtain⟨rfl,hi⟩:=hi;cases hm:i'.methods.find? (·.name == n) with
   | none=>exact qf
   | some m =>
    obtain⟨hp,f,b,hf,hok,a7⟩:=H.meths n hn t i' m hi hm;dsimp only;rw[hp,hf];have e:(follow (#[]:Array FieldStep).toList t (.val v))=pure (t,.val v):=rfl;have e':(follow (#[]:Array FieldStep).toList t (.val v'))=pure (t,.val v'):=rfl;rw[e,e'];have key:SR Q P VR (receiverAt t (.val v) b (if(#[]:Array FieldStep).isEmpty=true then some ((n.splitOn ".").getLastD n) else none)) σ (receiverAt t (.val v') b (if(#[]:Array FieldStep).isEmpty=true then some ((n.splitOn ".").getLastD n) else none)):=by
     refine .bnd (qL H.tables t) λτ d d' l' hd=>?_;obtain⟨rfl,hd⟩:=hd;have hv:=h.mono (l.trans l');cases d' with
     | pointer e =>
      have:=a7 e hd;subst this;exact qd hv
     | _ =>
      cases b with
      | true=>exact qf
      | false=>exact qd hv
    exact SR.bnd (S:=λσ a b=>b.1=a.1/\JunkSet.okf a.1/\VR σ a.2 b.2) (f:=λr=>pure (f,r)) (f':=λr=>pure (f,r)) key λτ r r' _ hr=>qd ⟨rfl,hok,hr⟩
theorem Kc(hG:Gl P ρ)(n:String)(hn:JunkSet.okm n){v v':q58}(h:VR ρ v v'){a a':Array q58}(ha:AsR ρ a a'):SR Q P zM (callMethod v n a) ρ (callMethod v' n a'):=by
 cases h with
 | iface t hv =>
  refine zD ?_;have:P.types.size=Q.types.size:=by rw[H.tables]
  rw[this];refine .bnd (q6D H n hn _ _ Iff.rfl hv) λσ a b l hab=>?_;obtain⟨f,r⟩:=a;obtain⟨f',r'⟩:=b;obtain⟨rfl,hok,hr⟩:=hab;exact J3 H hok ((AsR.one hr).append (ha.mono l))
 | nilIface=>exact(qx H.tables hG .nilDeref:SR Q P zM (qdo .nilDeref) ρ (qdo .nilDeref))
 | _=>exact qf
omit [JunkSet] H in
theorem Qz{α:Type}(hn:∀i,Q.info? 0=some i->(i.methods.find? (·.name == "")).isNone=true)(f:TypeInfo->Sem α)(hf:∀i,i.methods.find? (·.name == "")=none->Bad Q (f i)):Bad Q (qdD 0>>=f):=by
 show Bad Q ((match Q.info? 0 with | some i=>(pure i:Sem TypeInfo) | none=>stuck "no such type").bind f);cases h:Q.info? 0 with
 | none=>exact rfl
 | some i=>exact hf i (by simpa using hn i h)
theorem K0(a:Array q58):Bad Q (callMethod (.iface 0 .nilIface) "" a):=by
 show Bad Q ((method (Q.types.size+_) 0 .nilIface "").bind _);refine Bad.bind ?_ _;generalize Q.types.size+_=n;cases n with
 | zero=>exact rfl
 | succ n =>
  unfold method;refine Qz H.nometh _ λi hi=>?_;rw[hi];exact rfl
theorem q85:Bad Q (do
  if(<- nilAhead ((<- program).types.size+Made.depth) 0 .nilIface "") != some false then
   unsupported (.noEntry "op/nilCheck.the method's receiver behind this interface value is a nil pointer, or cannot be seen to be none, and the arguments act or may panic (ledger 612)")
  pure (Next.value (.func (.method "") #[.iface 0 .nilIface] #[]))):=by
 show Bad Q ((nilAhead (Q.types.size+Made.depth) 0 .nilIface "").bind _);cases hn:Q.types.size+Made.depth with
 | zero=>exact rfl
 | succ n =>
  refine Bad.bind ?_ _;unfold nilAhead;refine Qz H.nometh _ λi hi=>?_;rw[hi];exact rfl
omit H in
theorem sr_env:SR Q P EqR (sys .env) ρ (sys .env):=.inr ⟨rfl,_,rfl,λr=>⟨r,rfl,rfl⟩⟩
theorem q2h:SR Q P EqR Instr.panicnil ρ Instr.panicnil:=by
 unfold Instr.panicnil;refine .bndE sr_env λσ r l=>?_;cases r with
 | strings e =>
  dsimp only;refine zD ?_;have:P.godebug=Q.godebug:=by rw[H.tables]
  rw[this];exact qd rfl
 | _=>exact qf
theorem JV{R:Rel q58 q58}{v v':q58}(hG:Gl P ρ)(h:VR ρ v v'):SR Q P R (Instr.panic v) ρ (Instr.panic v'):=by
 cases h with
 | iface t hv=>exact(jS (.iface t hv):SR Q P R (goPanic _) ρ (goPanic _))
 | nilIface =>
  show SR Q P R (Instr.panicnil>>=_) ρ (Instr.panicnil>>=_);refine .bndE (q2h H) λσ n l=>?_;exact qC (λ_=>jS .nilIface) λ_=>qx H.tables (hG.mono l) _
 | _=>exact qf
theorem jR{s s':Sem q58}(h:SR Q P VR s ρ s'):SR Q P zM (do pure (.value (<- s))) ρ (do pure (.value (<- s'))):=.bnd h λσ a b _ hab=>qd (.value hab)
theorem sr_u{s s':Sem Unit}(h:SR Q P (λ_ _ _=>True) s ρ s'):SR Q P zM (do s;pure .skip) ρ (do s';pure .skip):=.bnd h λσ a b _ _=>qd .skip
theorem q4t(hG:Gl P ρ){b:Builtin}{ts:Array q8u}{t:q8u}{cs:Array Bool}(hB:biB Q b ts=true){a a':Array q58}(ha:AsR ρ a a') :
  SR Q P zM (builtin b ts t cs a) ρ (builtin b ts t cs a'):=by
 cases b<;>first | (cases hB;done) | skip
 ·exact jR H (q6H H.tables hG ha hB)
 ·exact jR H (sr_cap H.tables hB ha)
 ·exact jR H (q95 H.tables ha hB)
 ·exact jR H (sr_copy H.tables ha)
 ·exact jR H (sr_len H.tables hB ha)
 ·exact jR H (sr_max ha)
 ·exact jR H (sr_min ha)
 ·exact jR H (JV H hG (ha.getD 0 .nilIface))
 ·exact qd .recover
theorem QK{v v':q58}(h:VR ρ v v'){a a':Array q58}(ha:AsR ρ a a'):SR Q P yO (Deferred.ofValue v a) ρ (Deferred.ofValue v' a'):=by
 cases h with
 | func hf h1 h2 h3 h4=>exact qd (.mk (.fn hf ⟨h3,h4⟩) (AsR.append ⟨h1,h2⟩ ha))
 | nilFunc=>exact qd (.mk .nil ha)
 | meth n b c=>exact qd (.bound rfl (by simp[qdk]) ⟨_,_,rfl⟩)
 | _=>exact qf
theorem vx(hG:Gl P ρ){d d':qc3}(h:yO ρ d d'):SR Q P zM (invoke d.target d.args) ρ (invoke d'.target d'.args):=by
 obtain⟨t,a⟩:=d;obtain⟨t',a'⟩:=d';rcases h with⟨ht,ha⟩ | ⟨h1,h2,_⟩
 case bound =>
  dsimp only at h1 h2 ⊢;subst h1;unfold invoke;dsimp only;rw[h2];exact .bad (K0 H _)
 dsimp only at ht ha ⊢;cases ht with
 | fn hf hc =>
  cases hf with
  | func f hok=>exact J3 H hok (ha.append hc)
  | yield hb=>exact q8E hb ha
 | meth n hn =>
  unfold invoke;dsimp only;cases h0:a[0]? with
  | none=>exact qf
  | some r =>
   obtain⟨r',e,hr⟩:=ha.get h0;rw[e,<- ha.1];exact Kc H hG n hn hr (ha.extract _ _)
 | nil=>exact(qx H.tables hG .nilDeref:SR Q P zM (qdo .nilDeref) ρ (qdo .nilDeref))
 | builtin b ts t cs hB=>exact q4t H hG (H.bis _ _ hB) ha
 | collected hb=>exact qf
end
end Go.Sim
end
section
namespace Go.Sim
inductive qF [JunkSet] (Q:q8b):qaH->Prop
 | tmp (t:Tmp):qF Q (.tmp t)
 | const {v:q58}:kY v->qF Q (.const v)
 | global {g:Nat}:g<Q.globals.size->qF Q (.global g)
 | func {f:qbe}:JunkSet.okf f->qF Q (.func f)
def ji[JunkSet](Q:q8b)(l:List qaH):Prop:=∀x∈l,qF Q x
inductive yS [JunkSet] (Q:q8b):Call->Prop
 | value {f:qaH} {a:Array qaH} {ts:Array q8u}:qF Q f->ji Q a.toList->yS Q ⟨.value f,a,ts⟩
 | invoke {r:qaH} {n:String} {a:Array qaH} {ts:Array q8u}:qF Q r->JunkSet.okm n->ji Q a.toList->yS Q ⟨.invoke r n,a,ts⟩
 | builtin {b:Builtin} {a:Array qaH} {ts:Array q8u}:JunkSet.okb b ts->ji Q a.toList->yS Q ⟨.builtin b,a,ts⟩
inductive qK [JunkSet] (Q:q8b):Op->Prop
 | move {x:qaH}:qF Q x->qK Q (.move x)
 | assign {x:qaH}:qF Q x->qK Q (.assign x)
 | pick {c a b:qaH}:qF Q c->qF Q a->qF Q b->qK Q (.pick c a b)
 | alloc {t:q8u}:kL Q t=true->qK Q (.alloc t)
 | box {t:q8u} {x:qaH}:qF Q x->qK Q (.box t x)
 | build {t:q8u} {ps:Array (Nat × qaH)}:kL Q t=true->ji Q (ps.toList.map (·.2))->qK Q (.build t ps)
 | buildSlice {t:q8u} {n:Nat} {ps:Array (Nat × qaH)}:Q0 Q t=true->ji Q (ps.toList.map (·.2))->qK Q (.buildSlice t n ps)
 | load {t:q8u} {x:qaH}:qF Q x->qK Q (.load t x)
 | store {t:q8u} {a x:qaH}:qF Q a->qF Q x->qK Q (.store t a x)
 | nilCheck {x:qaH}:qF Q x->qK Q (.nilCheck x)
 | arith {op:BinOp} {t u:q8u} {x y:qaH}:Kj op=false->q15 Q t=true->qF Q x->qF Q y->qK Q (.binOp op t x y u)
 | eql {op:BinOp} {t u:q8u} {x y:qaH}:Kj op=true->eqOk Q t x y=true->qF Q x->qF Q y->qK Q (.binOp op t x y u)
 | unOp {op:UnOp} {t:q8u} {x:qaH}:qF Q x->qK Q (.unOp op t x)
 | convert {s d:q8u} {x:qaH}:q6n Q s d=true->qF Q x->qK Q (.convert s d x)
 | makeInterface {t:q8u} {x:qaH}:qF Q x->qK Q (.makeInterface t x)
 | makeFunc {f:qbe} {a b:Array qaH}:JunkSet.okf f->ji Q a.toList->ji Q b.toList->qK Q (.makeFunc (.func f) a b)
 | makeMap {t:q8u} {r:Option qaH}:ji Q r.toList->qK Q (.makeMap t r)
 | makeSlice {t:q8u} {l c:qaH}:Q0 Q t=true->qF Q l->qF Q c->qK Q (.makeSlice t l c)
 | slice {t:q8u} {x:qaH} {l h m:Option qaH}:qF Q x->ji Q l.toList->ji Q h.toList->ji Q m.toList->qK Q (.slice t x l h m)
 | fieldAddr {t:q8u} {x:qaH} {f:Nat}:q1h Q t f=true->qF Q x->qK Q (.fieldAddr t x f)
 | field {t:q8u} {x:qaH} {f:Nat}:qF Q x->qK Q (.field t x f)
 | indexAddr {t:q8u} {x i:qaH}:qF Q x->qF Q i->qK Q (.indexAddr t x i)
 | index {t:q8u} {x i:qaH}:qF Q x->qF Q i->qK Q (.index t x i)
 | lookup {t:q8u} {x i:qaH} {c:Bool}:Yr Q t=true->qF Q x->qF Q i->qK Q (.lookup t x i c)
 | mapUpdate {t:q8u} {m k x:qaH}:Yr Q t=true->qF Q m->qF Q k->qF Q x->qK Q (.mapUpdate t m k x)
 | insert {t:q8u} {m k x:qaH}:Yr Q t=true->qF Q m->qF Q k->qF Q x->qK Q (.insert t m k x)
 | typeAssert {x:qaH} {t a:q8u} {c:Bool}:kL Q a=true->qF Q x->qK Q (.typeAssert x t a c)
 | extract {x:qaH} {i:Nat}:qF Q x->qK Q (.extract x i)
 | call {c:Call}:yS Q c->qK Q (.call c)
 | defer {c:Call}:yS Q c->qK Q (.defer c)
 | panic {x:qaH}:qF Q x->qK Q (.panic x)
section
variable[JunkSet]{Q P:q8b}(H:Pair Q P){ρ:Ren}{e e':qaH->q58}
theorem vW(he:∀x,qF Q x->VR ρ (e x) (e' x)){a:Array qaH}(ha:ji Q a.toList):AsR ρ (a.map e) (a.map e'):=by
 refine⟨by simp,λi x y hx hy=>?_⟩;rw[Array.getElem?_map] at hx hy;cases h:a[i]? with
 | none=>rw[h] at hx;cases hx
 | some o =>
  rw[h] at hx hy;cases hx;cases hy;exact he o (ha o (by rw[qcs];exact qby h))
theorem KU(he:∀x,qF Q x->VR ρ (e x) (e' x)){ps:Array (Nat × qaH)}(ha:ji Q (ps.toList.map (·.2))) :
  LsR (q0t ρ) (ps.map λ(x:Nat × qaH)=>(x.1,e x.2)).toList (ps.map λ(x:Nat × qaH)=>(x.1,e' x.2)).toList:=by
 simp only[Array.toList_map];generalize ps.toList=l at ha;induction l with
 | nil=>exact .nil
 | cons p l ih=>exact .cons ⟨rfl,he _ (ha _ (List.mem_cons_self ..))⟩ (ih λx hx=>ha x (List.mem_cons_of_mem _ hx))
theorem JD(he:∀x,qF Q x->VR ρ (e x) (e' x)){o:Option qaH}(ho:ji Q o.toList):Z0 ρ (o.map e) (o.map e'):=by
 cases o with
 | none=>exact .inl ⟨rfl,rfl⟩
 | some x=>exact .inr ⟨_,_,rfl,rfl,he x (ho x (by simp))⟩
theorem ZP(hc:∀v,e (.const v)=v){x:qaH}(h:kw x=true):e x=.nilIface:=by
 unfold kw at h;split at h
 ·exact hc _
 ·cases h
include H
theorem vP(he:∀x,qF Q x->VR ρ (e x) (e' x)){c:Call}(hc:yS Q c)(t:q8u):SR Q P yO (resolve e c t) ρ (resolve e' c t):=by
 cases hc with
 | value hf ha=>exact QK H (he _ hf) (vW he ha)
 | invoke hr hn ha=>exact qd (.mk (.meth _ hn) ((AsR.one (he _ hr)).append (vW he ha)))
 | builtin hb ha=>exact qd (.mk (.builtin _ _ _ _ hb) (vW he ha))
def isMap:Op->Bool
 | .mapUpdate .. | .insert ..=>true
 | _=>false
theorem KJ(he:∀x,qF Q x->VR ρ (e x) (e' x))(hG:Gl P ρ)(hn:Inj ρ)(hc:∀v,e (.const v)=v){o:qbz}(ho:qK Q o.op)(hmu:isMap o.op=false):SR Q P zM (execOp e o) ρ (execOp e' o):=by
 have T:=H.tables;obtain⟨dst,op,ty,pos,after,guard⟩:=o;dsimp only at ho hmu;cases ho with
 | move h=>exact qd (.value (he _ h))
 | assign h=>exact qd (.value (he _ h))
 | pick h1 h2 h3 =>
  refine .bndE (q6G (he _ h1)) λσ b l=>?_;refine qd (.value ?_);cases b with
  | true=>exact(he _ h2).mono l
  | false=>exact(he _ h3).mono l
 | alloc h=>exact jR H (q99 T h)
 | box h=>exact jR H (sr_box _ (he _ h))
 | build h1 h2=>exact jR H (q96 T h1 (KU he h2))
 | buildSlice h1 h2=>exact jR H (Kd T h1 _ (KU he h2))
 | load h=>exact jR H (q6F T _ (he _ h))
 | store h1 h2=>exact sr_u H (q4j T _ (he _ h1) (he _ h2))
 | @nilCheck x h =>
  have hv:=he _ h;unfold execOp;dsimp only;generalize e x=v at hv ⊢;generalize e' x=v' at hv ⊢;have Z:SR Q P zM (pure (.value v)) ρ (pure (.value v')):=qd (.value hv);cases hv with
  | ptrNil=>exact qx T hG .nilDeref
  | nilIface=>exact qx T hG .nilDeref
  | nilFunc=>exact qx T hG .nilDeref
  | func hf h1 h2 h3 h4 =>
   cases hf with
   | func f hok=>exact Z
   | yield hb=>exact Z
  | wild _ h=>cases v'<;>first | exact Z | (cases h;done) | (rename_i p;cases p<;>first | exact Z | (cases h;done)) | (rename_i p _ _;cases p<;>first | exact Z | (cases h;done))
  | meth n a c=>exact .bad (q85 H)
  | _=>exact Z
 | arith h1 h2 h3 h4 =>
  refine jR H (.bnd (Y1 T (λh=>by rw[h1] at h;cases h) (he _ h3) (he _ h4) ?_ ?_ ?_) λσ _ _ l _=>q98 T h1 h2 ((he _ h3).mono l) ((he _ h4).mono l) (hG.mono l))
  ·exact λhx=>ZP hc hx
  ·exact λhx=>ZP hc hx
  ·exact λh=>by rw[h1] at h;cases h
 | @eql op t u x y h1 h2 h3 h4 =>
  have a7:∀a b,Q.underlying t≠some (.chan a b):=by
   unfold eqOk at h2;simp only[qcy,q9b] at h2;rcases h2 with h2 | ⟨_,h5⟩
   ·exact jZ h2
   ·intro a b e
    rw[e] at h5;cases h5
  by_cases hw:e x=.chan none\/e y=.chan none
  ·exact .bad (Bad.bind (bad_eqT T h1 a7 hw) _)
  have a6:∀w,(w=e x\/w=e y)->w≠.chan none:=λw h e'=>hw (by rcases h with rfl | rfl;exact .inl e';exact .inr e');refine jR H (.bnd (Y1 T (λ_=>h2) (he _ h3) (he _ h4) (λhx=>ZP hc hx) (λhx=>ZP hc hx) (λ_=>a6)) λσ _ _ l _=>?_);unfold eqOk at h2;simp only[qcy,q9b] at h2;rcases h2 with h2 | ⟨h2,h5⟩
  ·exact sr_eql T h1 h2 ((he _ h3).mono l) ((he _ h4).mono l) (hG.mono l)
  ·refine q94 T h1 ?_ ((he _ h3).mono l) ((he _ h4).mono l) (h2.imp (ZP hc) (ZP hc))
   split at h5
   ·exact⟨_,‹_›⟩
   ·cases h5
 | unOp h=>exact jR H (q8F T (he _ h))
 | convert h1 h2=>exact jR H (q4r T h1 (he _ h2))
 | makeInterface h=>exact jR H (ZI T _ (he _ h))
 | makeFunc h1 h2 h3=>exact qd (.value (.func (.func _ h1) (vW he h2).1 (vW he h2).2 (vW he h3).1 (vW he h3).2))
 | makeMap h=>exact jR H (q4n T _ (JD he h))
 | makeSlice h1 h2 h3=>exact jR H (q0G T hG h1 (he _ h2) (he _ h3))
 | slice h1 h2 h3 h4=>exact jR H (q4k T hG _ (he _ h1) (JD he h2) (JD he h3) (JD he h4))
 | fieldAddr h1 h2=>exact jR H (q4p T h1 (he _ h2))
 | field h=>exact jR H (q93 T _ (he _ h) _)
 | indexAddr h1 h2=>exact jR H (q4o T hG _ (he _ h1) (he _ h2))
 | index h1 h2=>exact jR H (q92 T hG _ (he _ h1) (he _ h2))
 | lookup h1 h2 h3=>exact jR H (q6E T hG h1 _ (he _ h2) (he _ h3))
 | mapUpdate h1 h2 h3 h4=>cases hmu
 | insert h1 h2 h3 h4=>cases hmu
 | typeAssert h1 h2=>exact jR H (Ka T hG h1 _ (he _ h2))
 | extract h=>exact jR H (q4q (he _ h) _)
 | call h=>exact .bnd (vP H he h _) λσ d d' l hd=>vx H (hG.mono l) hd
 | defer h=>exact .bnd (vP H he h _) λσ d d' l hd=>qd (.defer hd)
 | panic h=>exact jR H (JV H hG (he _ h))
end
end Go.Sim
end
section
namespace Go.Sim
inductive qz [JunkSet] (Q:q8b):qcm->Prop
 | skip:qz Q .skip
 | region {id:Nat} {ops:Array qbz} {d:Bool}:(∀o∈ops.toList,qK Q o.op)->qz Q (.region id ops d)
 | seq {a b:qcm}:qz Q a->qz Q b->qz Q (.seq a b)
 | cond {c:qaH} {a b:qcm}:qF Q c->qz Q a->qz Q b->qz Q (.cond c a b)
 | block {id:Nat} {c:qcm}:qz Q c->qz Q (.block id c)
 | loop {c:qcm}:qz Q c->qz Q (.loop c)
 | rangeFunc {f:qaH} {ps:Array Tmp} {a c:qcm}:qF Q f->qz Q a->qz Q c->qz Q (.rangeFunc f ps a c)
 | exit (id:Nat):qz Q (.exit id)
 | scope {c:qcm}:qz Q c->qz Q (.scope c)
 | label (l:Nat):qz Q (.label l)
 | goto (l:Nat):qz Q (.goto l)
 | ret:qz Q .ret
inductive zi [JunkSet] (Q:q8b) (ρ:Ren):qdy->qdy->Prop
 | code {c:qcm}:qz Q c->zi Q ρ (.code c) (.code c)
 | inBlock (id:Nat):zi Q ρ (.inBlock id) (.inBlock id)
 | inLoop {c:qcm}:qz Q c->zi Q ρ (.inLoop c) (.inLoop c)
 | inScope {c:qcm}:qz Q c->zi Q ρ (.inScope c) (.inScope c)
 | inRegion {ops:Array qbz} (l:List Nat):(∀o∈ops.toList,qK Q o.op)->zi Q ρ (.inRegion ops l) (.inRegion ops l)
 | inRangeFunc {l l':Nat}:BR ρ l l'->zi Q ρ (.inRangeFunc l) (.inRangeFunc l')
 | endRangeFunc {l l':Nat}:BR ρ l l'->zi Q ρ (.endRangeFunc l) (.endRangeFunc l')
 | beginRound:zi Q ρ .beginRound .beginRound
structure Zw[JunkSet](ρ:Ren)(a b:PanicEntry):Prop where
 v:VR ρ a.v b.v
 rcv:b.recovered=a.recovered
 goexit:b.goexit=a.goexit
inductive kG [JunkSet] (ρ:Ren):FrameMode->FrameMode->Prop
 | run:kG ρ .run .run
 | returning:kG ρ .returning .returning
 | panicking {l l':List PanicEntry}:LsR (Zw ρ) l l'->kG ρ (.panicking l) (.panicking l')
def OBR(ρ:Ren)(a b:Option Nat):Prop:=(a=none/\b=none)\/∃i j,a=some i/\b=some j/\BR ρ i j
structure qu[JunkSet](Q P:q8b)(ρ:Ren)(f f':q8c):Prop where
 fn:f'.fn=f.fn
 same:∃g,Q.funcs[f.fn]?=some g/\P.funcs[f.fn]?=some g
 okf:Q.inits.idxOf? f.fn=none
 tmps:AsR ρ f.tmps f'.tmps
 todo:LsR (zi Q ρ) f.todo f'.todo
 defers:LsR (yO ρ) f.defers f'.defers
 mode:kG ρ f.mode f'.mode
 kind:f'.kind=f.kind
 round:OBR ρ f.roundOf f'.roundOf
section
variable[JunkSet]{Q P:q8b}{ρ σ:Ren}
theorem zi.mono(l:Le ρ σ){a b:qdy}(h:zi Q ρ a b):zi Q σ a b:=by
 cases h with
 | code h=>exact .code h
 | inBlock id=>exact .inBlock id
 | inLoop h=>exact .inLoop h
 | inScope h=>exact .inScope h
 | inRegion l h=>exact .inRegion l h
 | inRangeFunc h=>exact .inRangeFunc (h.mono l)
 | endRangeFunc h=>exact .endRangeFunc (h.mono l)
 | beginRound=>exact .beginRound
theorem Zw.mono(l:Le ρ σ){a b:PanicEntry}(h:Zw ρ a b):Zw σ a b:=⟨h.v.mono l,h.rcv,h.goexit⟩
theorem kG.mono(l:Le ρ σ){a b:FrameMode}(h:kG ρ a b):kG σ a b:=by
 cases h with
 | run=>exact .run
 | returning=>exact .returning
 | panicking h=>exact .panicking (h.imp λ_ _ k=>k.mono l)
theorem OBR.mono(l:Le ρ σ){a b:Option Nat}(h:OBR ρ a b):OBR σ a b:=h.imp id λ⟨i,j,e1,e2,hb⟩=>⟨i,j,e1,e2,hb.mono l⟩
theorem qu.mono(l:Le ρ σ){f f':q8c}(h:qu Q P ρ f f'):qu Q P σ f f' :=
 ⟨h.fn,h.same,h.okf,h.tmps.mono l,h.todo.imp λ_ _ k=>k.mono l,h.defers.imp λ_ _ k=>k.mono l,h.mode.mono l,h.kind,h.round.mono l⟩
structure kH[JunkSet](Q P:q8b)(ρ:Ren)(g g':q5r):Prop where
 frame:qu Q P ρ g.frame g'.frame
 callers:LsR (qu Q P ρ) g.callers g'.callers
 st:g.status=.running
 st':g'.status=.running
 dy:g.dying=none
 dy':g'.dying=none
theorem kh(ρ:Ren):VR ρ q5s undef:=AsR.tuple .nil
theorem qu.eval(hG:Gl P ρ)(hg:P.globals.size=Q.globals.size){f f':q8c}(h:qu Q P ρ f f'){x:qaH}(hx:qF Q x):VR ρ (f.eval x) (f'.eval x):=by
 cases hx with
 | tmp t=>exact h.tmps.getD t (kh ρ)
 | const hv=>exact hv.vr ρ
 | @global g hl=>exact .ptr 0 none (hG g (by omega))
 | func hf=>exact .func (.func _ hf) rfl (λi x y hx=>by simp at hx) rfl (λi x y hx=>by simp at hx)
theorem qu.finish{f f':q8c}(h:qu Q P ρ f f'){v v':q58}(hv:VR ρ v v'):qu Q P ρ (f.finish v) (f'.finish v'):=by
 obtain⟨fn,tmps,todo,defers,mode,kind,ro⟩:=f;obtain⟨b6,a7,a6,Z,a8,a9,b0⟩:=f';have ht:=h.todo;dsimp only at ht;unfold Frame.finish;dsimp only;cases ht with
 | nil=>exact h
 | cons hx hl =>
  cases hx with
  | @inRegion ops l hops =>
   cases l with
   | nil=>exact h
   | cons i l =>
    dsimp only;refine⟨h.fn,h.same,h.okf,?_,.cons (.inRegion l hops) hl,h.defers,h.mode,h.kind,h.round⟩;dsimp only;split
    ·exact h.tmps.set _ hv
    ·exact h.tmps
  | inRangeFunc hb=>exact⟨h.fn,h.same,h.okf,h.tmps,.cons (.endRangeFunc hb) hl,h.defers,h.mode,h.kind,h.round⟩
  | beginRound=>exact⟨h.fn,h.same,h.okf,h.tmps,hl,h.defers,h.mode,h.kind,h.round⟩
  | _=>exact h
theorem qu.raise{f f':q8c}(h:qu Q P ρ f f'){l l':List PanicEntry}(hl:LsR (Zw ρ) l l'):qu Q P ρ (f.raise l) (f'.raise l'):=by
 obtain⟨fn,tmps,todo,defers,mode,kind,ro⟩:=f;obtain⟨b6,a7,a6,Z,a8,a9,b0⟩:=f';have hm:=h.mode;dsimp only at hm;unfold Frame.raise;cases hm with
 | run=>exact⟨h.fn,h.same,h.okf,h.tmps,h.todo,h.defers,.panicking hl,h.kind,h.round⟩
 | returning=>exact⟨h.fn,h.same,h.okf,h.tmps,h.todo,h.defers,.panicking hl,h.kind,h.round⟩
 | panicking hc=>exact⟨h.fn,h.same,h.okf,h.tmps,h.todo,h.defers,.panicking (hl.append hc),h.kind,h.round⟩
theorem q5c{id:Nat}:∀{l l':List qdy},LsR (zi Q ρ) l l'->(exitTo id l=none/\exitTo id l'=none)\/∃k k',exitTo id l=some k/\exitTo id l'=some k'/\LsR (zi Q ρ) k k':=by
 intro l l' h;induction h with
 | nil=>exact .inl ⟨rfl,rfl⟩
 | cons hx hl ih =>
  cases hx with
  | inBlock j =>
   simp only[exitTo];split
   ·exact .inr ⟨_,_,rfl,rfl,hl⟩
   ·exact ih
  | _=>exact ih
theorem q1g{l:Nat}:∀{c r:qcm},qz Q c->findLabel c l=some r->qz Q r:=by
 intro c;induction c with
 | seq a b iha ihb =>
  intro r h hr;cases h with
  | seq ha hb =>
   simp only[findLabel] at hr;split at hr
   ·rename_i rest e
    cases hr;exact .seq (iha ha e) hb
   ·exact ihb hb hr
 | label j =>
  intro r h hr;simp only[findLabel] at hr;split at hr
  ·cases hr;exact .skip
  ·cases hr
 | _=>intro r h hr;cases hr
theorem q57{j:Nat}:∀{l l':List qdy},LsR (zi Q ρ) l l'->(gotoIn j l=none/\gotoIn j l'=none)\/∃k k',gotoIn j l=some k/\gotoIn j l'=some k'/\LsR (zi Q ρ) k k':=by
 intro l l' h;induction h with
 | nil=>exact .inl ⟨rfl,rfl⟩
 | cons hx hl ih =>
  cases hx with
  | @inScope c hc =>
   simp only[gotoIn];cases hf:findLabel c j with
   | none=>exact ih
   | some r=>exact .inr ⟨_,_,rfl,rfl,.cons (.code (q1g hc hf)) (.cons (.inScope hc) hl)⟩
  | _=>exact ih
theorem q46(ops:Array qbz){t t':Array q58}(h:AsR ρ t t')(j:Nat):yielded ops t' j=yielded ops t j:=by
 unfold yielded;cases((ops[j]?).bind (·.dst)) with
 | none=>rfl
 | some d =>
  simp only[Option.bind_some];cases ht:t[d]? with
  | none=>rw[h.get_none ht]
  | some v =>
   obtain⟨v',Z,hr⟩:=h.get ht;rw[Z];cases hr<;>first | rfl | (rename_i h;cases v'<;>first | rfl | cases h)
theorem km(P:q8b)(fn:qbe)(es:Array qbr):∀e∈seen P fn es,e∈es:=by
 have key:∀(l:List qbr) (x:Bool × Array qbr) (all:List qbr),(∀e∈x.2,e∈all)->(∀e∈l,e∈all) ->
   ∀e∈(l.foldl (λ(y:Bool × Array qbr) (e:qbr)=>match e.loc with
    | .mark (.extern f)=>((P.funcs[f]?).any (·.norace),y.2)
    | _=>(y.1,if y.1 && !e.sync then y.2 else y.2.push e)) x).2,e∈all:=by
  intro l;induction l with
  | nil=>intro x all hx _;exact hx
  | cons a l ih =>
   intro x all hx hl;rw[List.foldl_cons];refine ih _ all ?_ λe he=>hl e (List.mem_cons_of_mem _ he);intro e he;split at he
   ·exact hx e he
   ·dsimp only at he
    split at he
    ·exact hx e he
    ·rcases Array.mem_push.1 he with he | rfl
     ·exact hx e he
     ·exact hl _ (List.mem_cons_self ..)
 intro e he;have:=key es.toList ((P.funcs[fn]?).any (·.norace),#[]) es.toList (by simp) (λe he=>he) e;rw[qcs] at this;apply this;unfold seen at he;dsimp only at he;rw[<- qev] at he;exact he
end
end Go.Sim
end
section
namespace Go.Sim
section
variable[JunkSet]{Q P:q8b}{ρ:Ren}{α β:Type}{R:Rel α β}
def SM(Q P:q8b)[JunkSet]{α β:Type}(R:Rel α β)(s:Sem α)(ρ:Ren)(s':Sem β):Prop :=
 ∀{base D:Nat} {wq w:q3g},base<=ρ.length->WR Q base ρ wq w->zw D wq w->(rwR (s.run Q wq)).drawn<=D->vM (s.run Q wq) ->
  ∃σ wq' w' es',ResR R σ (s.run Q wq) wq' (s'.run P w) w'/\s'.events P w #[]=es'/\(∀e∈es',kK base σ e)/\WR Q base σ wq' w'/\Eff base ρ σ w w'
theorem SR.sm{s:Sem α}{s':Sem β}(h:SR Q P R s ρ s'):SM Q P R s ρ s':=λhb hw ht hd hf=>by
 obtain⟨σ,wq',w',es',h1,h2,h3,h4,_,h5,_⟩:=SR.runs (es:=#[]) h hb hw ht hd hf;exact⟨σ,wq',w',es',h1,by show(s'.runT P _ #[]).2=es';rw[h2];simp,h3,h4,h5⟩
def wk:qc7:=.extern "map.whichKeyStays" 2
def muTail(kt:q8u)(k v:q58)(r:Nat)(es:Array qdm)(clock:Nat)(Z:Nat->Sem q58):Sem Unit:=do
 qdx false 10000 kt k
 match <- Instr.findKey kt k es.toList with
 | some (i,_)=>do
  let key <- Z i
  setObj r (.map (es.modify i λe=>{ e with key,val:=v }) clock)
 | none=>setObj r (.map (es.push { key:=k,val:=v,born:=clock }) (clock+1))
def qZ(es:Array qdm)(i:Nat)(k:q58):q58:=((es[i]?).map (·.key)).getD k
def ky(kt:q8u)(k:q58)(es:Array qdm):Sem (Option (Nat × q58)):=do
 qdx false 10000 kt k
 Instr.findKey kt k es.toList
def jC(k v:q58)(r:Nat)(es:Array qdm)(clock:Nat)(Z:Nat->Sem q58):Option (Nat × q58)->Sem Unit
 | some (i,_)=>do
  let key <- Z i
  setObj r (.map (es.modify i λe=>{ e with key,val:=v }) clock)
 | none=>setObj r (.map (es.push { key:=k,val:=v,born:=clock }) (clock+1))
theorem yE{t:q8u}{k v:q58}{w:q3g}{kt et:q8u}(ht:P.underlying t=some (.map kt et)){r:Nat}{es:Array qdm}{clock:Nat}(hr:w.heap[r]?=some (.map es clock)) :
  (qbE t (.map (some r)) k v).run P w=(ky kt k es>>=jC k v r es clock (λi=>qbl (qZ es i k) k)).run P w /\
  (qbE t (.map (some r)) k v).events P w #[]=(ky kt k es>>=jC k v r es clock (λi=>qbl (qZ es i k) k)).events P w #[⟨.obj r,false,false⟩]:=by
 have e:qbE t (.map (some r)) k v=(qdg t).bind λd=>(match d with
   | .map kt _=>(getObj r).bind λo=>(match o with
    | .map es clock=>(ky kt k es>>=jC k v r es clock (λi=>qbl (qZ es i k) k))
    | _=>stuck "MapUpdate: map expected")
   | _=>stuck "MapUpdate: map type expected"):=by
  unfold qbE;show(qdg t).bind _=_
  congr 1
  funext d
  cases d<;>try rfl
  show(getObj r).bind _=(getObj r).bind _
  congr 1
  funext o
  cases o<;>try rfl
  exact(Sem.bind_assoc' _ _ _).symm
 have hu:∀es,(qdg t).runT P w es=(.ok (.map kt et) w,es):=λes=>by
  show(match P.underlying t with | some i=>(pure i:Sem TypeDesc) | none=>stuck "no such type").runT P w es=_;rw[ht];rfl
 have ho:∀es',(getObj r).runT P w es'=(.ok (.map es clock) w,es'.push ⟨.obj r,false,false⟩):=λes'=>by
  simp only[getObj,qe8,hr];rfl
 have key:∀es',(qbE t (.map (some r)) k v).runT P w es'=(ky kt k es>>=jC k v r es clock (λi=>qbl (qZ es i k) k)).runT P w (es'.push ⟨.obj r,false,false⟩):=λes'=>by
  rw[e,Sem.runT_bind',hu];dsimp only;rw[Sem.runT_bind',ho]
 refine⟨?_,?_⟩
 ·rw[<- Sem.runT_fst P _ w #[],key,Sem.runT_fst]
 ·show((qbE t (.map (some r)) k v).runT P w #[]).2=_
  rw[key];rfl
omit [JunkSet] in
theorem ba_eq(a b:ByteArray)(h:(a == b)=true):a=b:=by
 obtain⟨a⟩:=a;obtain⟨b⟩:=b;have h2:(a == b)=true:=h;rw[eq_of_beq h2]
omit [JunkSet] in
theorem q6q:∀(n:Nat) {x y:q58},qcA n x y=true->x=y:=by
 intro n;induction n with
 | zero =>
  intro x y h;cases x<;>cases y<;>first | (cases h;done) | rfl | (rw[ba_eq _ _ h];done) | (simp only[qcA,q9b,beq_iff_eq] at h;simp[h];done) | (simp only[qcA,q9b,beq_iff_eq] at h;obtain⟨h1,h2⟩:=h;subst h1 h2;rfl)
 | succ n ih =>
  intro x y h;cases x<;>cases y<;>first | (cases h;done) | rfl | (rw[ba_eq _ _ h];done) | skip
  all_goals simp only[qcA,q9b,beq_iff_eq] at h
  case agg.agg a b =>
   obtain⟨h1,h2⟩:=h
   congr 1
   refine Array.ext h1 λi a6 Z=>?_;rw[qau] at h2;have:(a[i],b[i])∈a.toList.zip b.toList:=by
    rw[List.mem_iff_getElem];refine⟨i,by simp;omega,by simp⟩
   exact ih (h2 _ this)
  case iface.iface t v u w =>
   rw[h.1,ih h.2]
  all_goals first | (simp[h];done) | (obtain⟨h1,h2⟩:=h;subst h1 h2;rfl) | (obtain⟨⟨h1,h2⟩,h3⟩:=h;subst h1 h2 h3;rfl)
def kq(s:Bool)(n0:Nat)(old new:q58):Sem q58 :=
 if s then pure (if qcA 10000 old new then new else if n0=0 then new else old)
 else choose wk>>=λn=>pure (if qcA 10000 old new then new else if n=0 then new else old)
theorem sr_plan{x x' y y':q58}(hx:VR ρ x x')(hy:VR ρ y y')(n0:Nat):SR Q P VR (qbl x y) ρ (kq (qcA 10000 x y) n0 x' y'):=by
 unfold qbl kq;by_cases hs:qcA 10000 x y=true
 ·rw[if_pos hs,if_pos hs]
  refine qd ?_;split
  ·exact hy
  ·split
   ·exact hy
   ·rw[<- q6q _ hs];exact hx
 ·rw[if_neg hs,if_neg hs]
  refine .bndE vz λσ n l=>?_;refine qd ?_;by_cases Z:qcA 10000 x' y'=true
  ·rw[if_pos Z]
   split
   ·exact hy.mono l
   ·rw[<- q6q _ Z];exact hx.mono l
  ·rw[if_neg Z]
   split
   ·exact hy.mono l
   ·exact hx.mono l
def But(d:Nat):qe0 α->qe0 α
 | .ok a u=>.ok a { u with drawn:=d }
 | .halt h u=>.halt h { u with drawn:=d }
omit [JunkSet] in
theorem YV(r:qe0 α):But (rwR r).drawn r=r:=by cases r<;>rfl
omit [JunkSet] in
theorem Y9(r:Nat)(o:Obj)(u:q3g)(d:Nat):(setObj r o).run P { u with drawn:=d }=But d ((setObj r o).run P u)/\∀es,(setObj r o).events P { u with drawn:=d } es=(setObj r o).events P u es:=by
 have e:setObj r o=Sem.setObj r o (.pure ()):=rfl;rw[e];refine⟨?_,λes=>?_⟩
 ·simp only[qbk]
  show(match u.heap[r]? with | some (.cells ..)=>_ | some _=>_ | none=>_)=But d (match u.heap[r]? with | some (.cells ..)=>_ | some _=>_ | none=>_);cases u.heap[r]? with
  | none=>rfl
  | some x=>cases x<;>rfl
 ·unfold Sem.events
  simp only[qe8];cases hh:u.heap[r]? with
  | none=>rfl
  | some x=>cases x<;>rfl
omit [JunkSet] in
theorem q9n{k v:q58}{r:Nat}{es:Array qdm}{clock:Nat}{s:Nat->Bool}{u:q3g}(x:Option (Nat × q58)) :
  ∃d,(jC k v r es clock (λi=>qbl (qZ es i k) k) x).run P u=But d ((jC k v r es clock (λi=>kq (s i) (wk.cut (u.tape u.drawn wk)) (qZ es i k) k) x).run P u) /\
   ∀es',(jC k v r es clock (λi=>qbl (qZ es i k) k) x).events P u es'=(jC k v r es clock (λi=>kq (s i) (wk.cut (u.tape u.drawn wk)) (qZ es i k) k) x).events P u es':=by
 cases x with
 | none=>exact⟨_,(YV _).symm,λ_=>rfl⟩
 | some x =>
  obtain⟨i,y⟩:=x;simp only[jC,qbB,qed];have Z:(choose wk).run P u=.ok (wk.cut (u.tape u.drawn wk)) { u with drawn:=u.drawn+1 }:=rfl;have a6:∀es',(choose wk).events P u es'=es':=λes'=>rfl;by_cases hb:qcA 10000 (qZ es i k) k=true
  ·have h1:(qbl (qZ es i k) k).run P u=.ok k u:=by unfold qbl;rw[if_pos hb];rfl
   have h2:∀es',(qbl (qZ es i k) k).events P u es'=es':=λes'=>by unfold qbl;rw[if_pos hb];rfl
   rw[h1];simp only[h2];cases hs:s i with
   | true =>
    have h3:(kq true (wk.cut (u.tape u.drawn wk)) (qZ es i k) k).run P u=.ok k u:=by unfold kq;rw[if_pos rfl,if_pos hb];rfl
    have h4:∀es',(kq true (wk.cut (u.tape u.drawn wk)) (qZ es i k) k).events P u es'=es':=λes'=>by unfold kq;rw[if_pos rfl];rfl
    rw[h3];refine⟨_,(YV _).symm,λes'=>?_⟩;rw[h4]
   | false =>
    have h3:(kq false (wk.cut (u.tape u.drawn wk)) (qZ es i k) k).run P u=.ok k { u with drawn:=u.drawn+1 }:=by
     unfold kq;rw[if_neg (by simp),qbB,Z];simp only[qbC,if_pos hb];rfl
    have h4:∀es',(kq false (wk.cut (u.tape u.drawn wk)) (qZ es i k) k).events P u es'=es':=λes'=>by
     unfold kq;rw[if_neg (by simp),qed,Z,a6];rfl
    rw[h3];simp only[h4,qbC,Result.evThen_ok];have:=Y9 (P:=P) r (.map (es.modify i λe=>{ e with key:=k,val:=v }) clock) { u with drawn:=u.drawn+1 } u.drawn;exact⟨u.drawn,this.1,λes'=>this.2 es'⟩
  ·have h1:(qbl (qZ es i k) k).run P u=.ok (if wk.cut (u.tape u.drawn wk)=0 then k else qZ es i k) { u with drawn:=u.drawn+1 }:=by
    unfold qbl;rw[if_neg hb,qbB];show((choose wk).run P u).andThen _=_;rw[Z];rfl
   have h2:∀es',(qbl (qZ es i k) k).events P u es'=es':=λes'=>by
    unfold qbl;rw[if_neg hb,qed];show((choose wk).run P u).evThen _ _=_;rw[Z,show(choose (.extern "map.whichKeyStays" 2)).events P u es'=es' from rfl];rfl
   rw[h1];simp only[h2];cases hs:s i with
   | true =>
    have h3:(kq true (wk.cut (u.tape u.drawn wk)) (qZ es i k) k).run P u=.ok (if wk.cut (u.tape u.drawn wk)=0 then k else qZ es i k) u:=by unfold kq;rw[if_pos rfl,if_neg hb];rfl
    have h4:∀es',(kq true (wk.cut (u.tape u.drawn wk)) (qZ es i k) k).events P u es'=es':=λes'=>by unfold kq;rw[if_pos rfl];rfl
    rw[h3];simp only[h4,qbC,Result.evThen_ok];have:=Y9 (P:=P) r (.map (es.modify i λe=>{ e with key:=if wk.cut (u.tape u.drawn wk)=0 then k else qZ es i k,val:=v }) clock) u (u.drawn+1);exact⟨u.drawn+1,this.1,λes'=>this.2 es'⟩
   | false =>
    have h3:(kq false (wk.cut (u.tape u.drawn wk)) (qZ es i k) k).run P u=.ok (if wk.cut (u.tape u.drawn wk)=0 then k else qZ es i k) { u with drawn:=u.drawn+1 }:=by
     unfold kq;rw[if_neg (by simp),qbB,Z];simp only[qbC,if_neg hb];rfl
    have h4:∀es',(kq false (wk.cut (u.tape u.drawn wk)) (qZ es i k) k).events P u es'=es':=λes'=>by
     unfold kq;rw[if_neg (by simp),qed,Z,a6];rfl
    rw[h3];refine⟨_,(YV _).symm,λes'=>?_⟩;rw[h4]
theorem KI(hT:P.toTables=Q.toTables)(hG:Gl P ρ){kt:q8u}(hB:eqB Q 6 kt=true){k k' v v':q58}(hk:VR ρ k k')(hv:VR ρ v v'){r j:Nat}(hb:BR ρ r j){es es':Array qdm}(he:LsR (yZ ρ) es.toList es'.toList)(clock n0:Nat) :
  SR Q P (λ_ _ _=>True) (ky kt k es>>=jC k v r es clock (λi=>qbl (qZ es i k) k)) ρ (ky kt k' es'>>=jC k' v' j es' clock (λi=>kq (qcA 10000 (qZ es i k) k) n0 (qZ es' i k') k')):=by
 have a6:SR Q P q1B (ky kt k es) ρ (ky kt k' es') :=
  .bnd (J2 hT _ 6 _ hB hk) λυ _ _ l1 _=>Y0 hT hB (hk.mono l1) (hG.mono l1) (he.imp λ_ _ x=>x.mono l1)
 refine .bnd a6 λω x x' l2 hr=>?_;have Z:=he.imp λ_ _ x=>yZ.mono l2 x;rcases hr with⟨rfl,rfl⟩ | ⟨i,y,y',rfl,rfl,hv2⟩
 ·refine jH (hb.mono l2) (.map _ ?_)
  simp only[Array.toList_push];exact Z.append (.cons ⟨hk.mono l2,hv.mono l2,rfl⟩ .nil)
 ·have a7:VR ω (qZ es i k) (qZ es' i k'):=by
   have:=Z.get i;simp only[Array.getElem?_toList] at this;unfold qZ;rcases this with⟨e1,e2⟩ | ⟨a,b,e1,e2,hab⟩
   ·rw[e1,e2];exact hk.mono l2
   ·rw[e1,e2];exact hab.key
  refine .bnd (sr_plan a7 (hk.mono l2) n0) λψ key b0 l3 a8=>?_;exact jH (hb.mono (l2.trans l3)) (.map _ (q3v (Z.imp λ_ _ x=>x.mono l3) i λe e' a9=>⟨a8,hv.mono (l2.trans l3),a9.born⟩))
theorem q2H(hT:P.toTables=Q.toTables)(hG:Gl P ρ){t:q8u}{base:Nat}{wq w:q3g}(hw:WR Q base ρ wq w){m m' k k' v v':q58}(hm:VR ρ m m')(hf:vM ((qbE t m k v).run Q wq)) :
  SR Q P (λ_ _ _=>True) (qbE t m k v) ρ (qbE t m' k' v') \/
   ∃r j kt et es es' clock,m=.map (some r)/\m'=.map (some j)/\BR ρ r j/\Q.underlying t=some (.map kt et)/\wq.heap[r]?=some (.map es clock)/\w.heap[j]?=some (.map es' clock)/\LsR (yZ ρ) es.toList es'.toList:=by
 by_cases Z:∃r j,m=.map (some r)/\m'=.map (some j)/\BR ρ r j
 ·obtain⟨r,j,rfl,rfl,hb⟩:=Z
  by_cases hu:∃kt et,Q.underlying t=some (.map kt et)
  ·obtain⟨kt,et,hu⟩:=hu
   right;have hlt:r<wq.heap.size:=by rw[<- hw.len];exact(q8w.1 hb).1
   have hbad:∀o,wq.heap[r]?=some o->(∀es c,o≠.map es c)->False:=λo ho hn=>by
    have h1:(qdg t).run Q wq=.ok (.map kt et) wq:=by
     show(match Q.underlying t with | some i=>(pure i:Sem TypeDesc) | none=>stuck "no such type").run Q wq=_;rw[hu];rfl
    unfold qbE at hf;rw[qbB,h1] at hf;simp only[qbC,qbB] at hf;have h2:(getObj r).run Q wq=.ok o wq\/∃s,(getObj r).run Q wq=.halt (.stuck s) wq:=by
     simp only[getObj,qbk,ho];cases o<;>first | exact .inl rfl | exact .inr ⟨_,rfl⟩
    rcases h2 with h2 | ⟨s,h2⟩
    ·rw[h2] at hf
     simp only[qbC] at hf;cases o<;>first | exact hn _ _ rfl | exact absurd hf (by intro h;cases h)
    ·rw[h2] at hf
     exact absurd hf (by intro h;cases h)
   cases ho:wq.heap[r]? with
   | none=>rw[Array.getElem?_eq_none_iff] at ho;omega
   | some o =>
    by_cases hn:∃es c,o=.map es c
    ·obtain⟨es,c,rfl⟩:=hn
     rcases hw.obj r j _ hb ho with⟨_,h2,_⟩ | ⟨_,o',h2,h3⟩
     ·cases h2
     ·cases h3 with
      | @map _ es' _ he=>exact⟨r,j,kt,et,es,es',c,rfl,rfl,hb,hu,ho,h2,he⟩
    ·exact(hbad o ho λes c e=>hn ⟨es,c,e⟩).elim
  ·left
   refine .bnd (qL hT t) λσ d d' l hd=>?_;obtain⟨rfl,hd⟩:=hd;cases d' with
   | map kt et=>exact absurd ⟨kt,et,hd⟩ hu
   | _=>exact qf
 ·left
  refine .bnd (qL hT t) λσ d d' l hd=>?_;obtain⟨rfl,hd⟩:=hd;cases d' with
  | map kt et =>
   cases hm with
   | mapNil=>exact qx hT (hG.mono l) _
   | map hb=>exact absurd ⟨_,_,rfl,rfl,hb⟩ Z
   | _=>exact qf
  | _=>exact qf
theorem q33{t kt et:q8u}(hB:Yr Q t=true)(hu:Q.underlying t=some (.map kt et)):eqB Q 6 kt=true:=by
 unfold Yr at hB;rw[hu] at hB;simp only[q9b] at hB;exact hB.1
theorem Zc(hT:P.toTables=Q.toTables)(hG:Gl P ρ){t:q8u}(hB:Yr Q t=true){m m' k k' v v':q58}(hm:VR ρ m m')(hk:VR ρ k k')(hv:VR ρ v v') :
  SM Q P (λ_ _ _=>True) (qbE t m k v) ρ (qbE t m' k' v'):=by
 intro base D wq w hb hw ht hd hf;rcases q2H hT hG hw hm hf with h | ⟨r,j,kt,et,es,es',clock,rfl,rfl,hbr,hu,hq,hp,he⟩
 ·exact h.sm hb hw ht hd hf
 ·have a8:P.underlying t=some (.map kt et):=by rw[kg hT];exact hu
  obtain⟨r1,_⟩:=yE (P:=Q) (t:=t) (k:=k) (v:=v) hu hq;obtain⟨r2,e2⟩:=yE (P:=P) (t:=t) (k:=k') (v:=v') a8 hp;rw[r1] at hd hf ⊢;rw[r2,e2]
  let n0:Nat:=match (ky kt k' es').run P w with | .ok _ u=>wk.cut (u.tape u.drawn wk) | .halt _ _=>0
  obtain⟨σ,wq1,w1,ev,h1,h2,h3,h4,_,h5,_⟩:=SR.runs (es:=#[⟨.obj j,false,false⟩]) (KI hT hG (q33 hB hu) hk hv hbr he clock n0) hb hw ht hd hf;have Z:∃d,(ky kt k' es'>>=jC k' v' j es' clock (λi=>qbl (qZ es' i k') k')).run P w=But d ((ky kt k' es'>>=jC k' v' j es' clock (λi=>kq (qcA 10000 (qZ es i k) k) n0 (qZ es' i k') k')).run P w) /\
    ∀a6,(ky kt k' es'>>=jC k' v' j es' clock (λi=>qbl (qZ es' i k') k')).events P w a6=(ky kt k' es'>>=jC k' v' j es' clock (λi=>kq (qcA 10000 (qZ es i k) k) n0 (qZ es' i k') k')).events P w a6:=by
   simp only[qbB,qed];have a7:n0=match (ky kt k' es').run P w with | .ok _ u=>wk.cut (u.tape u.drawn wk) | .halt _ _=>0:=rfl
   generalize (ky kt k' es').run P w=res at a7;cases res with
   | ok x u =>
    simp only[qbC,Result.evThen_ok];rw[a7];obtain⟨d,g1,g2⟩:=q9n (P:=P) (k:=k') (v:=v') (r:=j) (es:=es') (clock:=clock) (s:=λi=>qcA 10000 (qZ es i k) k) (u:=u) x;exact⟨d,g1,λa6=>g2 _⟩
   | halt x u=>exact⟨u.drawn,rfl,λ_=>rfl⟩
  obtain⟨d,b0,a9⟩:=Z;rw[b0,a9];refine⟨σ,wq1,{ w1 with drawn:=d },#[⟨.obj j,false,false⟩]++ev,?_,by unfold Sem.events;exact h2,?_,?_,?_⟩
  ·generalize qbk Q _ wq=x at h1
   generalize qbk P _ w=y at h1;cases h1 with
   | ok _ _ h=>exact .ok _ _ h
   | panic _ _ h=>exact .panic _ _ h
  ·intro e he
   rcases qdc.1 he with he | he
   ·simp only[qde,List.mem_singleton] at he
    subst he;refine .obj false (hbr.mono h5.le) (Nat.le_of_not_lt λhlt=>?_);obtain⟨c,e,f,h6,_⟩:=hw.low r hlt;rw[hq] at h6;cases h6
   ·exact h3 e he
  ·exact⟨h4.len,h4.nodup,h4.lt,h4.obj,h4.low,h4.env,h4.below,h4.gar⟩
  ·exact⟨h5.le,h5.tape,h5.os,h5.output,h5.size,h5.keep,h5.fresh,h5.mine⟩
theorem SM.u{s s':Sem Unit}(h:SM Q P (λ_ _ _=>True) s ρ s'):SM Q P zM (do s;pure .skip) ρ (do s';pure .skip):=by
 intro base D wq w hb hw ht hd hf;have e1:∀(p:q8b) (x:Sem Unit) (u:q3g),((do x;pure Next.skip:Sem qe4)).run p u=match x.run p u with | .ok _ u'=>.ok .skip u' | .halt h u'=>.halt h u':=λp x u=>by
  rw[qbB];cases x.run p u<;>rfl
 have e2:∀(p:q8b) (x:Sem Unit) (u:q3g),((do x;pure Next.skip:Sem qe4)).events p u #[]=x.events p u #[]:=λp x u=>by
  rw[qed];cases x.run p u<;>rfl
 rw[e1] at hd hf ⊢;have a6:(rwR (s.run Q wq)).drawn<=D:=by cases hx:s.run Q wq<;>(rw[hx] at hd;exact hd)
 have Z:vM (s.run Q wq):=by cases hx:s.run Q wq<;>(rw[hx] at hf;exact hf)
 obtain⟨σ,wq1,w1,ev,h1,h2,h3,h4,h5⟩:=h hb hw ht a6 Z;refine⟨σ,wq1,w1,ev,?_,by rw[e2];exact h2,h3,h4,h5⟩;rw[e1];generalize qbk Q _ wq=x at h1;generalize qbk P _ w=y at h1;cases h1 with
 | ok _ _ h=>exact .ok _ _ .skip
 | panic _ _ h=>exact .panic _ _ h
theorem KO(H:Pair Q P){e e':qaH->q58}(he:∀x,qF Q x->VR ρ (e x) (e' x))(hG:Gl P ρ)(hn:Inj ρ)(hc:∀v,e (.const v)=v){o:qbz}(ho:qK Q o.op):SM Q P zM (execOp e o) ρ (execOp e' o):=by
 cases hmu:isMap o.op with
 | false=>exact(KJ H he hG hn hc ho hmu).sm
 | true =>
  obtain⟨dst,op,ty,pos,after,guard⟩:=o;dsimp only at ho hmu;cases ho with
  | mapUpdate h1 h2 h3 h4=>exact SM.u (Zc H.tables hG h1 (he _ h2) (he _ h3) (he _ h4))
  | insert h1 h2 h3 h4=>exact SM.u (Zc H.tables hG h1 (he _ h2) (he _ h3) (he _ h4))
  | _=>cases hmu
end
end Go.Sim
end
section
namespace Go.Sim
structure Duo[JunkSet](Q P:q8b):Prop extends Pair Q P where
 codes:∀c,JunkSet.okc c↔qz Q c
 rfr:Q.follows .rangeFuncRecover=true
 bodies:∀f g,JunkSet.okf f->Q.funcs[f]?=some g->P.funcs[f]?=some g->∀c,g.body=some c->qz Q c
 inits:∀f,JunkSet.okf f->Q.inits.idxOf? f=none
 same:∀f,JunkSet.okg f↔(∃g,Q.funcs[f]?=some g/\P.funcs[f]?=some g)/\Q.inits.idxOf? f=none
def K5[JunkSet](Q P:q8b)(ρ:Ren)(g g':q5r):Prop :=
 (Q.funcs[g.frame.fn]?=P.funcs[g.frame.fn]?/\kH Q P ρ g g') \/
 ∃f k a a' c c' cs cs',Q.funcs[f]?≠P.funcs[f]?/\JunkSet.okf f/\g={ frame:=qan Q f a k,callers:=c::cs,status:=.running,dying:=none }/\g'={ frame:=qan P f a' k,callers:=c'::cs',status:=.running,dying:=none } /\
  AsR ρ a a'/\qu Q P ρ c c'/\LsR (qu Q P ρ) cs cs'/\(c.mode≠.run\/∀x l,c.todo≠.code x::l)
theorem K5.k[JunkSet]{Q P:q8b}{ρ:Ren}{g g':q5r}(h:kH Q P ρ g g'):K5 Q P ρ g g' :=
 .inl ⟨by obtain⟨x,h1,h2⟩:=h.frame.same;rw[h1,h2],h⟩
def kS[JunkSet](Q P:q8b)(base D:Nat)(ρ:Ren)(wq w:q3g)(r r':qcu):Prop :=
 ∀gq' wq' esq,r=.go gq' wq' esq->wq'.drawn<=D->gq'.status=.running->gq'.dying=none ->
  ∃σ g' w' es,r'=.go g' w' es/\K5 Q P σ gq' g'/\WR Q base σ wq' w'/\True/\Eff base ρ σ w w'/\(∀e∈es,kK base σ e)/\True/\wq.drawn<=wq'.drawn
section
variable[JunkSet]{Q P:q8b}(H:Duo Q P){ρ:Ren}{base D:Nat}{wq w:q3g}
theorem Duo.gsize(H:Duo Q P):P.globals.size=Q.globals.size:=by rw[H.tables]
theorem enterR(H:Duo Q P){f:qbe}(hf:JunkSet.okf f)(hs:Q.funcs[f]?=P.funcs[f]?){a a':Array q58}(ha:AsR ρ a a')(k:CallKind):qu Q P ρ (qan Q f a k) (qan P f a' k):=by
 obtain⟨fq,fp,h1,h2,h3,_⟩:=H.funcs f hf;have e:fp=fq:=by rw[h1,h2] at hs;exact(Option.some.inj hs).symm
 subst e;refine⟨rfl,⟨fp,h1,h2⟩,H.inits f hf,?_,?_,.nil,.run,rfl,.inl ⟨rfl,rfl⟩⟩
 ·unfold qan
  dsimp only;rw[h1,h2,<- ha.1];refine ha.append ⟨rfl,λi x y hx hy=>?_⟩;rw[Array.getElem?_replicate] at hx hy;split at hx
  ·rename_i hlt
   rw[if_pos hlt] at hy;cases hx;cases hy;exact kh ρ
  ·cases hx
 ·unfold qan
  dsimp only;rw[h1,h2];cases hb:fp.body with
  | none=>rw[hb] at h3;cases h3
  | some c=>simp only[Option.bind_some,hb,q88];exact .cons (.code (H.bodies f fp hf h1 h2 c hb)) .nil
theorem enterK(H:Duo Q P){f:qbe}(hf:JunkSet.okf f){a a':Array q58}(ha:AsR ρ a a'){c c':q8c}(hc:qu Q P ρ c c'){cs cs':List q8c}(hcs:LsR (qu Q P ρ) cs cs')(hm:c.mode≠.run\/∀x l,c.todo≠.code x::l)(k:CallKind):K5 Q P ρ { frame:=qan Q f a k,callers:=c::cs,status:=.running,dying:=none } { frame:=qan P f a' k,callers:=c'::cs',status:=.running,dying:=none }:=by
 by_cases hs:Q.funcs[f]?=P.funcs[f]?
 ·exact .k ⟨enterR H hf hs ha k,.cons hc hcs,rfl,rfl,rfl,rfl⟩
 ·exact .inr ⟨f,k,a,a',c,c',cs,cs',hs,hf,rfl,rfl,ha,hc,hcs,hm⟩
theorem roundR(H:Duo Q P){l l':Nat}{f:qbe}(hs:∃g,Q.funcs[f]?=some g/\P.funcs[f]?=some g)(hi:Q.inits.idxOf? f=none){t t':Array q58}{a b:qcm}(hb:BR ρ l l')(ht:AsR ρ t t')(ha:qz Q a)(hc:qz Q b)(k:CallKind) :
  qu Q P ρ (Frame.round l f t a b k) (Frame.round l' f t' a b k) :=
 ⟨rfl,hs,hi,ht,.cons (.code ha) (.cons .beginRound (.cons (.code hc) .nil)),.nil,.run,rfl,.inr ⟨l,l',rfl,rfl,hb⟩⟩
theorem ResR.world{α β:Type}{R:Rel α β}{r:qe0 α}{Z:q3g}{r':qe0 β}{w2:q3g}(h:ResR R ρ r Z r' w2):rwR r=Z:=by
 cases h<;>rfl
theorem z9(hw:WR Q base ρ wq w)(ht:zw D wq w){g g':q5r}(h:g.status=.running->g.dying=none->kH Q P ρ g g'):kS Q P base D ρ wq w (.go g wq) (.go g' w):=by
 intro gq' wq' esq e hD hs hd;cases e;exact⟨ρ,g',w,#[],rfl,.k (h hs hd),hw,trivial,.refl base w,by simp,trivial,q5m _⟩
theorem zy{o:Outcome}{u:q3g}{es:Array qbr}{r':qcu}:kS Q P base D ρ wq w (.ended o u es) r':=by
 intro _ _ _ e;cases e
theorem xF{f f':q8c}(hf:qu Q P ρ f f'):∀{cs cs':List q8c},LsR (qu Q P ρ) cs cs' ->
  (q9A f cs=none/\q9A f' cs'=none)\/∃v v' k k',q9A f cs=some (v,k)/\q9A f' cs'=some (v',k')/\VR ρ v v'/\LsR (qu Q P ρ) k k':=by
 intro cs cs' h;induction h generalizing f f' with
 | nil=>exact .inl ⟨by unfold q9A;split<;>simp_all,by unfold q9A;split<;>simp_all⟩
 | @cons c c' cs cs' hc hcs ih =>
  unfold q9A;rw[hf.kind];cases hk:f.kind with
  | deferred =>
   dsimp only;have hm:=hc.mode;cases hmc:c.mode with
   | run=>rw[hmc] at hm;cases hm':c'.mode<;>rw[hm'] at hm<;>cases hm;exact .inl ⟨rfl,rfl⟩
   | returning=>rw[hmc] at hm;cases hm':c'.mode<;>rw[hm'] at hm<;>cases hm;exact .inl ⟨rfl,rfl⟩
   | panicking l =>
    rw[hmc] at hm;cases hm':c'.mode with
    | run=>rw[hm'] at hm;cases hm
    | returning=>rw[hm'] at hm;cases hm
    | panicking l' =>
     rw[hm'] at hm;cases hm with
     | panicking hl =>
      cases hl with
      | nil=>exact .inl ⟨rfl,rfl⟩
      | @cons p p' l l' hp hl =>
       obtain⟨v,r,g⟩:=p;obtain⟨v',r',g'⟩:=p';obtain⟨h1,h2,h3⟩:=hp;dsimp only at h1 h2 h3;subst h2;subst h3;cases r'<;>cases g'<;>first
        | exact .inl ⟨rfl,rfl⟩
        | exact .inr ⟨v,v',_,_,rfl,rfl,h1,.cons ⟨hc.fn,hc.same,hc.okf,hc.tmps,hc.todo,hc.defers,.panicking (.cons ⟨h1,rfl,rfl⟩ hl),hc.kind,hc.round⟩ hcs⟩
  | wrapped =>
   dsimp only;rcases ih hc with⟨e1,e2⟩ | ⟨v,v',k,k',e1,e2,hv,hks⟩
   ·rw[e1,e2];exact .inl ⟨rfl,rfl⟩
   ·rw[e1,e2];exact .inr ⟨v,v',_,_,rfl,rfl,hv,.cons hc hks⟩
  | _=>exact .inl ⟨rfl,rfl⟩
theorem qY{p:q8b}{fr:q8c}{cs:List q8c}{m:String}{u u':q3g}{g:q5r}{es:Array qbr}(h:endFatal p fr cs none m u=.go g u' es):g.dying≠none:=by
 unfold endFatal at h;dsimp only at h;generalize (qbk p _ u:qe0 (List (ByteArray × String) × List ByteArray))=r at h;cases r with
 | ok a w1 =>
  obtain⟨t,Z⟩:=a;simp only[dieOf,qdz] at h;rw[<- h.1];simp
 | halt x w1=>cases x<;>simp at h
theorem zX{es:Array qbr}{s:qcu}{g:q5r}{u:q3g}{e:Array qbr}(h:qbf es s=.go g u e):∃e0,s=.go g u e0/\e=es++e0:=by
 cases s<;>simp only[qbf,qdz] at h<;>first | (obtain⟨rfl,rfl,rfl⟩:=h;exact⟨_,rfl,rfl⟩) | cases h
theorem SR.ends{α β:Type}{R:Rel α β}{s:Sem α}{s':Sem β}(hs:SR Q P R s ρ s')(hb:base<=ρ.length)(hw:WR Q base ρ wq w)(hf:vM (s.run Q wq)) :
  (∃a u,s.run Q wq=.ok a u)\/∃v u,s.run Q wq=.halt (.panic v) u:=by
 have a6:WR Q base ρ wq { w with tape:=λn q=>wq.tape (n - w.drawn+wq.drawn) q }:=⟨hw.len,hw.nodup,hw.lt,hw.obj,hw.low,hw.env,hw.below,hw.gar⟩
 obtain⟨σ,a7,w2,a8,Z,_⟩:=SR.runs (es:=#[]) (D:=(rwR (s.run Q wq)).drawn) hs hb a6 (λn q _=>by
  show wq.tape (wq.drawn+n) q=wq.tape (w.drawn+n - w.drawn+wq.drawn) q;rw[show w.drawn+n - w.drawn+wq.drawn=wq.drawn+n by omega]) (q5m _) hf
 generalize s.run Q wq=r at Z;generalize (qbk P s' _)=r' at Z;cases Z with
 | ok _ _ _=>exact .inl ⟨_,_,rfl⟩
 | panic _ _ _=>exact .inr ⟨_,_,rfl⟩
theorem SM.ends{α β:Type}{R:Rel α β}{s:Sem α}{s':Sem β}(hs:SM Q P R s ρ s')(hb:base<=ρ.length)(hw:WR Q base ρ wq w)(hf:vM (s.run Q wq)) :
  (∃a u,s.run Q wq=.ok a u)\/∃v u,s.run Q wq=.halt (.panic v) u:=by
 have a6:WR Q base ρ wq { w with tape:=λn q=>wq.tape (n - w.drawn+wq.drawn) q }:=⟨hw.len,hw.nodup,hw.lt,hw.obj,hw.low,hw.env,hw.below,hw.gar⟩
 obtain⟨σ,a7,w2,a8,Z,_⟩:=hs (D:=(rwR (s.run Q wq)).drawn) hb a6 (λn q _=>by
  show wq.tape (wq.drawn+n) q=wq.tape (w.drawn+n - w.drawn+wq.drawn) q;rw[show w.drawn+n - w.drawn+wq.drawn=wq.drawn+n by omega]) (q5m _) hf
 generalize s.run Q wq=r at Z;generalize (qbk P s' _)=r' at Z;cases Z with
 | ok _ _ _=>exact .inl ⟨_,_,rfl⟩
 | panic _ _ _=>exact .inr ⟨_,_,rfl⟩
theorem Qe(H:Duo Q P)(hb:base<=ρ.length)(hw:WR Q base ρ wq w)(ht:zw D wq w){f f':q8c}(hf:qu Q P ρ f f'){cs cs':List q8c}(hcs:LsR (qu Q P ρ) cs cs')
  (b9:∀x l,f.todo≠.code x::l) {s s':Sem qe4} (hs:SM Q P zM s ρ s'):kS Q P base D ρ wq w (qbn Q true f cs none s wq) (qbn P true f' cs' none s' w):=by
 intro gq' wq' esq a6 hD hst b8;have d8:(∀d r s k,f.todo≠.call d true r s::k)/\∀d r s k,f'.todo≠.call d true r s::k:=by
  have:=hf.todo;generalize f.todo=l at this;generalize f'.todo=l' at this;cases this with
  | nil=>exact⟨by simp,by simp⟩
  | cons hx _=>cases hx<;>exact⟨by simp,by simp⟩
 obtain⟨e7,e6⟩:=d8;unfold qbn at a6;simp only[if_true,qad] at a6;have b7:vM (s.run Q wq):=by
  cases hr:s.run Q wq with
  | ok a w1=>trivial
  | halt h w1 =>
   rw[hr] at a6;cases h with
   | panic v=>rfl
   | goexit=>rfl
   | unsupported u=>cases u<;>first | rfl | (simp[qbf] at a6;done)
   | blocked=>simp only[qbf,qdz] at a6;rw[<- a6.1] at hst;cases hst
   | waiting=>simp only[qbf,qdz] at a6;rw[<- a6.1] at hst;cases hst
   | throw m=>simp only[qbf,endThrow,dieOf,qdz] at a6;rw[<- a6.1] at b8;cases b8
   | fatal m =>
    obtain⟨e0,h0,_⟩:=zX a6;exact absurd b8 (qY h0)
   | _=>(simp[qbf] at a6;done)
 obtain⟨e0,h0,_⟩:=zX a6;have e8:∀{fr:q8c} {u:q3g},(GStep.go { frame:=fr,callers:=cs,status:=.running,dying:=none } u:qcu)=.go gq' wq' e0->u=wq':=λh=>by cases h;rfl
 have e5:(rwR (s.run Q wq)).drawn<=D:=by
  cases hr:s.run Q wq with
  | ok a w1 =>
   rw[hr] at h0;have:w1=wq':=by
    cases a with
    | recover =>
     dsimp only at h0
     repeat' split at h0
     all_goals(cases h0;rfl)
    | callThen d r v b =>
     dsimp only at h0
     repeat' split at h0
     all_goals(cases h0;rfl)
    | row r a =>
     dsimp only at h0
     repeat' split at h0
     all_goals(cases h0;rfl)
    | stack r a =>
     dsimp only at h0
     repeat' split at h0
     all_goals(cases h0;rfl)
    | spawn d =>
     exfalso;dsimp only at h0
     repeat' split at h0
     all_goals first
      | (simp only[endThrow,dieOf,qdz] at h0;rw[<- h0.1] at b8;cases b8;done)
      | (cases h0;done)
    | _=>first | (cases h0;rfl) | cases h0
   subst this;exact hD
  | halt h w1 =>
   rcases hs.ends hb hw b7 with⟨a,u,e⟩ | ⟨v,u,e⟩
   ·rw[hr] at e;cases e
   ·rw[hr] at e;cases e
    rw[hr] at h0;cases h0;exact hD
 obtain⟨σ,b6,w2,a7,b0,hes,e4,d7,c9⟩:=hs hb hw ht e5 b7;have hL:=c9.le;have d9:wq.drawn<=b6.drawn:=b0.world ▸ vB Q s wq;have a9:LsR (qu Q P σ) cs cs':=hcs.imp λ_ _ k=>k.mono hL;have Z:=hf.mono hL;have c3:s'.events P w #[]=a7:=hes;have d6:(f'.kind == CallKind.early)=(f.kind == CallKind.early):=by rw[hf.kind]
 have a8:∀(es:Array qbr),(es=#[]\/es=a7)->∀e∈seen P f'.fn (if(f'.kind == CallKind.early)=true then #[] else es),e∈a7:=by
  intro es he e hx;have:=km _ _ _ e hx;split at this
  ·simp at this
  ·rcases he with rfl | rfl
   ·simp at this
   ·exact this
 have fin:∀{g g':q5r} {es:Array qbr} {r':qcu},r'=.go g' w2 es->(∀e∈es,e∈a7)->g=gq'->b6=wq'->(gq'.status=.running->K5 Q P σ g g') ->
   ∃σ g'' w' es',r'=.go g'' w' es'/\K5 Q P σ gq' g''/\WR Q base σ wq' w'/\True/\Eff base ρ σ w w'/\(∀e∈es',kK base σ e)/\True/\wq.drawn<=wq'.drawn:=by
  intro g g' es r' e0 c8 e1 e2 hg;subst e1;subst e2;exact⟨σ,g',w2,es,e0,hg hst,d7,trivial,c9,λe he=>e4 e (c8 e he),trivial,d9⟩
 unfold qbn;simp only[if_true,qad];rw[c3];generalize hr:s.run Q wq=r at h0 b0;generalize hr':s'.run P w=r' at b0;cases b0 with
 | ok b6 w2 hN =>
  cases hN with
  | value hv =>
   cases h0;exact fin rfl (by simpa using a8 a7 (.inr rfl)) rfl rfl λ_=>.k ⟨Z.finish hv,a9,rfl,rfl,rfl,rfl⟩
  | skip =>
   cases h0;exact fin rfl (by simpa using a8 a7 (.inr rfl)) rfl rfl λ_=>.k ⟨Z.finish (kh σ),a9,rfl,rfl,rfl,rfl⟩
  | @enter fn a a' hok ha =>
   cases h0;refine fin rfl (by simpa using a8 a7 (.inr rfl)) rfl rfl λ_=>enterK H hok ha Z a9 (.inr b9) _
  | round fn hb1 ht1 hsm ha hc =>
   cases h0;refine fin rfl (by simpa using a8 a7 (.inr rfl)) rfl rfl λ_=>.k ⟨?_,.cons Z a9,rfl,rfl,rfl,rfl⟩;exact roundR H ((H.same _).1 hsm).1 ((H.same _).1 hsm).2 hb1 ht1 ((H.codes _).1 ha) ((H.codes _).1 hc) _
  | defer hd =>
   cases h0;exact fin rfl (by simpa using a8 a7 (.inr rfl)) rfl rfl λ_=>.k ⟨qu.finish (f:={ f with defers:=_::f.defers }) (f':={ f' with defers:=_::f'.defers }) ⟨Z.fn,Z.same,Z.okf,Z.tmps,Z.todo,.cons hd Z.defers,Z.mode,Z.kind,Z.round⟩ (kh σ),a9,rfl,rfl,rfl,rfl⟩
  | recover =>
   have hrf:P.follows .rangeFuncRecover=true:=by
    have:P.toTables.follows .rangeFuncRecover=Q.toTables.follows .rangeFuncRecover:=by rw[H.tables]
    exact this.trans H.rfr
   have key:∀{X X':Option (q58 × List q8c)},X=q9A f cs->X'=q9A f' cs' ->
     (match X with
      | some (v,callers)=>GStep.go { frame:=f.finish v,callers,status:=.running,dying:=none } b6
      | none=>.go { frame:=f.finish .nilIface,callers:=cs,status:=.running,dying:=none } b6)=.go gq' wq' e0 ->
     ∃σ g'' w' es',qbf (seen P f'.fn (if(f'.kind == CallKind.early)=true then #[] else a7)) (match X' with
      | some (v,callers)=>GStep.go { frame:=f'.finish v,callers,status:=.running,dying:=none } w2
      | none=>.go { frame:=f'.finish .nilIface,callers:=cs',status:=.running,dying:=none } w2)=.go g'' w' es'/\K5 Q P σ gq' g''/\WR Q base σ wq' w'/\True/\Eff base ρ σ w w'/\(∀e∈es',kK base σ e)/\True/\wq.drawn<=wq'.drawn:=by
    intro X X' hX d5 h0;rcases xF Z a9 with⟨t1,t2⟩ | ⟨v,v',k,k',t1,t2,hv,hks⟩
    ·rw[hX,t1] at h0
     rw[d5,t2];cases h0;exact fin rfl (by simpa using a8 a7 (.inr rfl)) rfl rfl λ_=>.k ⟨Z.finish .nilIface,a9,rfl,rfl,rfl,rfl⟩
    ·rw[hX,t1] at h0
     rw[d5,t2];cases h0;exact fin rfl (by simpa using a8 a7 (.inr rfl)) rfl rfl λ_=>.k ⟨Z.finish hv,hks,rfl,rfl,rfl,rfl⟩
   dsimp only at h0 ⊢;rcases Z.round with⟨r1,r2⟩ | ⟨i,j,r1,r2,_⟩
   ·rw[r1] at h0
    rw[r2];exact key rfl rfl h0
   ·rw[r1] at h0
    rw[r2];exact key (by simp[H.rfr]) (by simp[hrf]) h0
 | panic b6 w2 hv =>
  cases h0;exact fin rfl (by simpa using a8 a7 (.inr rfl)) rfl rfl λ_=>.k ⟨Z.raise (.cons ⟨hv,rfl,rfl⟩ .nil),a9,rfl,rfl,rfl,rfl⟩
end
end Go.Sim
end
section
namespace Go.Sim
section
variable[JunkSet]{Q P:q8b}{ρ:Ren}{base D:Nat}{wq w:q3g}
def ku:Target->Bool
 | .nil=>true
 | _=>false
def kr:FrameMode->Bool
 | .panicking _=>true
 | _=>false
theorem q10(H:Duo Q P)(hb:base<=ρ.length)(hw:WR Q base ρ wq w)(hG:Gl P ρ)(ht:zw D wq w){f f':q8c}(hf:qu Q P ρ f f'){cs cs':List q8c}(hcs:LsR (qu Q P ρ) cs cs')
  (c9:f.mode≠.run) {d d':qc3} (hd:yO ρ d d'):kS Q P base D ρ wq w (qc6 Q f cs none d wq) (qc6 P f' cs' none d' w):=by
 intro gq' wq' esq a8 hD hst c3;have hs:SR Q P zM (invoke d.target d.args) ρ (invoke d'.target d'.args):=vx H.toPair hG hd;unfold qc6 at a8 ⊢;have c8:(ku d'.target && kr f'.mode)=(ku d.target && kr f.mode):=by
  have h2:=hf.mode;rcases hd with⟨h1,_⟩ | ⟨h1,_,n,c,h3⟩
  case bound=>rw[h1,h3];rfl
  generalize d.target=t at h1;generalize d'.target=t' at h1;generalize f.mode=m at h2;generalize f'.mode=m' at h2;cases h1<;>cases h2<;>rfl
 generalize invoke d.target d.args=s at hs a8;generalize invoke d'.target d'.args=s' at hs ⊢;change (if(ku d.target && kr f.mode)=true then _ else _)=_ at a8;show ∃σ g' w' es,(if(ku d'.target && kr f'.mode)=true then _ else _)=GStep.go g' w' es/\_;by_cases hc:(ku d.target && kr f.mode)=true
 ·rw[if_pos hc] at a8
  cases a8
 ·rw[if_neg hc] at a8
  rw[if_neg (by rw[c8];exact hc)];simp only[qad] at a8 ⊢;obtain⟨e0,h0,_⟩:=zX a8;have b8:vM (s.run Q wq):=by
   cases hr:s.run Q wq with
   | ok a w1=>trivial
   | halt h w1 =>
    rw[hr] at h0;cases h with
    | panic v=>rfl
    | goexit=>rfl
    | unsupported u=>cases u<;>first | rfl | (cases h0;done)
    | blocked=>cases h0;cases hst
    | waiting=>cases h0;cases hst
    | throw m=>simp only[endThrow,dieOf,qdz] at h0;rw[<- h0.1] at c3;cases c3
    | fatal m=>exact absurd c3 (qY h0)
    | _=>(cases h0;done)
  have e5:(rwR (s.run Q wq)).drawn<=D:=by
   cases hr:s.run Q wq with
   | ok a w1 =>
    rw[hr] at h0;have:w1=wq':=by
     cases a with
     | recover =>
      dsimp only at h0
      repeat' split at h0
      all_goals(cases h0;rfl)
     | coroswitch c e=>cases e<;>cases h0
     | alone on v=>cases on<;>cases h0
     | _=>first | (cases h0;rfl) | cases h0
    subst this;exact hD
   | halt h w1 =>
    rcases hs.ends hb hw b8 with⟨a,u,e⟩ | ⟨v,u,e⟩
    ·rw[hr] at e;cases e
    ·rw[hr] at e;cases e
     rw[hr] at h0;cases h0;exact hD
  obtain⟨σ,b7,w2,b6,b0,hes,e4,d8,e7,d7,e8⟩:=SR.runs (es:=#[]) hs hb hw ht e5 b8;have hL:=d7.le;have d9:wq.drawn<=b7.drawn:=b0.world ▸ vB Q s wq;have a6:LsR (qu Q P σ) cs cs':=hcs.imp λ_ _ k=>k.mono hL;have a7:=hf.mono hL;have d5:s'.events P w #[]=b6:=by
   show(s'.runT P w #[]).2=b6;rw[hes];simp
  have Z:∀e∈seen P f'.fn b6,e∈b6:=λe he=>km _ _ _ e he;have fin:∀{g g':q5r} {es:Array qbr} {r':qcu},r'=.go g' w2 es->(∀e∈es,e∈b6)->g=gq'->b7=wq'->(gq'.status=.running->K5 Q P σ g g') ->
    ∃σ g'' w' es',r'=.go g'' w' es'/\K5 Q P σ gq' g''/\WR Q base σ wq' w'/\True/\Eff base ρ σ w w'/\(∀e∈es',kK base σ e)/\True/\wq.drawn<=wq'.drawn:=by
   intro g g' es r' e0 d6 e1 e2 hg;subst e1;subst e2;exact⟨σ,g',w2,es,e0,hg hst,d8,trivial,d7,λe he=>e4 e (d6 e he),trivial,d9⟩
  rw[d5];generalize hr:s.run Q wq=r at h0 b0;generalize hr':s'.run P w=r' at b0;cases b0 with
  | ok b7 w2 hN =>
   cases hN with
   | value hv =>
    cases h0;exact fin rfl (by simpa using Z) rfl rfl λ_=>.k ⟨a7,a6,rfl,rfl,rfl,rfl⟩
   | skip =>
    cases h0;exact fin rfl (by simpa using Z) rfl rfl λ_=>.k ⟨a7,a6,rfl,rfl,rfl,rfl⟩
   | @enter fn a a' hok ha =>
    cases h0;exact fin rfl (by simpa using Z) rfl rfl λ_=>enterK H hok ha a7 a6 (.inl c9) _
   | round fn hb1 ht1 hsm ha hc =>
    cases h0;exact fin rfl (by simpa using Z) rfl rfl λ_=>.k ⟨roundR H ((H.same _).1 hsm).1 ((H.same _).1 hsm).2 hb1 ht1 ((H.codes _).1 ha) ((H.codes _).1 hc) _,.cons a7 a6,rfl,rfl,rfl,rfl⟩
   | defer hd =>
    cases h0;exact fin rfl (by simpa using Z) rfl rfl λ_=>.k ⟨a7,a6,rfl,rfl,rfl,rfl⟩
   | recover =>
    have hm:=a7.mode;have b9:=xF a7 a6;dsimp only at h0 ⊢;generalize q9A f cs=X at h0 b9;generalize q9A f' cs'=X' at b9 ⊢;generalize hmm:f.mode=m at h0 hm;generalize e6:f'.mode=m' at hm ⊢;have a9:GStep.go { frame:=f,callers:=cs,status:=.running,dying:=none } b7=.go gq' wq' e0->∀{r':qcu},r'=qbf (seen P f'.fn b6) (.go { frame:=f',callers:=cs',status:=.running,dying:=none } w2) ->
      ∃σ g'' w' es',r'=.go g'' w' es'/\K5 Q P σ gq' g''/\WR Q base σ wq' w'/\True/\Eff base ρ σ w w'/\(∀e∈es',kK base σ e)/\True/\wq.drawn<=wq'.drawn:=by
     intro h r' hr';cases h;exact fin hr' (by simpa using Z) rfl rfl λ_=>.k ⟨a7,a6,rfl,rfl,rfl,rfl⟩
    cases hm with
    | returning =>
     rcases b9 with⟨rfl,rfl⟩ | ⟨v,v',k,k',rfl,rfl,hv,hks⟩
     ·exact a9 h0 rfl
     ·cases h0
      exact fin rfl (by simpa using Z) rfl rfl λ_=>.k ⟨a7,hks,rfl,rfl,rfl,rfl⟩
    | run=>exact a9 h0 rfl
    | panicking hl=>exact a9 h0 rfl
  | panic b7 w2 hv =>
   cases h0;exact fin rfl (by simpa using Z) rfl rfl λ_=>.k ⟨a7.raise (.cons ⟨hv,rfl,rfl⟩ .nil),a6,rfl,rfl,rfl,rfl⟩
theorem Zd{α β:Type}{R:Rel α β}(hb:base<=ρ.length)(hw:WR Q base ρ wq w)(ht:zw D wq w)(d8:wq.drawn<=D){s:Sem α}{s':Sem β}(hs:SR Q P R s ρ s')(b0:(rwR (s.run Q wq)).drawn=wq.drawn)
  {K:qe0 α->qcu} {K':qe0 β->qcu} {fn c3:qbe}
  (hbad:∀h u g u' e,odd h=false->K (.halt h u)=.go g u' e->g.status=.running->g.dying=none->False)
  (hK:∀σ r wq1 r' w1,ResR R σ r wq1 r' w1->Le ρ σ->base<=σ.length->WR Q base σ wq1 w1->zw D wq1 w1->wq1.drawn<=D->kS Q P base D σ wq1 w1 (K r) (K' r')) :
  kS Q P base D ρ wq w (qbf (seen Q fn (s.events Q wq #[])) (K (s.run Q wq))) (qbf (seen P c3 (s'.events P w #[])) (K' (s'.run P w))):=by
 intro gq' wq' esq d6 hD hst b9;obtain⟨e0,h0,_⟩:=zX d6;have a7:vM (s.run Q wq):=by
  cases hr:s.run Q wq with
  | ok a w1=>trivial
  | halt h w1 =>
   rw[hr] at h0;cases ho:odd h with
   | true=>exact ho
   | false=>exact(hbad h w1 _ _ _ ho h0 hst b9).elim
 obtain⟨σ,a9,w2,a8,Z,hes,d7,c9,d5,b8,e7⟩:=SR.runs (es:=#[]) hs hb hw ht (by rw[b0];exact d8) a7;have hL:=b8.le;have e5:a9.drawn=wq.drawn:=by rw[<- Z.world];exact b0
 have b7:s'.events P w #[]=a8:=by
  show(s'.runT P w #[]).2=a8;rw[hes];simp
 obtain⟨τ,g',w',es',e1,hg,c8,e6,a6,b6,e4,d9⟩:=hK σ _ a9 _ w2 Z hL (q87 hb hL.len) c9 d5 (by omega) gq' wq' e0 h0 hD hst b9;refine⟨τ,g',w',seen P c3 a8++es',?_,hg,c8,trivial,b8.trans hb a6,?_,trivial,by omega⟩
 ·rw[b7,e1]
  rfl
 ·intro e he
  rcases qdc.1 he with he | he
  ·exact(d7 e (km _ _ _ e he)).mono a6.le
  ·exact b6 e he
theorem Ze(hw:WR Q base ρ wq w)(ht:zw D wq w){f f':q8c}(hf:qu Q P ρ f f'){cs cs':List q8c}(hcs:LsR (qu Q P ρ) cs cs'){v v':q58}(hv:VR ρ v v')(b:Bool) :
  kS Q P base D ρ wq w (qc9 Q true f cs none v wq) (qc9 P b f' cs' none v' w):=by
 cases hcs with
 | nil =>
  intro gq' wq' esq a6 hD hst a7;unfold qc9 at a6;simp only[hf.okf] at a6;cases hk:f.kind<;>rw[hk] at a6<;>cases a6
 | @cons c c' cs cs' hc hcs =>
  unfold qc9;dsimp only;rw[hf.kind];have plain:kS Q P base D ρ wq w (.go { frame:=c.finish v,callers:=cs,status:=.running,dying:=none } wq) (.go { frame:=c'.finish v',callers:=cs',status:=.running,dying:=none } w) :=
   z9 hw ht λ_ _=>⟨hc.finish hv,hcs,rfl,rfl,rfl,rfl⟩
  cases f.kind with
  | normal=>exact plain
  | wrapped=>exact plain
  | early=>exact z9 hw ht λ_ _=>⟨hc,hcs,rfl,rfl,rfl,rfl⟩
  | deferred =>
   refine z9 hw ht λ_ _=>⟨?_,hcs,rfl,rfl,rfl,rfl⟩
   dsimp only;have hm:=hc.mode;have Z:∀{l l':List PanicEntry},LsR (Zw ρ) l l'->LsR (Zw ρ) (l.dropWhile (!·.goexit)) (l'.dropWhile (!·.goexit)):=by
    intro l l' h;induction h with
    | nil=>exact .nil
    | @cons p p' l l' hp hl ih =>
     simp only[List.dropWhile_cons];rw[hp.goexit];split
     ·exact ih
     ·exact .cons hp hl
   cases hmc:c.mode with
   | run=>rw[hmc] at hm;cases hm':c'.mode<;>rw[hm'] at hm<;>cases hm;exact hc
   | returning=>rw[hmc] at hm;cases hm':c'.mode<;>rw[hm'] at hm<;>cases hm;exact hc
   | panicking l =>
    rw[hmc] at hm;cases hm':c'.mode with
    | run=>rw[hm'] at hm;cases hm
    | returning=>rw[hm'] at hm;cases hm
    | panicking l' =>
     rw[hm'] at hm;cases hm with
     | panicking hl =>
      cases hl with
      | nil=>exact hc
      | @cons p p' l l' hp hl =>
       obtain⟨v,r,g⟩:=p;obtain⟨v',r',g'⟩:=p';obtain⟨h1,h2,h3⟩:=hp;dsimp only at h1 h2 h3;subst h2;cases r' with
       | false=>exact hc
       | true =>
        dsimp only;have:=Z hl;generalize l.dropWhile (!·.goexit)=k at this;generalize l'.dropWhile (!·.goexit)=k' at this;cases this with
        | nil=>exact⟨hc.fn,hc.same,hc.okf,hc.tmps,hc.todo,hc.defers,.returning,hc.kind,hc.round⟩
        | cons hp hl=>exact⟨hc.fn,hc.same,hc.okf,hc.tmps,hc.todo,hc.defers,.panicking (.cons hp hl),hc.kind,hc.round⟩
  | report =>
   refine z9 hw ht λ_ _=>⟨?_,hcs,rfl,rfl,rfl,rfl⟩
   dsimp only;have hm:=hc.mode;have Z:∀{l l':List PanicEntry},LsR (Zw ρ) l l'->LsR (Zw ρ) (l.dropWhile (!·.goexit)) (l'.dropWhile (!·.goexit)):=by
    intro l l' h;induction h with
    | nil=>exact .nil
    | @cons p p' l l' hp hl ih =>
     simp only[List.dropWhile_cons];rw[hp.goexit];split
     ·exact ih
     ·exact .cons hp hl
   cases hmc:c.mode with
   | run=>rw[hmc] at hm;cases hm':c'.mode<;>rw[hm'] at hm<;>cases hm;exact hc
   | returning=>rw[hmc] at hm;cases hm':c'.mode<;>rw[hm'] at hm<;>cases hm;exact hc
   | panicking l =>
    rw[hmc] at hm;cases hm':c'.mode with
    | run=>rw[hm'] at hm;cases hm
    | returning=>rw[hm'] at hm;cases hm
    | panicking l' =>
     rw[hm'] at hm;cases hm with
     | panicking hl =>
      cases hl with
      | nil=>exact hc
      | @cons p p' l l' hp hl =>
       obtain⟨v,r,g⟩:=p;obtain⟨v',r',g'⟩:=p';obtain⟨h1,h2,h3⟩:=hp;dsimp only at h1 h2 h3;subst h2;cases r' with
       | false=>exact hc
       | true =>
        dsimp only;have:=Z hl;generalize l.dropWhile (!·.goexit)=k at this;generalize l'.dropWhile (!·.goexit)=k' at this;cases this with
        | nil=>exact⟨hc.fn,hc.same,hc.okf,hc.tmps,hc.todo,hc.defers,.returning,hc.kind,hc.round⟩
        | cons hp hl=>exact⟨hc.fn,hc.same,hc.okf,hc.tmps,hc.todo,hc.defers,.panicking (.cons hp hl),hc.kind,hc.round⟩
theorem QJ(H:Duo Q P)(hG:Gl P ρ)(fn:Func){t t':Array q58}(h:AsR ρ t t'):SR Q P VR (results fn t) ρ (results fn t'):=by
 unfold results;refine .bnd (R:=AsR) ?_ λσ a b l hab=>?_
 ·rw[qdu,qdu]
  have Z:∀(rs:List ResultVar) (σ:Ren),Le ρ σ->SR Q P (λτ=>LsR (VR τ)) (rs.mapM fun
    | .tmp x=>pure (t.getD x q5s)
    | .cell a ty=>do loadVar ty (<- asAddr (t.getD a q5s))) σ (rs.mapM fun
    | .tmp x=>pure (t'.getD x q5s)
    | .cell a ty=>do loadVar ty (<- asAddr (t'.getD a q5s))):=by
   intro rs;induction rs with
   | nil=>intro σ l;exact qd .nil
   | cons r rs ih =>
    intro σ l;rw[qey,qey];refine .bnd (R:=VR) ?_ λτ x y l' hxy=>.bnd (ih τ (l.trans l')) λυ a b l2 hab=>qd (.cons (hxy.mono l2) hab);cases r with
    | tmp x=>exact qd ((h.mono l).getD x (kh σ))
    | cell a ty=>exact .bnd (KM H.tables (hG.mono l) ((h.mono l).getD a (kh σ))) λυ x y _ hxy=>by obtain⟨i,j,o,s,rfl,rfl,hb⟩:=hxy;exact JX H.tables hb
  exact SR.bnd (S:=AsR) (f:=λl=>pure l.toArray) (f':=λl=>pure l.toArray) (Z fn.results.toList ρ (.refl ρ)) λσ a b l hab=>qd (zf.2 (by simpa using hab))
 ·refine qd ?_
  have hs:=hab.1;split
  ·rename_i h1
   rw[dif_pos (by omega)];exact hab.2 0 _ _ (q9w _) (q9w _)
  ·rename_i h1
   rw[dif_neg (by omega)];exact hab.tuple
def Dry{α:Type}:Sem α->Prop
 | .pure _=>True
 | .load _ _ k=>∀v,Dry (k v)
 | .store _ _ _ k=>Dry k
 | .new _ k=>∀r,Dry (k r)
 | .shape _ k=>∀x,Dry (k x)
 | .freeze _ _ k=>Dry k
 | .frozen _ k=>∀b,Dry (k b)
 | .getObj _ k=>∀o,Dry (k o)
 | .setObj _ _ k=>Dry k
 | .choose _ _=>False
 | .sys _ _=>False
 | .program k=>∀p,Dry (k p)
 | .mark _ k=>Dry k
 | .halt _=>True
theorem Dry.bind{α γ:Type}{s:Sem α}{f:α->Sem γ}(h:Dry s)(hf:∀a,Dry (f a)):Dry (s>>=f):=by
 show Dry (s.bind f);induction s with
 | pure a=>exact hf a
 | load m a k ih=>exact λv=>ih v (h v)
 | store m a v k ih=>exact ih h
 | new o k ih=>exact λv=>ih v (h v)
 | shape r k ih=>exact λv=>ih v (h v)
 | freeze a n k ih=>exact ih h
 | frozen a k ih=>exact λv=>ih v (h v)
 | getObj r k ih=>exact λv=>ih v (h v)
 | setObj r o k ih=>exact ih h
 | choose q k ih=>exact h.elim
 | sys c k ih=>exact h.elim
 | program k ih=>exact λp=>ih p (h p)
 | mark m k ih=>exact ih h
 | halt x=>trivial
theorem Dry.run{α:Type}(p:q8b){s:Sem α}:∀{w:q3g},Dry s->(rwR (s.run p w)).drawn=w.drawn:=by
 induction s with
 | pure a=>intro w h;rfl
 | load m a k ih =>
  intro w h;simp only[qbk];split
  ·exact ih _ (h _)
  ·split
   ·exact ih _ (h _)
   ·rfl
 | store m a v k ih =>
  intro w h;have key:(rwR (match w.cell? a with
     | some _=>if w.frozen? a then(.halt (.unsupported (.unsafePointer "a write to bytes that a string shares")) w:qe0 α) else k.run p (w.setCell a v)
     | none=>match w.farStore p a v (m == .atomic) with
      | .ok (w,_)=>k.run p w
      | .error h=>.halt h w)).drawn=w.drawn:=by
   split
   ·split
    ·rfl
    ·exact ih (w:=w.setCell a v) h
   ·split
    ·rename_i w' t e
     rw[ih h];unfold qek at e;split at e
     ·split at e
      ·rename_i r hr
       cases e;exact xq _ _ _ _ _ _ _ hr
      ·cases e
     ·cases e
    ·rfl
  cases v<;>first | exact key | rfl
 | new o k ih=>intro w h;exact ih _ (w:={ w with heap:=w.heap.push o }) (h _)
 | shape r k ih=>intro w h;exact ih _ (h _)
 | freeze a n k ih =>
  intro w h;refine(ih (w:=w.freeze a n) h).trans ?_;unfold World.freeze;split<;>rfl
 | frozen a k ih=>intro w h;exact ih _ (h _)
 | getObj r k ih =>
  intro w h;simp only[qbk];cases ho:w.heap[r]? with
  | none=>rfl
  | some o=>cases o<;>first | exact ih _ (h _) | rfl
 | setObj r o k ih =>
  intro w h;simp only[qbk];cases ho:w.heap[r]? with
  | none=>rfl
  | some ob=>cases ob<;>first | exact ih (w:={ w with heap:=w.heap.setIfInBounds r o }) h | rfl
 | choose q k ih=>intro w h;exact h.elim
 | sys c k ih=>intro w h;exact h.elim
 | program k ih=>intro w h;exact ih _ (h _)
 | mark m k ih=>intro w h;exact ih h
 | halt x=>intro w h;rfl
end
end Go.Sim
end
section
namespace Go.Sim
section
variable[JunkSet]{Q P:q8b}{ρ:Ren}{base D:Nat}{wq w:q3g}
theorem YN(t:q8u):Dry (qdg t):=λp=>by
 show Dry (match p.underlying t with | some d=>pure d | none=>stuck "no such type");split<;>trivial
theorem q1l(t:q8u):Dry (qdD t):=λp=>by
 show Dry (match p.info? t with | some d=>pure d | none=>stuck "no such type");split<;>trivial
theorem Zq(a:qb9):∀(n i:Nat) (Z:Array q58),Dry (loadCellsFrom a i n Z):=by
 intro n;induction n with
 | zero=>intro i Z;trivial
 | succ n ih=>intro i Z;exact λv=>ih _ _
theorem q3w(t:q8u)(a:qb9):Dry (loadVar t a):=by
 refine Dry.bind (Dry.bind (YN t) λd=>?_) λb=>?_
 ·split<;>trivial
 ·split
  ·exact Dry.bind (Dry.bind (q1l t) λi=>trivial) λn=>Dry.bind (Zq _ _ _ _) λ_=>trivial
  ·exact λv=>trivial
theorem q5f(v:q58):Dry (asAddr v):=by
 unfold asAddr;split
 ·trivial
 ·exact λp=>trivial
 ·trivial
theorem Ji(fn:Func)(t:Array q58):Dry (results fn t):=by
 unfold results;refine Dry.bind ?_ λvs=>trivial;rw[qdu];have Z:∀rs:List ResultVar,Dry (rs.mapM fun
    | .tmp x=>pure (t.getD x q5s)
    | .cell a ty=>do loadVar ty (<- asAddr (t.getD a q5s))):=by
  intro rs;induction rs with
  | nil=>trivial
  | cons r rs ih =>
   rw[qey];refine Dry.bind ?_ λv=>Dry.bind ih λvs=>trivial;cases r with
   | tmp x=>trivial
   | cell a ty=>exact Dry.bind (q5f _) λa=>q3w _ _
 exact Dry.bind (f:=λl=>pure l.toArray) (Z _) λl=>trivial
theorem Q1(l:Nat):Dry (Instr.getLoop l):=λo=>by cases o<;>trivial
theorem qam(b:Nat):Dry (Instr.takeDeferred b):=λo=>by
 cases o with
 | deferred c=>cases c<;>trivial
 | _=>trivial
theorem q1m(l:Nat)(j:Option qcm):Dry (qcH l j):=Dry.bind (Q1 l) λr=>trivial
theorem q3x(l:Nat):Dry (Instr.endLoop l):=Dry.bind (Q1 l) λr=>by
 dsimp only;split
 ·exact Dry.bind (s:=qdo _) (λp=>trivial) λ_=>trivial
 ·trivial
theorem Kn(f:qbe)(t:Array q58)(ps:Array Tmp)(a b:qcm)(r:Option Nat):Dry (qet f t ps a b r):=by
 unfold qet;cases r with
 | none=>exact λ_ _=>trivial
 | some l=>exact Dry.bind (Q1 l) λr _=>trivial
theorem q5C{i j:Nat}(h:BR ρ i j):SR Q P (λσ=>LsR (yO σ)) (Instr.takeDeferred i) ρ (Instr.takeDeferred j):=by
 refine .bnd (jI h) λσ o o' l ho=>?_;cases ho with
 | deferred hl=>exact .bnd (jH (h.mono l) .deferredNone) λτ _ _ l' _=>qd (hl.imp λ_ _ k=>k.mono l')
 | _=>exact qf
theorem J1{i j:Nat}(h:BR ρ i j){c:Option qcm}(hc:∀x,c=some x->JunkSet.okc x):SR Q P VR (qcH i c) ρ (qcH j c):=by
 refine .bnd (yp h) λσ r r' l hr=>.bnd (jH (h.mono l) (.loop ?_)) λτ _ _ _ _=>qd (.bool _);exact⟨rfl,rfl,hr.fn,hr.tmps,hr.params,hr.assign,hr.body,hr.defers,hr.okF,hr.okA,hr.okB,hc⟩
theorem Qs(H:Duo Q P)(hG:Gl P ρ){i j:Nat}(h:BR ρ i j):SR Q P (λ_ _ _=>True) (Instr.beginRound i) ρ (Instr.beginRound j):=by
 refine .bnd (yp h) λσ r r' l hr=>.bnd (jH (h.mono l) (.loop ⟨rfl,hr.pending,hr.fn,hr.tmps,hr.params,hr.assign,hr.body,hr.defers,hr.okF,hr.okA,hr.okB,hr.okP⟩)) λτ _ _ l' _=>?_;rw[hr.state];cases r.state with
 | ready=>exact qd trivial
 | _=>exact qx H.tables (hG.mono (l.trans l')) _
theorem Y2(H:Duo Q P)(hG:Gl P ρ){i j:Nat}(h:BR ρ i j):SR Q P (λ_ a b=>b=a/\∀x,a=some x->JunkSet.okc x) (Instr.endLoop i) ρ (Instr.endLoop j):=by
 refine .bnd (yp h) λσ r r' l hr=>?_;dsimp only;rw[hr.state];refine qC (λ_=>.bnd (R:=λ_ _ _=>False) (qx H.tables (hG.mono l) _) λ_ _ _ _ hf=>hf.elim) λ_=>?_;refine .bnd (jH (h.mono l) (.loop ⟨rfl,hr.pending,hr.fn,hr.tmps,hr.params,hr.assign,hr.body,hr.defers,hr.okF,hr.okA,hr.okB,hr.okP⟩)) λτ _ _ l' _=>?_;exact qd ⟨hr.pending,hr.okP⟩
theorem Za(f:qbe)(hf:JunkSet.okg f){t t':Array q58}(ht:AsR ρ t t')(ps:Array Tmp){a b:qcm}(ha:JunkSet.okc a)(hb:JunkSet.okc b){r r':Option Nat}(hr:OBR ρ r r') :
  SR Q P (λσ x y=>BR σ x.1 y.1/\LsR (yO σ) x.2 y.2) (qet f t ps a b r) ρ (qet f t' ps a b r'):=by
 unfold qet;have fin:∀(σ:Ren) {d d':Nat} {m m':List qc3},Le ρ σ->BR σ d d'->LsR (yO σ) m m'->SR Q P (λσ (x y:Nat × List qc3)=>BR σ x.1 y.1/\LsR (yO σ) x.2 y.2)
   (do pure (<- newObj (.loop { state:=.ready,pending:=none,fn:=f,tmps:=t,params:=ps,assign:=a,body:=b,defers:=d }),m)) σ
   (do pure (<- newObj (.loop { state:=.ready,pending:=none,fn:=f,tmps:=t',params:=ps,assign:=a,body:=b,defers:=d' }),m')):=λσ d d' m m' l hd hm =>
  .bnd (JW (.loop ⟨rfl,rfl,rfl,ht.mono l,rfl,rfl,rfl,hd,hf,ha,hb,λx h=>by cases h⟩)) λτ i j l' hij=>qd ⟨hij,hm.imp λ_ _ k=>k.mono l'⟩
 rcases hr with⟨rfl,rfl⟩ | ⟨i,j,rfl,rfl,hb⟩
 ·exact .bnd (JW (.deferred .nil)) λσ i j l hij=>fin σ l hij (.cons (.mk (.collected hij) .nil) .nil)
 ·exact .bnd (yp hb) λσ x y l hxy=>fin σ l hxy.defers .nil
end
end Go.Sim
end
section
namespace Go.Sim
section
variable[JunkSet]{Q P:q8b}{ρ:Ren}{base D:Nat}{wq w:q3g}
theorem Y5(H:Duo Q P)(hb:base<=ρ.length)(hw:WR Q base ρ wq w)(hG:Gl P ρ)(ht:zw D wq w)(b9:wq.drawn<=D){f f':q8c}(hf:qu Q P ρ f f'){cs cs':List q8c}(hcs:LsR (qu Q P ρ) cs cs')(b0:f.mode≠.run)(b:Bool) :
  kS Q P base D ρ wq w (unwind Q true f cs none wq) (unwind P b f' cs' none w):=by
 have hfd:=hf.defers;unfold unwind;generalize d6:f.defers=ds at hfd;generalize d5:f'.defers=ds' at hfd;cases hfd with
 | @cons d d' ds ds' hd hds =>
  obtain⟨t,a⟩:=d;obtain⟨t',a'⟩:=d';have c3:qu Q P ρ { f with defers:=ds } { f' with defers:=ds' }:=⟨hf.fn,hf.same,hf.okf,hf.tmps,hf.todo,hds,hf.mode,hf.kind,hf.round⟩
  have plain:kS Q P base D ρ wq w (qc6 Q { f with defers:=ds } cs none ⟨t,a⟩ wq) (qc6 P { f' with defers:=ds' } cs' none ⟨t',a'⟩ w) :=
   q10 H hb hw hG ht c3 hcs b0 hd
  rcases id hd with⟨a9,_⟩ | ⟨h1,_,n,c,h3⟩
  case bound =>
   dsimp only at h1 h3;subst h1;subst h3;exact plain
  dsimp only at a9;cases a9 with
  | @collected i j hij =>
   dsimp only;simp only[qad];refine Zd hb hw ht b9 (q5C hij) (Dry.run Q (qam i)) (K:=λr=>match r with
    | .ok calls w=>.go { frame:={ f with defers:=calls++ds },callers:=cs,status:=.running,dying:=none } w
    | .halt _ w=>.ended (.stuck "the deferred calls of a range-over-func loop have been taken" (f.pos Q)) w) (K':=λr=>match r with
    | .ok calls w=>.go { frame:={ f' with defers:=calls++ds' },callers:=cs',status:=.running,dying:=none } w
    | .halt _ w=>.ended (.stuck "the deferred calls of a range-over-func loop have been taken" (f'.pos P)) w) (λh u g u' e _ hk _ _=>by cases hk) ?_
   intro σ r wq1 r' w1 hr l hb1 a7 ht1 _;cases hr with
   | ok wq1 w1 hcl =>
    have Z:=hf.mono l;exact z9 a7 ht1 λ_ _=>⟨⟨Z.fn,Z.same,Z.okf,Z.tmps,Z.todo,hcl.append (hds.imp λ_ _ k=>k.mono l),Z.mode,Z.kind,Z.round⟩,hcs.imp λ_ _ k=>k.mono l,rfl,rfl,rfl,rfl⟩
   | panic wq1 w1 hv=>exact zy
  | fn h1 h2=>exact plain
  | meth n h=>exact plain
  | nil=>exact plain
  | builtin x y z c h=>exact plain
 | nil =>
  dsimp only;have hm:=hf.mode;obtain⟨gf,b6,b7⟩:=hf.same;generalize hmm:f.mode=m at hm;generalize c9:f'.mode=m' at hm;cases hm with
  | run=>exact zy
  | panicking hl =>
   dsimp only;have b8:f.catches Q=false:=by unfold Frame.catches;rw[b6]
   have a8:f'.catches P=false:=by unfold Frame.catches;rw[hf.fn,b7]
   rw[b8,a8];simp only[qa5,if_false];cases hcs with
   | cons hc hcs=>exact z9 hw ht λ_ _=>⟨hc.raise hl,hcs,rfl,rfl,rfl,rfl⟩
   | nil =>
    intro gq' wq' esq a6 hD hst c8;exfalso;dsimp only at a6
    repeat' split at a6
    all_goals first
     | (cases a6;done)
     | (cases a6;cases hst;done)
     | (cases a6;cases c8;done)
  | returning =>
   dsimp only;rw[hf.fn,b6,b7];dsimp only;simp only[qad];refine Zd hb hw ht b9 (QJ H hG gf hf.tmps) (Dry.run Q (Ji gf _)) (K:=λr=>match r with
    | .ok v w=>qc9 Q true f cs none v w
    | .halt (.stuck s) w=>.ended (.stuck s (f.pos Q)) w
    | .halt _ w=>.ended (.stuck "return: the result variables cannot be read" (f.pos Q)) w) (K':=λr=>match r with
    | .ok v w=>qc9 P b f' cs' none v w
    | .halt (.stuck s) w=>.ended (.stuck s (f'.pos P)) w
    | .halt _ w=>.ended (.stuck "return: the result variables cannot be read" (f'.pos P)) w) (λh u g u' e _ hk _ _=>by cases h<;>cases hk) ?_
   intro σ r wq1 r' w1 hr l hb1 a7 ht1 _;cases hr with
   | ok wq1 w1 hv=>exact Ze a7 ht1 (hf.mono l) (hcs.imp λ_ _ k=>k.mono l) hv b
   | panic wq1 w1 hv=>exact zy
def Yv:Option qcm->Bool
 | none | some .ret=>true
 | _=>false
theorem Qd(H:Duo Q P)(hb:base<=ρ.length)(hw:WR Q base ρ wq w)(ht:zw D wq w)(a6:wq.drawn<=D){f f':q8c}(hf:qu Q P ρ f f'){cs cs':List q8c}(hcs:LsR (qu Q P ρ) cs cs')(b:Bool)
  {j:Option qcm} (hj:∀x,j=some x->qz Q x) {s s':String} :
  kS Q P base D ρ wq w (match f.roundOf with
   | none=>if Yv j=true then .go { frame:={ f with mode:=.returning },callers:=cs,status:=.running,dying:=none } wq else .ended (.stuck s (f.pos Q)) wq
   | some l =>
    let (r,es):=(qcH l j).runT Q wq #[]
    qbf (seen Q f.fn es) <| match r with
    | .ok v w=>qc9 Q true f cs none v w
    | .halt _ w=>.ended (.stuck s' (f.pos Q)) w) (match f'.roundOf with
   | none=>if Yv j=true then .go { frame:={ f' with mode:=.returning },callers:=cs',status:=.running,dying:=none } w else .ended (.stuck s (f'.pos P)) w
   | some l =>
    let (r,es):=(qcH l j).runT P w #[]
    qbf (seen P f'.fn es) <| match r with
    | .ok v w=>qc9 P b f' cs' none v w
    | .halt _ w=>.ended (.stuck s' (f'.pos P)) w):=by
 rcases hf.round with⟨r1,r2⟩ | ⟨i,k,r1,r2,hik⟩
 ·rw[r1,r2]
  dsimp only;by_cases hc:Yv j=true
  ·rw[if_pos hc,if_pos hc]
   exact z9 hw ht λ_ _=>⟨⟨hf.fn,hf.same,hf.okf,hf.tmps,hf.todo,hf.defers,.returning,hf.kind,.inl ⟨rfl,rfl⟩⟩,hcs,rfl,rfl,rfl,rfl⟩
  ·rw[if_neg hc,if_neg hc]
   exact zy
 ·rw[r1,r2]
  dsimp only;simp only[qad];refine Zd hb hw ht a6 (J1 hik λx hx=>(H.codes x).2 (hj x hx)) (Dry.run Q (q1m i j)) (K:=λr=>match r with
    | .ok v w=>qc9 Q true f cs none v w
    | .halt _ w=>.ended (.stuck s' (f.pos Q)) w) (K':=λr=>match r with
    | .ok v w=>qc9 P b f' cs' none v w
    | .halt _ w=>.ended (.stuck s' (f'.pos P)) w) (λh u g u' e _ hk _ _=>by cases hk) ?_
  intro σ r wq1 r' w1 hr l hb1 Z ht1 _;cases hr with
  | ok wq1 w1 hv=>exact Ze Z ht1 (hf.mono l) (hcs.imp λ_ _ k=>k.mono l) hv b
  | panic wq1 w1 hv=>exact zy
theorem qu.withTodo{f f':q8c}(hf:qu Q P ρ f f'){k k':List qdy}(hk:LsR (zi Q ρ) k k'):qu Q P ρ { f with todo:=k } { f' with todo:=k' } :=
 ⟨hf.fn,hf.same,hf.okf,hf.tmps,hk,hf.defers,hf.mode,hf.kind,hf.round⟩
theorem xr{i j:Nat}(h:BR ρ i j){d d':qc3}(hd:yO ρ d d'):SR Q P (λ_ _ _=>True) (Instr.deferInRound i d) ρ (Instr.deferInRound j d'):=by
 refine .bnd (yp h) λσ r r' l hr=>?_;refine .bnd (jI hr.defers) λτ o o' l' ho=>?_;cases ho with
 | deferred hl=>exact(jH (hr.defers.mono l') (.deferred (.cons (hd.mono (l.trans l')) hl))).imp λ_ _ _ _ _=>trivial
 | deferredNone=>exact q8G
 | _=>exact qf
theorem ZN(p:q8b)(u:q3g)(f i:Nat):(choose (.order f i)).run p u=.ok (u.tape u.drawn (.order f i)) { u with drawn:=u.drawn+1 }:=rfl
theorem q9d(H:Duo Q P)(hb:base<=ρ.length)(hw:WR Q base ρ wq w)(hG:Gl P ρ)(ht:zw D wq w)(b8:wq.drawn<=D){f f':q8c}(hf:qu Q P ρ f f'){cs cs':List q8c}(hcs:LsR (qu Q P ρ) cs cs')(b:Bool) :
  kS Q P base D ρ wq w (qd9 Q true true f cs none wq) (qd9 P b true f' cs' none w):=by
 obtain⟨fn,tmps,todo,defers,mode,kind,ro⟩:=f;obtain⟨a9,a6,d5,Z,a7,a8,b7⟩:=f';have e4:=hf.todo;have c8:∀x,qF Q x->VR ρ (Frame.eval ⟨fn,tmps,todo,defers,mode,kind,ro⟩ x) (Frame.eval ⟨a9,a6,d5,Z,a7,a8,b7⟩ x):=λx hx=>hf.eval hG H.gsize hx;have b0:∀{k k':List qdy},LsR (zi Q ρ) k k'->kS Q P base D ρ wq w (.go { frame:=⟨fn,tmps,k,defers,mode,kind,ro⟩,callers:=cs,status:=.running,dying:=none } wq) (.go { frame:=⟨a9,a6,k',Z,a7,a8,b7⟩,callers:=cs',status:=.running,dying:=none } w) :=
  λhk=>z9 hw ht λ_ _=>⟨hf.withTodo hk,hcs,rfl,rfl,rfl,rfl⟩
 unfold qd9;dsimp only;dsimp only at e4;cases e4 with
 | nil=>exact Qd H hb hw ht b8 hf hcs b (j:=none) (λx h=>by cases h)
 | @cons x x' k k' hx hk =>
  cases hx with
  | @code c hc =>
   cases hc with
   | skip=>exact b0 hk
   | label n=>exact b0 hk
   | ret=>exact Qd H hb hw ht b8 hf hcs b (j:=some .ret) (λx h=>by cases h;exact .ret)
   | seq h1 h2=>exact b0 (.cons (.code h1) (.cons (.code h2) hk))
   | @cond c x y h0 h1 h2 =>
    dsimp only;have:=c8 _ h0;revert this;generalize Frame.eval _ c=v;generalize Frame.eval _ c=v';intro this;cases this with
    | bool t=>cases t<;>exact b0 (.cons (.code (by assumption)) hk)
    | _=>exact zy
   | block h=>exact b0 (.cons (.code h) (.cons (.inBlock _) hk))
   | loop h=>exact b0 (.cons (.code h) (.cons (.inLoop h) hk))
   | scope h=>exact b0 (.cons (.code h) (.cons (.inScope h) hk))
   | exit id =>
    dsimp only;rcases q5c (id:=id) hk with⟨e1,e2⟩ | ⟨m,m',e1,e2,hm⟩
    ·rw[e1,e2]
     exact Qd H hb hw ht b8 hf hcs b (j:=some (.exit id)) (λx h=>by cases h;exact .exit id)
    ·rw[e1,e2]
     exact b0 hm
   | goto n =>
    dsimp only;rcases q57 (j:=n) hk with⟨e1,e2⟩ | ⟨m,m',e1,e2,hm⟩
    ·rw[e1,e2]
     exact Qd H hb hw ht b8 hf hcs b (j:=some (.goto n)) (λx h=>by cases h;exact .goto n)
    ·rw[e1,e2]
     exact b0 hm
   | @region id ops d hops =>
    dsimp only;cases d with
    | false=>exact b0 (.cons (.inRegion _ hops) hk)
    | true =>
     simp only[Bool.not_true,qa5,if_false];rw[ZN,ZN];dsimp only;intro gq' wq' esq e hD hst g5;cases e;have hfn:=hf.fn;dsimp only at hfn hD;subst hfn;have d7:=ht 0 (.order a9 id) (by omega);simp only[Nat.add_zero] at d7;have e7:P.follows .mixedOrders=Q.follows .mixedOrders:=by
      show P.toTables.follows .mixedOrders=Q.toTables.follows .mixedOrders;rw[H.tables]
     obtain⟨e6,e9⟩:=hw.draw;refine⟨ρ,_,_,#[],rfl,.k ⟨?_,hcs,rfl,rfl,rfl,rfl⟩,e6,trivial,e9,by simp,trivial,by simp only;omega⟩;rw[e7,d7];exact hf.withTodo (.cons (.inRegion _ hops) hk)
   | @rangeFunc c ps a bd h0 h1 h2 =>
    have hfn:=hf.fn;dsimp only at hfn ⊢;subst hfn;simp only[qad];refine Zd hb hw ht b8 (Za (Q:=Q) (P:=P) a9 ((H.same a9).2 ⟨hf.same,hf.okf⟩) hf.tmps ps ((H.codes a).2 h1) ((H.codes bd).2 h2) hf.round) (Dry.run Q (Kn a9 tmps ps a bd ro)) (K:=λr=>match r with
     | .ok (l,mark) w=>qbn Q true ⟨a9,tmps,.inRangeFunc l::k,mark++defers,mode,kind,ro⟩ cs none (do let d <- resolve (Frame.eval ⟨a9,tmps,.inRangeFunc l::k,mark++defers,mode,kind,ro⟩) { callee:=.value c,args:=#[.const (.func (.yield l) #[] #[])],argTypes:=#[] } 0;invoke d.target d.args) w
     | .halt _ w=>.ended (.stuck "range over a function: no such loop" (Frame.pos Q ⟨a9,tmps,.code (.rangeFunc c ps a bd)::k,defers,mode,kind,ro⟩)) w) (K':=λr=>match r with
     | .ok (l,mark) w=>qbn P true ⟨a9,a6,.inRangeFunc l::k',mark++Z,a7,a8,b7⟩ cs' none (do let d <- resolve (Frame.eval ⟨a9,a6,.inRangeFunc l::k',mark++Z,a7,a8,b7⟩) { callee:=.value c,args:=#[.const (.func (.yield l) #[] #[])],argTypes:=#[] } 0;invoke d.target d.args) w
     | .halt _ w=>.ended (.stuck "range over a function: no such loop" (Frame.pos P ⟨a9,a6,.code (.rangeFunc c ps a bd)::k',Z,a7,a8,b7⟩)) w) (λh u g u' e ho hk _ _=>by cases hk) ?_
    intro σ r wq1 r' w1 hr l hb1 c3 ht1 _;cases hr with
    | panic wq1 w1 hv=>exact zy
    | @ok x y wq1 w1 hv =>
     obtain⟨i,m⟩:=x;obtain⟨i',m'⟩:=y;obtain⟨hbr,hm⟩:=hv;dsimp only at hbr hm ⊢;have b6:=hf.mono l;have e8:qu Q P σ ⟨a9,tmps,.inRangeFunc i::k,m++defers,mode,kind,ro⟩ ⟨a9,a6,.inRangeFunc i'::k',m'++Z,a7,a8,b7⟩ :=
      ⟨b6.fn,b6.same,b6.okf,b6.tmps,.cons (.inRangeFunc hbr) (hk.imp λ_ _ k=>k.mono l),hm.append b6.defers,b6.mode,b6.kind,b6.round⟩
     refine Qe H hb1 c3 ht1 e8 (hcs.imp λ_ _ k=>k.mono l) (by intro x l h;cases h) (SR.sm ?_);have hy:AsR σ #[Value.func (Fn.yield i) #[] #[]] #[Value.func (Fn.yield i') #[] #[]] :=
      AsR.one (.func (a:=#[]) (a':=#[]) (c:=#[]) (c':=#[]) (.yield hbr) rfl (λi x y hx=>by simp at hx) rfl (λi x y hx=>by simp at hx))
     have d8:∀(e:qaH->q58) (v:q58),#[Operand.const v].map e=#[e (.const v)]:=λe v=>by simp
     refine .bnd (R:=yO) (QK H.toPair ((c8 _ h0).mono l) (by rw[d8,d8];exact hy)) λτ d d' l' hd=>vx H.toPair (hG.mono (l.trans l')) hd
  | inBlock id=>exact b0 hk
  | inScope h=>exact b0 hk
  | inLoop h=>exact b0 (.cons (.code h) (.cons (.inLoop h) hk))
  | @inRegion ops l hops =>
   cases l with
   | nil=>exact b0 hk
   | cons i l =>
    dsimp only;have e5:yielded ops a6=yielded ops tmps:=funext λj=>q46 ops hf.tmps j;rw[e5];by_cases hc:((ops[i]?).map (qb0 · (yielded ops tmps))).getD false=true
    ·rw[if_pos hc,if_pos hc]
     unfold stepG.oper Frame.oper?;dsimp only;cases ho:ops[i]? with
     | none=>exact zy
     | some o =>
      dsimp only;have hok:=hops o (by rw[qcs];exact qby ho);have plain:=Qe H hb hw ht hf hcs (by intro x l h;cases h) (KO H.toPair c8 hG hw.nodup (λv=>rfl) hok);rcases hf.round with⟨r1,r2⟩ | ⟨a,b',r1,r2,hij⟩
      ·dsimp only at r1 r2
       subst r1;subst r2;exact plain
      ·dsimp only at r1 r2
       subst r1;subst r2;by_cases b9:∃c,o.op=.defer c
       ·obtain⟨c,b9⟩:=b9
        rw[b9] at hok ⊢;dsimp only;refine Qe H hb hw ht hf hcs (by intro x l h;cases h) (SR.sm ?_);cases hok with
        | defer hcall =>
         exact .bnd (vP H.toPair c8 hcall _) λσ d d' l hd=>.bnd (xr (hij.mono l) hd) λτ _ _ _ _=>qd .skip
       ·split
        ·rename_i e1 e2
         exact absurd ⟨_,e2⟩ b9
        ·split
         ·rename_i e1 e2
          exact absurd ⟨_,e2⟩ b9
         ·exact plain
    ·rw[if_neg hc,if_neg hc]
     exact z9 hw ht λ_ _=>⟨hf.finish (kh ρ),hcs,rfl,rfl,rfl,rfl⟩
  | inRangeFunc h=>exact zy
  | @endRangeFunc i j h =>
   dsimp only;simp only[qad];refine Zd hb hw ht b8 (Y2 H hG h) (Dry.run Q (q3x i)) (K:=λr=>match r with
    | .ok jump w=>.go { frame:=⟨fn,tmps,(jump.map Item.code).toList++k,defers,mode,kind,ro⟩,callers:=cs,status:=.running,dying:=none } w
    | .halt (.panic v) w=>.go { frame:=Frame.raise ⟨fn,tmps,.endRangeFunc i::k,defers,mode,kind,ro⟩ [{ v,recovered:=false }],callers:=cs,status:=.running,dying:=none } w
    | .halt _ w=>.ended (.stuck "range over a function: no such loop" (Frame.pos Q ⟨fn,tmps,.endRangeFunc i::k,defers,mode,kind,ro⟩)) w) (K':=λr=>match r with
    | .ok jump w=>.go { frame:=⟨a9,a6,(jump.map Item.code).toList++k',Z,a7,a8,b7⟩,callers:=cs',status:=.running,dying:=none } w
    | .halt (.panic v) w=>.go { frame:=Frame.raise ⟨a9,a6,.endRangeFunc j::k',Z,a7,a8,b7⟩ [{ v,recovered:=false }],callers:=cs',status:=.running,dying:=none } w
    | .halt _ w=>.ended (.stuck "range over a function: no such loop" (Frame.pos P ⟨a9,a6,.endRangeFunc j::k',Z,a7,a8,b7⟩)) w) (λh u g u' e ho hk _ _=>by cases h<;>first | (cases ho;done) | cases hk) ?_
   intro σ r wq1 r' w1 hr l hb1 c3 ht1 _;have b6:=hf.mono l;have c9:=hcs.imp λ_ _ k=>qu.mono l k;have d9:=hk.imp λ_ _ k=>zi.mono l k;cases hr with
   | @ok jump jump' wq1 w1 hv =>
    obtain⟨hj,d6⟩:=hv;subst hj;refine z9 c3 ht1 λ_ _=>⟨b6.withTodo ?_,c9,rfl,rfl,rfl,rfl⟩
    cases jump' with
    | none=>exact d9
    | some c=>exact .cons (.code ((H.codes c).1 (d6 c rfl))) d9
   | panic wq1 w1 hv=>exact z9 c3 ht1 λ_ _=>⟨b6.raise (.cons ⟨hv,rfl,rfl⟩ .nil),c9,rfl,rfl,rfl,rfl⟩
  | beginRound =>
   dsimp only;refine Qe H hb hw ht hf hcs (by intro x l h;cases h) (SR.sm ?_);refine .bnd (R:=λ_ _ _=>True) ?_ λσ _ _ _ _=>qd .skip;rcases hf.round with⟨r1,r2⟩ | ⟨i,j,r1,r2,hij⟩
   ·dsimp only at r1 r2
    rw[r1,r2];exact qf
   ·dsimp only at r1 r2
    rw[r1,r2];exact Qs H hG hij
theorem KP(H:Duo Q P)(hb:base<=ρ.length)(hw:WR Q base ρ wq w)(hG:Gl P ρ)(ht:zw D wq w)(Z:wq.drawn<=D){g g':q5r}(hg:kH Q P ρ g g')(b:Bool) :
  kS Q P base D ρ wq w (qb7 Q true g wq true) (qb7 P b g' w true):=by
 obtain⟨fr,cs,st,dy,off⟩:=g;obtain⟨a6,cs',st',dy',a7⟩:=g';obtain⟨h1,h2,h3,h4,h5,h6⟩:=hg;dsimp only at h1 h2 h3 h4 h5 h6;subst h5;subst h6;have hm:=h1.mode;unfold qb7;dsimp only;generalize hmm:fr.mode=m at hm;generalize a8:a6.mode=m' at hm;cases hm with
 | run=>exact q9d H hb hw hG ht Z h1 h2 b
 | returning=>exact Y5 H hb hw hG ht Z h1 h2 (by rw[hmm];simp) b
 | panicking hl=>exact Y5 H hb hw hG ht Z h1 h2 (by rw[hmm];simp) b
theorem q9c(H:Duo Q P)(hb:base<=ρ.length)(hw:WR Q base ρ wq w)(hG:Gl P ρ)(ht:zw D wq w)(a6:wq.drawn<=D){g g':q5r}(hg:kH Q P ρ g g')(b:Bool) :
  ∀gq' wq' esq,qb7 Q true g wq true=.go gq' wq' esq->wq'.drawn<=D->gq'.status=.running->gq'.dying=none->Q.funcs[gq'.frame.fn]?=P.funcs[gq'.frame.fn]? ->
  ∃σ g'' w' es,qb7 P b g' w true=.go g'' w' es/\kH Q P σ gq' g''/\WR Q base σ wq' w'/\True/\Eff base ρ σ w w'/\(∀e∈es,kK base σ e)/\True/\wq.drawn<=wq'.drawn:=by
 intro gq' wq' esq e hD hs hd Z;obtain⟨σ,g'',w',es,h1,h2,h3⟩:=KP H hb hw hG ht a6 hg b gq' wq' esq e hD hs hd;refine⟨σ,g'',w',es,h1,?_,h3⟩;rcases h2 with⟨_,h⟩ | ⟨f,k,a,a',c,c',cs,cs',hne,_,rfl,_⟩
 ·exact h
 ·exact absurd Z hne
end
end Go.Sim
end
section
namespace Go
def World.tp(w:q3g)(T:Nat->qc7->Nat):q3g:={ w with tape:=T }
end Go
namespace Go.Sim
def tpR{α:Type}(T:Nat->qc7->Nat):qe0 α->qe0 α
 | .ok a w=>.ok a (w.tp T)
 | .halt h w=>.halt h (w.tp T)
def q6v(T:Nat->qc7->Nat)(w:q3g)(n:Nat):Prop:=∀k q,w.drawn<=k->k<n->T k q=w.tape k q
def Knows{α:Type}(Q:q8b)(s:Sem α)(w:q3g):Prop :=
 (rwR (s.run Q w)).tape=w.tape/\∀T,q6v T w (rwR (s.run Q w)).drawn->s.run Q (w.tp T)=tpR T (s.run Q w)
section
variable[JunkSet]{Q P:q8b}{base:Nat}
theorem SR.knows{α β:Type}{R:Rel α β}{s:Sem α}:∀{ρ:Ren} {s':Sem β} {wq w:q3g},SR Q P R s ρ s'->base<=ρ.length->WR Q base ρ wq w->vM (s.run Q wq)->Knows Q s wq:=by
 induction s with
 | pure a=>intro ρ s' wq w h hb hw hf;exact⟨rfl,λT _=>rfl⟩
 | load m a k ih =>
  intro ρ s' wq w h hb hw hf;rcases h with hbad | ⟨rfl,j,k',rfl,hbr,hk⟩
  ·exact absurd hf (Bad.not_fine hw.nopend hbad)
  have e0:∀T,(wq.tp T).cell? a=wq.cell? a:=λT=>rfl;unfold Knows;simp only[qbk,e0] at hf ⊢;cases hc:wq.cell? a with
  | none =>
   rw[hc] at hf;simp only[World.farLoad] at hf;split at hf
   ·rename_i hv
    split at hv
    ·rename_i a6
     exact absurd a6 (hw.noview hbr _ _)
    ·cases hv
   ·rename_i hv
    split at hv
    ·rename_i a6
     exact absurd a6 (hw.noview hbr _ _)
    ·cases hv
     exact absurd hf (jL hw.nopend _ _ _)
  | some v =>
   obtain⟨v',a6,hr⟩:=hw.cell hbr hc;rw[hc] at hf;exact ih v (hk v v' hr) hb hw hf
 | store m a v k ih =>
  intro ρ s' wq w h hb hw hf;rcases h with hbad | ⟨rfl,j,v',k',rfl,hbr,hv,hk⟩
  ·exact absurd hf (Bad.not_fine hw.nopend (s:=.store m a v k) hbad)
  have b0:(∃x,v=.agg x)\/(∃x,v=.tuple x)\/((∀x,v≠.agg x)/\∀x,v≠.tuple x):=by
   cases v<;>simp
  rcases b0 with⟨x,rfl⟩ | ⟨x,rfl⟩ | ⟨hna,hnt⟩
  ·simp only[qbk] at hf
   exact absurd hf (λh=>by cases h)
  ·simp only[qbk] at hf
   exact absurd hf (λh=>by cases h)
  ·have e1:∀u:q3g,(Sem.store .plain a v k).run Q u=match u.cell? a with
     | some _=>if u.frozen? a then .halt (.unsupported (.unsafePointer "a write to bytes that a string shares")) u else k.run Q (u.setCell a v)
     | none=>match u.farStore Q a v false with
      | .ok (w,_)=>k.run Q w
      | .error h=>.halt h u:=λu=>by
    cases v<;>first | rfl | exact absurd rfl (hna _) | exact absurd rfl (hnt _)
   have e0:∀T,(wq.tp T).cell? a=wq.cell? a:=λT=>rfl;have e2:∀T,(wq.tp T).frozen? a=wq.frozen? a:=λT=>rfl;unfold Knows;simp only[e1,e0,e2] at hf ⊢;cases hc:wq.cell? a with
   | none =>
    rw[hc] at hf;simp only[qek] at hf;split at hf
    ·rename_i hv
     split at hv
     ·rename_i a6
      exact absurd a6 (hw.noview hbr _ _)
     ·cases hv
    ·rename_i hv
     split at hv
     ·rename_i a6
      exact absurd a6 (hw.noview hbr _ _)
     ·cases hv
      exact absurd hf (jL hw.nopend _ _ _)
   | some u =>
    rw[hc] at hf;cases hfz:wq.frozen? a with
    | true =>
     simp only[hfz,if_true] at hf;exact absurd hf (λh=>by cases h)
    | false =>
     obtain⟨hbase,b7,a7,a9⟩:=hw.set hbr hc hfz hv;simp only[hfz,qa5,if_false] at hf ⊢;exact ih hk hb a7 hf
 | new o k ih =>
  intro ρ s' wq w h hb hw hf;rcases h with hbad | ⟨o',k',rfl,ho,hk⟩
  ·exact absurd hf (Bad.not_fine hw.nopend (s:=.new o k) hbad)
  obtain⟨a7,a9⟩:=hw.newO hb ho;have hk':=hk w.heap.size (λi hi=>qee _ (hw.lt i _ hi));rw[hw.len] at hk';exact ih _ hk' (by simp;omega) a7 hf
 | shape r k ih =>
  intro ρ s' wq w h hb hw hf;rcases h with hbad | ⟨j,k',rfl,hbr,hk⟩
  ·exact absurd hf (Bad.not_fine hw.nopend (s:=.shape r k) hbad)
  exact ih _ (hk _ _ (hw.shape hbr)) hb hw hf
 | freeze a n k _=>intro ρ s' wq w h hb hw hf;exact absurd hf (Bad.not_fine hw.nopend (s:=.freeze a n k) h)
 | frozen a k _=>intro ρ s' wq w h hb hw hf;exact absurd hf (Bad.not_fine hw.nopend (s:=.frozen a k) h)
 | getObj r k ih =>
  intro ρ s' wq w h hb hw hf;rcases h with hbad | ⟨j,k',rfl,hbr,hk⟩
  ·exact absurd hf (Bad.not_fine hw.nopend (s:=.getObj r k) hbad)
  cases ho:wq.heap[r]? with
  | none=>simp only[qbk,ho] at hf;exact absurd hf (λh=>by cases h)
  | some o =>
   by_cases Z:∃c e f,o=.cells c e f
   ·obtain⟨c,e,f,rfl⟩:=Z
    simp only[qbk,ho] at hf;exact absurd hf (λh=>by cases h)
   ·have hnc:∀c e f,o≠.cells c e f:=λc e f x=>Z ⟨c,e,f,x⟩
    rcases hw.obj _ _ _ hbr ho with⟨_,hj,_⟩ | ⟨_,o',ho',hr⟩
    ·exact absurd hj (hnc _ _ _)
    ·rw[yt ho hnc] at hf
     have a8:∀T,(wq.tp T).heap[r]?=some o:=λT=>ho;unfold Knows;simp only[yt ho hnc,yt (a8 _) hnc];exact ih o (hk _ _ hr) hb hw hf
 | setObj r o k ih =>
  intro ρ s' wq w h hb hw hf;rcases h with hbad | ⟨j,o',k',rfl,hbr,hor,hk⟩
  ·exact absurd hf (Bad.not_fine hw.nopend (s:=.setObj r o k) hbad)
  cases ho:wq.heap[r]? with
  | none=>simp only[qbk,ho] at hf;exact absurd hf (λh=>by cases h)
  | some ob =>
   by_cases Z:∃c e f,ob=.cells c e f
   ·obtain⟨c,e,f,rfl⟩:=Z
    simp only[qbk,ho] at hf;exact absurd hf (λh=>by cases h)
   ·have hnc:∀c e f,ob≠.cells c e f:=λc e f x=>Z ⟨c,e,f,x⟩
    obtain⟨hbase,⟨b8,b6,hr⟩,a7,a9⟩:=hw.setO hbr ho hnc hor;rw[yr ho hnc] at hf;have a8:∀T,(wq.tp T).heap[r]?=some ob:=λT=>ho;unfold Knows;simp only[yr ho hnc,yr (a8 _) hnc];exact ih hk hb a7 hf
 | choose q k ih =>
  intro ρ s' wq w h hb hw hf;rcases h with hbad | ⟨k',rfl,hk⟩
  ·exact absurd hf (Bad.not_fine hw.nopend (s:=.choose q k) hbad)
  unfold Knows;simp only[qbk] at hf ⊢;cases hq:q.forced with
  | true =>
   rw[hq] at hf;simp only[if_true] at hf ⊢;exact ih _ (hk _) hb hw hf
  | false =>
   rw[hq] at hf;simp only[qa5,if_false] at hf ⊢;obtain⟨a7,a9⟩:=hw.draw;obtain⟨h1,h2⟩:=ih _ (hk _) hb a7 hf;refine⟨h1,λT hT=>?_⟩;have:=vB Q (k (q.cut (wq.tape wq.drawn q))) { wq with drawn:=wq.drawn+1 };have e:(wq.tp T).tape (wq.tp T).drawn q=wq.tape wq.drawn q:=hT _ q (q5m _) (by simp only at this;exact q8m (Nat.lt_succ_self _) this);rw[e];exact h2 T λn q hn=>hT n q (by simp only at hn;omega)
 | sys c k ih =>
  intro ρ s' wq w h hb hw hf;rcases h with hbad | ⟨rfl,k',rfl,hk⟩
  ·exact absurd hf (Bad.not_fine hw.nopend (s:=.sys c k) hbad)
  have e1:∀u:q3g,u.sys .env=(.strings u.os.env,u):=λu=>rfl;unfold Knows;simp only[qbk,e1] at hf ⊢;exact ih _ (hk _) hb hw hf
 | program k ih =>
  intro ρ s' wq w h hb hw hf;rcases h with hbad | ⟨k',rfl,hk⟩
  ·exact absurd hf (Bad.not_fine hw.nopend (s:=.program k) hbad)
  exact ih _ hk hb hw hf
 | mark m k ih =>
  intro ρ s' wq w h hb hw hf;rcases h with hbad | ⟨rfl,k',rfl,hk⟩
  ·exact absurd hf (Bad.not_fine hw.nopend (s:=.mark m k) hbad)
  exact ih hk hb hw hf
 | halt x=>intro ρ s' wq w h hb hw hf;exact⟨rfl,λT _=>rfl⟩
end
end Go.Sim
end
section
namespace Go.Sim
section
variable[JunkSet]{Q P:q8b}{ρ:Ren}{base:Nat}{wq w:q3g}
theorem Zk(hT:P.toTables=Q.toTables)(hG:Gl P ρ)(hb:base<=ρ.length)(hw:WR Q base ρ wq w){t:q8u}(hB:Yr Q t=true){m m' k k' v v':q58}(hm:VR ρ m m')(hk:VR ρ k k')(hv:VR ρ v v')
  (hf:vM ((qbE t m k v).run Q wq)):Knows Q (qbE t m k v) wq:=by
 rcases q2H (k':=k') (v':=v') hT hG hw hm hf with h | ⟨r,j,kt,et,es,es',clock,rfl,rfl,hbr,hu,hq,hp,he⟩
 ·exact h.knows hb hw hf
 ·have r1:=λT=>(yE (P:=Q) (t:=t) (k:=k) (v:=v) (w:=wq.tp T) hu hq).1
  have r0:=(yE (P:=Q) (t:=t) (k:=k) (v:=v) hu hq).1;have:=(KI hT hG (q33 hB hu) hk hv hbr he clock 0).knows hb hw (by rw[<- r0];exact hf);unfold Knows at this ⊢;rw[r0];exact⟨this.1,λT hT=>by rw[r1 T];exact this.2 T hT⟩
theorem kn_u{s:Sem Unit}(h:Knows Q s wq):Knows Q (do s;pure Next.skip:Sem qe4) wq:=by
 have e1:∀(u:q3g),((do s;pure Next.skip:Sem qe4)).run Q u=match s.run Q u with | .ok _ u'=>.ok .skip u' | .halt h u'=>.halt h u':=λu=>by
  rw[qbB];cases s.run Q u<;>rfl
 unfold Knows at h ⊢;rw[e1];refine⟨?_,λT hT=>?_⟩
 ·have:=h.1
  cases hx:s.run Q wq<;>(rw[hx] at this;exact this)
 ·rw[e1,h.2 T]
  ·cases hx:s.run Q wq<;>rfl
  ·cases hx:s.run Q wq<;>(rw[hx] at hT;exact hT)
end
end Go.Sim
end
section
namespace Go.Sim
def Live(g:q5r):Prop:=g.status=.running/\g.dying=none
def Dead(g:q5r):Prop:=g.status=.blocked\/g.status=.waiting\/g.status=.finished\/(g.status=.running/\∃d,g.dying=some d/\d.calling=false/\d.fatal.isSome=true)
def Flat(cs:List q8c):qcu->Prop
 | .go g _ _=>Live g\/Dead g\/cs=[]
 | .ended ..=>True
 | _=>False
theorem flx{p:Prop}(h:p:=by first | exact trivial | exact .inl ⟨rfl,rfl⟩ | exact .inr (.inl (.inl rfl)) | exact .inr (.inl (.inr (.inl rfl))) | exact .inr (.inl (.inr (.inr (.inl rfl)))) | exact .inr (.inl (.inr (.inr (.inr ⟨rfl,_,rfl,rfl,rfl⟩)))) | exact .inr (.inr rfl)):p:=h
structure One(cs:List q8c)(wq:q3g)(r:q3g->qcu):Prop where
 flat:Flat cs (r wq)
 go:∀g' w' es,r wq=.go g' w' es->g'.status=.running->g'.dying=none->w'.tape=wq.tape/\wq.drawn<=w'.drawn/\∀T,q6v T wq w'.drawn->∃es',r (wq.tp T)=.go g' (w'.tp T) es'
theorem QW{cs:List q8c}{es:Array qbr}{s:qcu}(h:Flat cs s):Flat cs (qbf es s):=by
 cases s<;>first | exact h | exact h.elim
theorem YH{p:q8b}{fr:q8c}{cs:List q8c}{dy:Option Dying}{m:String}{u:q3g}:Flat cs (endFatal p fr cs dy m u):=by
 unfold endFatal;dsimp only;generalize (qbk p _ u:qe0 (List (ByteArray × String) × List ByteArray))=r;cases r with
 | ok a w1=>obtain⟨t,Z⟩:=a;exact flx
 | halt x w1=>cases x<;>exact flx
section
variable[JunkSet]{Q P:q8b}{ρ:Ren}{base:Nat}{wq w:q3g}
theorem yx{cs:List q8c}{r:q3g->qcu}(h:∃o u es,r wq=.ended o u es):One cs wq r:=by
 obtain⟨o,u,es,e⟩:=h;exact⟨by rw[e];trivial,λg' w' es' h _ _=>by rw[e] at h;cases h⟩
theorem SR.tri{α β:Type}{R:Rel α β}{s:Sem α}{s':Sem β}(hs:SR Q P R s ρ s')(hb:base<=ρ.length)(hw:WR Q base ρ wq w) :
  (Knows Q s wq/\((∃a u,s.run Q wq=.ok a u/\∃σ b w1,R σ a b/\Le ρ σ/\WR Q base σ u w1)\/∃v u,s.run Q wq=.halt (.panic v) u))\/∃h u,s.run Q wq=.halt h u/\odd h=false:=by
 by_cases hf:vM (s.run Q wq)
 ·refine .inl ⟨hs.knows hb hw hf,?_⟩
  have a7:WR Q base ρ wq { w with tape:=λn q=>wq.tape (n - w.drawn+wq.drawn) q }:=⟨hw.len,hw.nodup,hw.lt,hw.obj,hw.low,hw.env,hw.below,hw.gar⟩
  obtain⟨σ,a9,w2,b0,Z,_,_,a6,_,a8,_⟩:=SR.runs (es:=#[]) (D:=(rwR (s.run Q wq)).drawn) hs hb a7 (λn q _=>by
   show wq.tape (wq.drawn+n) q=wq.tape (w.drawn+n - w.drawn+wq.drawn) q;rw[show w.drawn+n - w.drawn+wq.drawn=wq.drawn+n by omega]) (q5m _) hf
  generalize s.run Q wq=r at Z;generalize (qbk P s' _)=r' at Z;cases Z with
  | ok _ _ h=>exact .inl ⟨_,_,rfl,σ,_,_,h,a8.le,a6⟩
  | panic _ _ _=>exact .inr ⟨_,_,rfl⟩
 ·refine .inr ?_
  cases hr:s.run Q wq with
  | ok a u=>rw[hr] at hf;exact absurd trivial hf
  | halt h u =>
   rw[hr] at hf;exact⟨h,u,rfl,by cases ho:odd h with | false=>rfl | true=>exact absurd ho hf⟩
def Tri[JunkSet](Q:q8b){α β:Type}(R:Rel α β)(s:Sem α)(ρ:Ren)(base:Nat)(wq:q3g):Prop :=
 (Knows Q s wq/\((∃a u,s.run Q wq=.ok a u/\∃σ b w1,R σ a b/\Le ρ σ/\WR Q base σ u w1)\/∃v u,s.run Q wq=.halt (.panic v) u))\/∃h u,s.run Q wq=.halt h u/\odd h=false
theorem q2E{α β:Type}{R:Rel α β}{s:Sem α}(hs:Tri Q R s ρ base wq){cs:List q8c}{K:q3g->qe0 α->qcu}{r:q3g->qcu}
  (hr:∀u x,s.run Q u=x->∃es,r u=qbf es (K u x))
  (hok:∀a u σ b w1,R σ a b->Le ρ σ/\WR Q base σ u w1->Flat cs (K wq (.ok a u))/\∀g' w' es,K wq (.ok a u)=.go g' w' es->g'.status=.running->g'.dying=none->w'.tape=u.tape/\u.drawn<=w'.drawn/\∀T,q6v T u w'.drawn->∃es',K (wq.tp T) (.ok a (u.tp T))=.go g' (w'.tp T) es')
  (a7:∀v u,Flat cs (K wq (.halt (.panic v) u))/\∀g' w' es,K wq (.halt (.panic v) u)=.go g' w' es->g'.status=.running->g'.dying=none->w'=u/\∀T,∃es',K (wq.tp T) (.halt (.panic v) (u.tp T))=.go g' (u.tp T) es')
  (hbad:∀h u,odd h=false->Flat cs (K wq (.halt h u))/\∀g' w' es,K wq (.halt h u)=.go g' w' es->g'.status=.running->g'.dying=none->False) :
  One cs wq r:=by
 have Z:=vB Q s wq;obtain⟨b0,h0⟩:=hr wq _ rfl;rcases hs with⟨⟨ht,hk⟩,⟨a,u,e,σ,b,w1,hR,hl,a8⟩ | ⟨v,u,e⟩⟩ | ⟨h,u,e,ho⟩
 ·rw[e] at h0 hk ht Z
  obtain⟨h1,h2⟩:=hok a u σ b w1 hR ⟨hl,a8⟩;refine⟨by rw[h0];exact QW h1,λg' w' es h hst a6=>?_⟩;rw[h0] at h;obtain⟨e0,h3,_⟩:=zX h;obtain⟨h4,h5,h6⟩:=h2 _ _ _ h3 hst a6;have Z:wq.drawn<=u.drawn:=Z;refine⟨h4.trans ht,q87 Z h5,λT hT=>?_⟩;obtain⟨es1,h7⟩:=hr (wq.tp T) _ rfl;have hk':s.run Q (wq.tp T)=.ok a (u.tp T):=hk T λk q hk hn=>hT k q hk (q8m hn h5);obtain⟨a9,h8⟩:=h6 T λk q hk hn=>by rw[show u.tape=wq.tape from ht];exact hT k q (q87 Z hk) hn
  exact⟨_,by rw[h7,hk',h8];rfl⟩
 ·rw[e] at h0 hk ht Z
  obtain⟨h1,h2⟩:=a7 v u;refine⟨by rw[h0];exact QW h1,λg' w' es h hst a6=>?_⟩;rw[h0] at h;obtain⟨e0,h3,_⟩:=zX h;obtain⟨rfl,h6⟩:=h2 _ _ _ h3 hst a6;refine⟨ht,Z,λT hT=>?_⟩;obtain⟨es1,h7⟩:=hr (wq.tp T) _ rfl;have hk':s.run Q (wq.tp T)=.halt (.panic v) (w'.tp T):=hk T hT;obtain⟨a9,h8⟩:=h6 T;exact⟨_,by rw[h7,hk',h8];rfl⟩
 ·rw[e] at h0
  obtain⟨h1,h2⟩:=hbad h u ho;refine⟨by rw[h0];exact QW h1,λg' w' es h hst a6=>?_⟩;rw[h0] at h;obtain⟨e0,h3,_⟩:=zX h;exact(h2 _ _ _ h3 hst a6).elim
theorem Qf{α β:Type}{R:Rel α β}{s:Sem α}{s':Sem β}(hs:SR Q P R s ρ s')(hb:base<=ρ.length)(hw:WR Q base ρ wq w){cs:List q8c}{K:q3g->qe0 α->qcu}{r:q3g->qcu}
  (hr:∀u x,s.run Q u=x->∃es,r u=qbf es (K u x))
  (hok:∀a u σ b w1,R σ a b->Le ρ σ/\WR Q base σ u w1->Flat cs (K wq (.ok a u))/\∀g' w' es,K wq (.ok a u)=.go g' w' es->g'.status=.running->g'.dying=none->w'.tape=u.tape/\u.drawn<=w'.drawn/\∀T,q6v T u w'.drawn->∃es',K (wq.tp T) (.ok a (u.tp T))=.go g' (w'.tp T) es')
  (Z:∀v u,Flat cs (K wq (.halt (.panic v) u))/\∀g' w' es,K wq (.halt (.panic v) u)=.go g' w' es->g'.status=.running->g'.dying=none->w'=u/\∀T,∃es',K (wq.tp T) (.halt (.panic v) (u.tp T))=.go g' (u.tp T) es')
  (hbad:∀h u,odd h=false->Flat cs (K wq (.halt h u))/\∀g' w' es,K wq (.halt h u)=.go g' w' es->g'.status=.running->g'.dying=none->False) :
  One cs wq r:=q2E (hs.tri hb hw) hr hok Z hbad
theorem Yk(H:Duo Q P)(hb:base<=ρ.length)(hw:WR Q base ρ wq w){f:q8c}{cs:List q8c}(a6:∀d r s k,f.todo≠.call d true r s::k)
  {s:Sem qe4} (hs:Tri Q (zM) s ρ base wq):One cs wq (λu=>qbn Q true f cs none s u):=by
 apply q2E hs
 ·intro u x hx
  apply Exists.intro;unfold qbn;simp only[if_true,qad,hx];exact rfl
 ·intro a u σ b w1 hR _
  cases hR with
  | recover =>
   rcases hX:q9A f cs with _ | ⟨v,k⟩<;>cases hro:f.roundOf<;>simp only[hX,hro,H.rfr,if_true] <;>
    exact⟨flx,λg' w' es h _ _=>by cases h;exact⟨rfl,q5m _,λT _=>⟨_,rfl⟩⟩⟩
  | _=>exact⟨flx,λg' w' es h _ _=>by cases h;exact⟨rfl,q5m _,λT _=>⟨_,rfl⟩⟩⟩
 ·intro v u
  exact⟨flx,λg' w' es h _ _=>by cases h;exact⟨rfl,λT=>⟨_,rfl⟩⟩⟩
 ·intro h u ho
  cases h with
  | panic v=>cases ho
  | goexit=>cases ho
  | unsupported x =>
   cases x with
   | initOrder g=>cases ho
   | _=>exact⟨flx,λg' w' es h _ _=>by cases h⟩
  | blocked=>exact⟨flx,λg' w' es h hst _=>by cases h;cases hst⟩
  | waiting=>exact⟨flx,λg' w' es h hst _=>by cases h;cases hst⟩
  | throw m=>exact⟨flx,λg' w' es h _ Z=>by simp only[endThrow,dieOf,qdz] at h;rw[<- h.1] at Z;cases Z⟩
  | fatal m=>exact⟨YH,λg' w' es h _ Z=>absurd Z (qY h)⟩
  | _=>exact⟨flx,λg' w' es h _ _=>by cases h⟩
theorem SM.tri{α β:Type}{R:Rel α β}{s:Sem α}{s':Sem β}(hs:SM Q P R s ρ s')(hk:vM (s.run Q wq)->Knows Q s wq)(hb:base<=ρ.length)(hw:WR Q base ρ wq w):Tri Q R s ρ base wq:=by
 by_cases hf:vM (s.run Q wq)
 ·refine .inl ⟨hk hf,?_⟩
  have a7:WR Q base ρ wq { w with tape:=λn q=>wq.tape (n - w.drawn+wq.drawn) q }:=⟨hw.len,hw.nodup,hw.lt,hw.obj,hw.low,hw.env,hw.below,hw.gar⟩
  obtain⟨σ,a9,w2,b0,Z,_,_,a6,a8⟩:=hs (D:=(rwR (s.run Q wq)).drawn) hb a7 (λn q _=>by
   show wq.tape (wq.drawn+n) q=wq.tape (w.drawn+n - w.drawn+wq.drawn) q;rw[show w.drawn+n - w.drawn+wq.drawn=wq.drawn+n by omega]) (q5m _) hf
  generalize s.run Q wq=r at Z;generalize (qbk P s' _)=r' at Z;cases Z with
  | ok _ _ h=>exact .inl ⟨_,_,rfl,σ,_,_,h,a8.le,a6⟩
  | panic _ _ _=>exact .inr ⟨_,_,rfl⟩
 ·refine .inr ?_
  cases hr:s.run Q wq with
  | ok a u=>rw[hr] at hf;exact absurd trivial hf
  | halt h u =>
   rw[hr] at hf;exact⟨h,u,rfl,by cases ho:odd h with | false=>rfl | true=>exact absurd ho hf⟩
theorem q4c(H:Pair Q P)(hb:base<=ρ.length)(hw:WR Q base ρ wq w){e e':qaH->q58}(he:∀x,qF Q x->VR ρ (e x) (e' x))(hG:Gl P ρ)(hn:Inj ρ)(hc:∀v,e (.const v)=v){o:qbz}(ho:qK Q o.op) :
  Tri Q (@zM _) (execOp e o) ρ base wq:=by
 cases hmu:isMap o.op with
 | false=>exact(KJ H he hG hn hc ho hmu).tri hb hw
 | true =>
  refine SM.tri (KO H he hG hn hc ho) (λhf=>?_) hb hw;obtain⟨dst,op,ty,pos,after,guard⟩:=o;dsimp only at ho hmu;have fin:∀{s:Sem Unit},vM ((do s;pure Next.skip:Sem qe4).run Q wq)->vM (s.run Q wq):=λ{s} hf=>by
   rw[qbB] at hf;cases hx:s.run Q wq with
   | ok a u=>trivial
   | halt h u=>rw[hx] at hf;exact hf
  cases ho with
  | mapUpdate h1 h2 h3 h4=>exact kn_u (Zk H.tables hG hb hw h1 (he _ h2) (he _ h3) (he _ h4) (fin hf))
  | insert h1 h2 h3 h4=>exact kn_u (Zk H.tables hG hb hw h1 (he _ h2) (he _ h3) (he _ h4) (fin hf))
  | _=>cases hmu
theorem ZO(H:Duo Q P)(hb:base<=ρ.length)(hw:WR Q base ρ wq w){f:q8c}{cs:List q8c}(Z:∀d r s k,f.todo≠.call d true r s::k)
  {s s':Sem qe4} (hs:SR Q P zM s ρ s'):One cs wq (λu=>qbn Q true f cs none s u):=Yk H hb hw Z (hs.tri hb hw)
theorem Qx(f:q8c)(cs:List q8c)(v:q58):(∃g,(Live g\/Dead g\/cs=[])/\∀u,qc9 Q true f cs none v u=.go g u #[])\/∃o,∀u,qc9 Q true f cs none v u=.ended o u #[]:=by
 unfold qc9;cases cs with
 | cons c cs =>
  dsimp only;split;all_goals exact .inl ⟨_,flx,λu=>rfl⟩
 | nil =>
  dsimp only;split
  ·rename_i h;cases h
  ·exact .inr ⟨_,λu=>rfl⟩
  ·simp only[Bool.not_true,qa5,if_false]
   split
   ·exact .inl ⟨_,flx,λu=>rfl⟩
   ·exact .inr ⟨_,λu=>rfl⟩
theorem je{cs:List q8c}{r:q3g->qcu}{g:q5r}(h:∀u,r u=.go g u #[])(hl:Live g\/Dead g\/cs=[]:=by exact flx):One cs wq r :=
 ⟨by rw[h];exact hl,λg' w' es e _ _=>by rw[h] at e;cases e;exact⟨rfl,q5m _,λT _=>⟨_,h _⟩⟩⟩
theorem jW(hb:base<=ρ.length)(hw:WR Q base ρ wq w){f:q8c}{cs:List q8c}{d:qc3}
  {s':Sem qe4} (hs:SR Q P zM (invoke d.target d.args) ρ s'):One cs wq (λu=>qc6 Q f cs none d u):=by
 by_cases hc:(ku d.target && kr f.mode)=true
 ·refine yx ⟨.unsupported (.noEntry "machine/Return: a deferred call of a nil function value, made while the frame is unwinding") (f.pos Q),wq,#[],?_⟩
  show qc6 Q f cs none d wq=_;unfold qc6;exact if_pos hc
 apply Qf hs hb hw
 ·intro u x hx
  apply Exists.intro;show qc6 Q f cs none d u=_;unfold qc6;refine(if_neg hc).trans ?_;simp only[qad,hx];exact rfl
 ·intro a u σ b w1 hR _
  cases hR with
  | recover =>
   rcases hX:q9A f cs with _ | ⟨v,k⟩<;>cases hm:f.mode<;>simp only[hX,hm] <;>
    exact⟨flx,λg' w' es h _ _=>by cases h;exact⟨rfl,q5m _,λT _=>⟨_,rfl⟩⟩⟩
  | _=>exact⟨flx,λg' w' es h _ _=>by cases h;exact⟨rfl,q5m _,λT _=>⟨_,rfl⟩⟩⟩
 ·intro v u
  exact⟨flx,λg' w' es h _ _=>by cases h;exact⟨rfl,λT=>⟨_,rfl⟩⟩⟩
 ·intro h u ho
  cases h with
  | panic v=>cases ho
  | goexit=>cases ho
  | unsupported x =>
   cases x with
   | initOrder g=>cases ho
   | _=>exact⟨flx,λg' w' es h _ _=>by cases h⟩
  | blocked=>exact⟨flx,λg' w' es h hst _=>by cases h;cases hst⟩
  | waiting=>exact⟨flx,λg' w' es h hst _=>by cases h;cases hst⟩
  | throw m=>exact⟨flx,λg' w' es h _ Z=>by simp only[endThrow,dieOf,qdz] at h;rw[<- h.1] at Z;cases Z⟩
  | fatal m=>exact⟨YH,λg' w' es h _ Z=>absurd Z (qY h)⟩
  | _=>exact⟨flx,λg' w' es h _ _=>by cases h⟩
theorem Yj(H:Duo Q P)(hb:base<=ρ.length)(hw:WR Q base ρ wq w)(hG:Gl P ρ){f f':q8c}(hf:qu Q P ρ f f')(cs:List q8c) :
  One cs wq (λu=>unwind Q true f cs none u):=by
 have hfd:=hf.defers;unfold unwind;generalize b6:f.defers=ds at hfd;generalize a9:f'.defers=ds' at hfd;cases hfd with
 | @cons d d' ds ds' hd hds =>
  obtain⟨t,a⟩:=d;obtain⟨t',a'⟩:=d';have hs:SR Q P zM (invoke t a) ρ (invoke t' a'):=vx H.toPair hG hd;rcases id hd with⟨a6,_⟩ | ⟨h1,_,n,c,h3⟩
  case bound =>
   dsimp only at h1 h3;subst h1;subst h3;exact jW hb hw hs
  dsimp only at a6;cases a6 with
  | @collected i j hij =>
   apply Qf (q5C (Q:=Q) (P:=P) hij) hb hw
   ·intro u x hx
    apply Exists.intro;simp only[qad,hx];exact rfl
   ·intro l u σ b w1 hR _
    exact⟨flx,λg' w' es h _ _=>by cases h;exact⟨rfl,q5m _,λT _=>⟨_,rfl⟩⟩⟩
   ·intro v u
    exact⟨flx,λg' w' es h _ _=>by cases h⟩
   ·intro h u ho
    exact⟨flx,λg' w' es h _ _=>by cases h⟩
  | fn h1 h2=>exact jW hb hw hs
  | meth n h=>exact jW hb hw hs
  | nil=>exact jW hb hw hs
  | builtin x y z c h=>exact jW hb hw hs
 | nil =>
  dsimp only;obtain⟨gf,a7,b0⟩:=hf.same;cases hm:f.mode with
  | run=>exact yx ⟨_,_,_,rfl⟩
  | panicking l =>
   dsimp only;have a8:f.catches Q=false:=by unfold Frame.catches;rw[a7]
   rw[a8];simp only[qa5,if_false]
   repeat' split
   all_goals first
    | exact je λu=>rfl
    | exact yx ⟨_,_,_,rfl⟩
    | exact⟨flx,λg' w' es h hst Z=>by cases h;cases hst⟩
    | exact⟨flx,λg' w' es h hst Z=>by cases h;cases Z⟩
    | skip
   constructor
   ·show Flat _ (match (reportChain l false).run Q wq with | .ok todo w=>_ | .halt (.unsupported u) w=>_ | .halt h w=>_)
    cases(reportChain l false).run Q wq with
    | ok a w1=>exact flx
    | halt x w1=>cases x<;>exact flx
   ·intro g' w' es h hst Z
    exfalso;revert h;cases(reportChain l false).run Q wq with
    | ok a w1=>intro h;cases h;cases Z
    | halt x w1=>cases x<;>(intro h;cases h)
  | returning =>
   dsimp only;rw[a7];dsimp only;apply Qf (QJ H hG gf hf.tmps) hb hw
   ·intro u x hx
    apply Exists.intro;simp only[qad,hx];exact rfl
   ·intro v u σ b w1 hR _
    rcases Qx (Q:=Q) f cs v with⟨g,hl,h⟩ | ⟨o,h⟩
    ·refine⟨?_,λg' w' es e _ _=>?_⟩
     ·dsimp only
      rw[h];exact hl
     ·dsimp only at e ⊢
      rw[h] at e;cases e;exact⟨rfl,q5m _,λT _=>⟨_,h _⟩⟩
    ·refine⟨?_,λg' w' es e _ _=>?_⟩
     ·dsimp only
      rw[h];trivial
     ·dsimp only at e ⊢
      rw[h] at e;cases e
   ·intro v u
    exact⟨flx,λg' w' es h _ _=>by cases h⟩
   ·intro h u ho
    cases h<;>exact⟨flx,λg' w' es h _ _=>by cases h⟩
theorem Qg(hb:base<=ρ.length)(hw:WR Q base ρ wq w){f f':q8c}(hf:qu Q P ρ f f')(cs:List q8c)(H:Duo Q P)
  {j:Option qcm} (hj:∀x,j=some x->qz Q x) {s s':String} :
  One cs wq (λu=>match f.roundOf with
   | none=>if Yv j=true then .go { frame:={ f with mode:=.returning },callers:=cs,status:=.running,dying:=none } u else .ended (.stuck s (f.pos Q)) u
   | some l =>
    let (r,es):=(qcH l j).runT Q u #[]
    qbf (seen Q f.fn es) <| match r with
    | .ok v w=>qc9 Q true f cs none v w
    | .halt _ w=>.ended (.stuck s' (f.pos Q)) w):=by
 rcases hf.round with⟨r1,r2⟩ | ⟨i,k,r1,r2,hik⟩
 ·rw[r1]
  dsimp only;by_cases hc:Yv j=true
  ·simp only[if_pos hc]
   exact je λu=>rfl
  ·simp only[if_neg hc]
   exact yx ⟨_,_,_,rfl⟩
 ·rw[r1]
  apply Qf (J1 (Q:=Q) (P:=P) hik λx hx=>(H.codes x).2 (hj x hx)) hb hw
  ·intro u x hx
   apply Exists.intro;simp only[qad,hx];exact rfl
  ·intro v u σ b w1 hR _
   rcases Qx (Q:=Q) f cs v with⟨g,hl,h⟩ | ⟨o,h⟩
   ·refine⟨?_,λg' w' es e _ _=>?_⟩
    ·dsimp only
     rw[h];exact hl
    ·dsimp only at e ⊢
     rw[h] at e;cases e;exact⟨rfl,q5m _,λT _=>⟨_,h _⟩⟩
   ·refine⟨?_,λg' w' es e _ _=>?_⟩
    ·dsimp only
     rw[h];trivial
    ·dsimp only at e ⊢
     rw[h] at e;cases e
  ·intro v u
   exact⟨flx,λg' w' es h _ _=>by cases h⟩
  ·intro h u ho
   exact⟨flx,λg' w' es h _ _=>by cases h⟩
theorem q9r(H:Duo Q P)(hb:base<=ρ.length)(hw:WR Q base ρ wq w)(hG:Gl P ρ){f f':q8c}(hf:qu Q P ρ f f')(cs:List q8c) :
  One cs wq (λu=>qd9 Q true true f cs none u):=by
 obtain⟨fn,tmps,todo,defers,mode,kind,ro⟩:=f;obtain⟨c3,a6,b0,Z,a7,a8,b6⟩:=f';have b9:=hf.todo;have b7:∀x,qF Q x->VR ρ (Frame.eval ⟨fn,tmps,todo,defers,mode,kind,ro⟩ x) (Frame.eval ⟨c3,a6,b0,Z,a7,a8,b6⟩ x):=λx hx=>hf.eval hG H.gsize hx;unfold qd9;dsimp only at b9 ⊢;cases b9 with
 | nil=>exact Qg hb hw hf cs H (j:=none) (λx h=>by cases h)
 | @cons x x' k k' hx hk =>
  cases hx with
  | @code c hc =>
   cases hc with
   | skip=>exact je λu=>rfl
   | label n=>exact je λu=>rfl
   | ret=>exact Qg hb hw hf cs H (j:=some .ret) (λx h=>by cases h;exact .ret)
   | seq h1 h2=>exact je λu=>rfl
   | @cond c x y h0 h1 h2 =>
    dsimp only;split
    ·exact je λu=>rfl
    ·exact yx ⟨_,_,_,rfl⟩
   | block h=>exact je λu=>rfl
   | loop h=>exact je λu=>rfl
   | scope h=>exact je λu=>rfl
   | exit id =>
    dsimp only;cases exitTo id k with
    | none=>exact Qg hb hw hf cs H (j:=some (.exit id)) (λx h=>by cases h;exact .exit id)
    | some m=>exact je λu=>rfl
   | goto n =>
    dsimp only;cases gotoIn n k with
    | none=>exact Qg hb hw hf cs H (j:=some (.goto n)) (λx h=>by cases h;exact .goto n)
    | some m=>exact je λu=>rfl
   | @region id ops d hops =>
    dsimp only;cases d with
    | false=>exact je λu=>rfl
    | true =>
     simp only[Bool.not_true,qa5,if_false,ZN];refine⟨flx,λg' w' es h _ _=>?_⟩;cases h;refine⟨rfl,Nat.le_succ _,λT hT=>?_⟩;have e:(wq.tp T).tape (wq.tp T).drawn (.order fn id)=wq.tape wq.drawn (.order fn id):=hT _ _ (q5m _) (Nat.lt_succ_self _);rw[e];exact⟨_,rfl⟩
   | @rangeFunc c ps a bd h0 h1 h2 =>
    dsimp only;apply Qf (Za (Q:=Q) (P:=P) fn ((H.same fn).2 ⟨hf.same,hf.okf⟩) hf.tmps ps ((H.codes a).2 h1) ((H.codes bd).2 h2) hf.round) hb hw
    ·intro u x hx
     apply Exists.intro;simp only[qad];dsimp only at hx;rw[hx]
    ·intro x u σ y w1 hR ⟨hl,c8⟩
     obtain⟨i,m⟩:=x;obtain⟨i',m'⟩:=y;obtain⟨hbr,hm⟩:=hR;dsimp only at hbr hm ⊢;have hy:AsR σ #[Value.func (Fn.yield i) #[] #[]] #[Value.func (Fn.yield i') #[] #[]] :=
      AsR.one (.func (a:=#[]) (a':=#[]) (c:=#[]) (c':=#[]) (.yield hbr) rfl (λi x y hx=>by simp at hx) rfl (λi x y hx=>by simp at hx))
     have b8:∀(e:qaH->q58) (v:q58),#[Operand.const v].map e=#[e (.const v)]:=λe v=>by simp
     have:=ZO (cs:=cs) (f:=⟨fn,tmps,.inRangeFunc i::k,m++defers,mode,kind,ro⟩) H (q87 hb hl.len) c8 (λd r s k e=>by cases e)
      (s:=do let d <- resolve (Frame.eval ⟨fn,tmps,.inRangeFunc i::k,m++defers,mode,kind,ro⟩) { callee:=.value c,args:=#[.const (.func (.yield i) #[] #[])],argTypes:=#[] } 0;invoke d.target d.args)
      (s':=do let d <- resolve (Frame.eval ⟨c3,a6,.inRangeFunc i'::k',m'++Z,a7,a8,b6⟩) { callee:=.value c,args:=#[.const (.func (.yield i') #[] #[])],argTypes:=#[] } 0;invoke d.target d.args)
      (.bnd (R:=yO) (QK H.toPair ((b7 _ h0).mono hl) (by rw[b8,b8];exact hy)) λτ d d' l' hd=>vx H.toPair (hG.mono (hl.trans l')) hd)
     exact⟨this.flat,this.go⟩
    ·intro v u
     exact⟨flx,λg' w' es h _ _=>by cases h⟩
    ·intro h u ho
     exact⟨flx,λg' w' es h _ _=>by cases h⟩
  | inBlock id=>exact je λu=>rfl
  | inScope h=>exact je λu=>rfl
  | inLoop h=>exact je λu=>rfl
  | @inRegion ops l hops =>
   cases l with
   | nil=>exact je λu=>rfl
   | cons i l =>
    dsimp only;by_cases hc:((ops[i]?).map (qb0 · (yielded ops tmps))).getD false=true
    ·simp only[if_pos hc]
     unfold stepG.oper Frame.oper?;dsimp only;cases ho:ops[i]? with
     | none=>exact yx ⟨_,_,_,rfl⟩
     | some o =>
      dsimp only;have hok:=hops o (by rw[qcs];exact qby ho);have plain:=Yk (cs:=cs) H hb hw (f:=⟨fn,tmps,.inRegion ops (i::l)::k,defers,mode,kind,ro⟩) (λd r s k e=>by cases e) (q4c H.toPair hb hw b7 hG hw.nodup (λv=>rfl) hok);rcases hf.round with⟨r1,r2⟩ | ⟨a,b',r1,r2,hij⟩
      ·dsimp only at r1 r2
       subst r1;subst r2;exact plain
      ·dsimp only at r1 r2
       subst r1;subst r2;by_cases a9:∃c,o.op=.defer c
       ·obtain⟨c,a9⟩:=a9
        rw[a9] at hok ⊢;dsimp only;cases hok with
        | defer hcall =>
         exact ZO H hb hw (λd r s k e=>by cases e) (SR.bnd (vP H.toPair b7 hcall _) λσ d d' l hd=>.bnd (xr (hij.mono l) hd) λτ _ _ _ _=>qd .skip)
       ·split
        ·rename_i e1 e2
         exact absurd ⟨_,e2⟩ a9
        ·exact plain
    ·simp only[if_neg hc]
     exact je λu=>rfl
  | inRangeFunc h=>exact yx ⟨_,_,_,rfl⟩
  | @endRangeFunc i j h =>
   dsimp only;apply Qf (Y2 H hG h) hb hw
   ·intro u x hx
    apply Exists.intro;simp only[qad,hx];exact rfl
   ·intro l u σ b w1 hR _
    exact⟨flx,λg' w' es h _ _=>by cases h;exact⟨rfl,q5m _,λT _=>⟨_,rfl⟩⟩⟩
   ·intro v u
    exact⟨flx,λg' w' es h _ _=>by cases h;exact⟨rfl,λT=>⟨_,rfl⟩⟩⟩
   ·intro h u ho
    cases h<;>first | (cases ho;done) | exact⟨flx,λg' w' es h _ _=>by cases h⟩
  | beginRound =>
   dsimp only;refine ZO (P:=P) (s':=(do b6.elim (stuck "beginRound: no round") Instr.beginRound;pure .skip)) H hb hw (λd r s k e=>by cases e) ?_;refine .bnd (R:=λ_ _ _=>True) ?_ λσ _ _ _ _=>qd .skip;rcases hf.round with⟨r1,r2⟩ | ⟨i,j,r1,r2,hij⟩
   ·dsimp only at r1 r2
    rw[r1,r2];exact qf
   ·dsimp only at r1 r2
    rw[r1,r2];exact Qs H hG hij
theorem q2D(H:Duo Q P)(hb:base<=ρ.length)(hw:WR Q base ρ wq w)(hG:Gl P ρ){g g':q5r}(hg:kH Q P ρ g g'):One g.callers wq (λu=>qb7 Q true g u true):=by
 obtain⟨fr,cs,st,dy,off⟩:=g;obtain⟨h1,h2,h3,h4,h5,h6⟩:=hg;dsimp only at h1 h2 h3 h4 h5 h6;subst h5;have hm:=h1.mode;unfold qb7;dsimp only;generalize hmm:fr.mode=m at hm;generalize Z:g'.frame.mode=m' at hm;cases hm with
 | run=>exact q9r H hb hw hG h1 cs
 | returning=>exact Yj H hb hw hG h1 cs
 | panicking hl=>exact Yj H hb hw hG h1 cs
end
end Go.Sim
end
section
namespace Go.Sim
inductive LP (Q:q8b) (F:q5r->q3g->Prop):q5r->q3g->Prop
 | done {g:q5r} {u:q3g}:F g u->LP Q F g u
 | step {g g1:q5r} {u u1:q3g} {es:Array qbr}:qb7 Q true g u true=.go g1 u1 es->g1.status=.running->g1.dying=none->LP Q F g1 u1->LP Q F g u
inductive LT (Q:q8b) (F:q5r->q3g->Prop):q5r->q3g->Prop
 | done {g:q5r} {u:q3g}:F g u->LT Q F g u
 | step {g:q5r} {u:q3g}:¬ F g u->(∀T,∃g1 u1 es,qb7 Q true g (u.tp T) true=.go g1 u1 es/\g1.status=.running/\g1.dying=none) ->
   (∀T g1 u1 es,qb7 Q true g (u.tp T) true=.go g1 u1 es->LT Q F g1 u1)->LT Q F g u
section
variable[JunkSet]{Q:q8b}{base:Nat}{F:q5r->q3g->Prop}
def xn(Q:q8b)(base:Nat)(g:q5r)(u:q3g):Prop :=
 ∃ρ g' w,base<=ρ.length/\WR Q base ρ u w/\Gl Q ρ/\kH Q Q ρ g g'
theorem WR.tape{ρ:Ren}{u w:q3g}(h:WR Q base ρ u w)(T T':Nat->qc7->Nat):WR Q base ρ (u.tp T) (w.tp T'):=⟨h.len,h.nodup,h.lt,h.obj,h.low,h.env,h.below,h.gar⟩
theorem xn.tape{g:q5r}{u:q3g}(h:xn Q base g u)(T:Nat->qc7->Nat):xn Q base g (u.tp T) :=
 let ⟨ρ,g',w,h1,h2,h3,h4⟩:=h
 ⟨ρ,g',w,h1,h2.tape T w.tape,h3,h4⟩
theorem xn.one(H:Duo Q Q){g:q5r}{u:q3g}(h:xn Q base g u):One g.callers u (λu=>qb7 Q true g u true) :=
 let ⟨_,_,_,h1,h2,h3,h4⟩:=h
 q2D H h1 h2 h3 h4
theorem xn.next(H:Duo Q Q){g g1:q5r}{u u1:q3g}{es:Array qbr}(h:xn Q base g u)(e:qb7 Q true g u true=.go g1 u1 es)(hs:g1.status=.running)(hd:g1.dying=none):xn Q base g1 u1:=by
 have hm:=((h.one H).go _ _ _ e hs hd).2.1;obtain⟨ρ,g',w,h1,h2,h3,h4⟩:=h;have h2':=h2.tape u.tape (λn q=>u.tape (n - w.drawn+u.drawn) q);have ht:zw u1.drawn u (w.tp λn q=>u.tape (n - w.drawn+u.drawn) q):=λn q _=>by
  show u.tape (u.drawn+n) q=u.tape (w.drawn+n - w.drawn+u.drawn) q;rw[show w.drawn+n - w.drawn+u.drawn=u.drawn+n by omega]
 obtain⟨σ,g'',w',es',_,k1,k2,_,k4,_⟩:=q9c H h1 h2' h3 ht hm h4 true _ _ _ e (q5m _) hs hd rfl;exact⟨σ,g'',w',q87 h1 k4.le.len,k2,h3.mono k4.le,k1⟩
theorem q21(u:q3g)(T T':Nat->qc7->Nat):(u.tp T).tp T'=u.tp T':=rfl
theorem Jy(u:q3g):u.tp u.tape=u:=rfl
theorem LP.ext(H:Duo Q Q)(hF:∀g u T,F g u->F g (u.tp T)){g:q5r}{u:q3g}(h:LP Q F g u)(hr:xn Q base g u){T:Nat->qc7->Nat}(hT:∀k q,u.drawn<=k->T k q=u.tape k q):LP Q F g (u.tp T):=by
 induction h with
 | done h=>exact .done (hF _ _ _ h)
 | @step g g1 u u1 es e hs hd _ ih =>
  obtain⟨h1,h2,h3⟩:=(hr.one H).go _ _ _ e hs hd;obtain⟨es',e'⟩:=h3 T λk q hk _=>hT k q hk;exact .step e' hs hd (ih (hr.next H e hs hd) λk q hk=>by rw[h1];exact hT k q (q87 h2 hk))
theorem LP.inv{g:q5r}{u:q3g}(hF:¬ F g u)(h:LP Q F g u):∃g1 u1 es,qb7 Q true g u true=.go g1 u1 es/\g1.status=.running/\g1.dying=none/\LP Q F g1 u1:=by
 cases h with
 | done h=>exact absurd h hF
 | step e hs hd h=>exact⟨_,_,_,e,hs,hd,h⟩
theorem LP.rest(H:Duo Q Q)(hF:∀g u T,F g u->F g (u.tp T)){g g1:q5r}{u u1:q3g}{es:Array qbr}(hr:xn Q base g u)(hn:¬ F g u)(h:∀T,LP Q F g (u.tp T))
  {T:Nat->qc7->Nat} (e:qb7 Q true g (u.tp T) true=.go g1 u1 es) (hs:g1.status=.running) (hd:g1.dying=none) (T':Nat->qc7->Nat):LP Q F g1 (u1.tp T'):=by
 have Z:=(hr.tape T).next H e hs hd
 obtain⟨h1,h2,h3⟩:=((hr.tape T).one H).go _ _ _ e hs hd
 let T2:Nat->qc7->Nat:=λk q=>if k<u1.drawn then T k q else T' k q
 obtain⟨a7,e2⟩:=h3 T2 λk q _ hk=>by show(if k<u1.drawn then T k q else T' k q)=T k q;rw[if_pos hk]
 rw[q21] at e2;have a6:¬ F g (u.tp T2):=λhh=>hn (by have:=hF _ _ u.tape hh;rwa [q21,Jy] at this);obtain⟨g2,u2,es3,e3,_,_,h4⟩:=LP.inv a6 (h T2);rw[e3] at e2;cases e2;have:=LP.ext H hF h4 (Z.tape T2) (T:=T') λk q hk=>by
  show T' k q=if k<u1.drawn then T k q else T' k q;rw[if_neg (by have:u1.drawn<=k:=hk;omega)]
 exact this
theorem LT.of_all(H:Duo Q Q)(hF:∀g u T,F g u->F g (u.tp T)){g:q5r}{u:q3g}(hr:xn Q base g u)(h:∀T,LP Q F g (u.tp T)):LT Q F g u:=by
 classical
 refine qbw λa8=>?_
 let Bd:q5r × q3g->Prop:=λx=>xn Q base x.1 x.2/\(∀T,LP Q F x.1 (x.2.tp T))/\¬ LT Q F x.1 x.2
 have a7:∀x:{x // Bd x},∃y:(Nat->qc7->Nat) × {y // Bd y},∃es,qb7 Q true x.1.1 (x.1.2.tp y.1) true=.go y.2.1.1 y.2.1.2 es/\y.2.1.1.status=.running/\y.2.1.1.dying=none:=by
  rintro⟨⟨g,u⟩,hr,hl,hn⟩;dsimp only at hr hl hn ⊢;have hf:¬ F g u:=λhf=>hn (.done hf);have b0:∀T,¬ F g (u.tp T):=λT hh=>hf (by have:=hF _ _ u.tape hh;rwa [q21,Jy] at this);refine qbw λa8=>hn (.step hf (λT=>?_) λT g1 u1 es e=>?_)
  ·obtain⟨g1,u1,es,e,hs,hd,_⟩:=LP.inv (b0 T) (hl T)
   exact⟨g1,u1,es,e,hs,hd⟩
  ·obtain⟨g2,u2,c3,e2,hs,hd,_⟩:=LP.inv (b0 T) (hl T)
   rw[e] at e2;cases e2;refine qbw λhlt=>a8 ⟨(T,⟨(g1,u1),(hr.tape T).next H e hs hd,λT'=>LP.rest H hF hr hf hl e hs hd T',hlt⟩),es,e,hs,hd⟩
 let nx:{x // Bd x}->(Nat->qc7->Nat) × {y // Bd y}:=λx=>qd3 (a7 x)
 have a9:∀x,∃es,qb7 Q true x.1.1 (x.1.2.tp (nx x).1) true=.go (nx x).2.1.1 (nx x).2.1.2 es/\(nx x).2.1.1.status=.running/\(nx x).2.1.1.dying=none:=λx=>qdl (a7 x)
 let st:Nat->{x // Bd x}:=λn=>Nat.rec ⟨(g,u),hr,h,a8⟩ (λ_ x=>(nx x).2) n
 have hst:∀n,st (n+1)=(nx (st n)).2:=λn=>rfl
 let dr:Nat->Nat:=λn=>(st n).1.2.drawn
 have a6:∀n,dr n<=dr (n+1):=λn=>by
  obtain⟨es,e,hs,hd⟩:=a9 (st n);exact((((st n).2.1.tape _).one H).go _ _ _ e hs hd).2.1
 have Z:∀m n,m<=n->dr m<=dr n:=λm n b7=>by
  induction b7 with
  | refl=>exact q5m _
  | step _ ih=>exact q87 ih (a6 _)
 let Ts:Nat->qc7->Nat:=λk q=>if hx:∃n,dr n<=k/\k<dr (n+1) then(nx (st (qd3 hx))).1 k q else 0
 have b9:∀n k q,dr n<=k->k<dr (n+1)->Ts k q=(nx (st n)).1 k q:=λn k q h1 h2=>by
  have hx:∃n,dr n<=k/\k<dr (n+1):=⟨n,h1,h2⟩
  show(if hx:∃n,dr n<=k/\k<dr (n+1) then(nx (st (qd3 hx))).1 k q else 0)=_;rw[dif_pos hx];obtain⟨h3,h4⟩:=qdl hx;have:qd3 hx=n:=by
   rcases Nat.lt_trichotomy (qd3 hx) n with hlt | he | hgt
   ·exact absurd (q8m h4 (q87 (Z (qd3 hx+1) n hlt) h1)) (qee _)
   ·exact he
   ·exact absurd (q8m h2 (q87 (Z (n+1) (qd3 hx) hgt) h3)) (qee _)
  rw[this]
 have key:∀(x:q5r) (v:q3g),LP Q F x v->∀n,x=(st n).1.1->v=(st n).1.2.tp Ts->False:=by
  intro x v hl;induction hl with
  | @done g u hf =>
   intro n h1 h2;subst h1;subst h2;exact(st n).2.2.2 (.done (by have:=hF _ _ (st n).1.2.tape hf;rwa [q21,Jy] at this))
  | @step g g1 u u1 es e hs hd _ ih =>
   intro n h1 h2;subst h1;subst h2;obtain⟨c3,e2,b6,hd2⟩:=a9 (st n);obtain⟨_,_,h3⟩:=(((st n).2.1.tape _).one H).go _ _ _ e2 b6 hd2;obtain⟨es3,e3⟩:=h3 Ts λk q hk b8=>b9 n k q hk b8;rw[q21] at e3;rw[e] at e3;cases e3;exact ih (n+1) rfl rfl
 exact key _ _ (h Ts) 0 rfl rfl
end
end Go.Sim
end
section
namespace Go.Sim
def qj(f:qbe):q8c:={ fn:=f,tmps:=#[],todo:=[.code (.exit 0)],defers:=[{ target:=.nil,args:=#[] }],mode:=.run,kind:=.normal }
def Popped(f:qbe)(fr:q8c):Prop:=fr=qj f\/∃l,fr={ qj f with mode:=.panicking l }
def Stk(f:qbe)(g:q5r):Prop:=(∃pre,g.callers=pre++[qj f])\/(g.callers=[]/\Popped f g.frame)
def j3(f:qbe)(r:qcu):Prop:=∀g1 u1 es,r=.go g1 u1 es->g1.status=.running->g1.dying=none->Stk f g1
section
variable[JunkSet]{Q:q8b}{f:qbe}
theorem jM{s:qcu}{es:Array qbr}(h:j3 f s):j3 f (qbf es s):=λg1 u1 es' e hs hd=>by
 obtain⟨e0,h0,_⟩:=zX e;exact h _ _ _ h0 hs hd
theorem qD{o:Outcome}{u:q3g}{es:Array qbr}:j3 f (.ended o u es):=λ_ _ _ e _ _=>by cases e
theorem qT{fr:q8c}{pre cs:List q8c}{st:qd0}{dy:Option Dying}{off:Option (Array qda × qcB)}{u:q3g}{es:Array qbr}(h:cs=pre++[qj f]):j3 f (.go { frame:=fr,callers:=cs,status:=st,dying:=dy,offers:=off } u es):=λ_ _ _ e _ _=>by
 cases e;exact .inl ⟨pre,h⟩
theorem q3d{g:q5r}{u:q3g}{es:Array qbr}(h:g.dying≠none):j3 f (.go g u es):=λ_ _ _ e _ hd=>by cases e;exact absurd hd h
theorem yK{s:qcu}(h:∀g u es,s≠.go g u es):j3 f s:=λg u es e _ _=>absurd e (h g u es)
theorem Jd{fr:q8c}{cs:List q8c}{m:String}{u:q3g}:j3 f (endFatal Q fr cs none m u):=λg1 u1 es e _ hd=>absurd hd (qY e)
theorem xV{fr:q8c}{m:String}{u:q3g}:j3 f (endThrow fr m u):=q3d (by simp)
theorem vD{c:q8c}{rest:List q8c}{pre:List q8c}(h:c::rest=pre++[qj f]){fr:q8c}{st:qd0}{dy:Option Dying}{u:q3g}{es:Array qbr}(hf:c=qj f->Popped f fr) :
  j3 f (.go { frame:=fr,callers:=rest,status:=st,dying:=dy } u es):=λ_ _ _ e _ _=>by
 cases e;cases pre with
 | nil =>
  simp only[qae,qd1] at h;exact .inr ⟨h.2,hf h.1⟩
 | cons p pre =>
  simp only[q9y,qd1] at h;exact .inl ⟨pre,h.2⟩
theorem J5:Popped f (qj f):=.inl rfl
theorem Qu(v:q58):Popped f ((qj f).finish v):=.inl rfl
theorem q14(l:List PanicEntry):Popped f ((qj f).raise l):=.inr ⟨l,rfl⟩
theorem Qt:∀{cs:List q8c} {fr:q8c} {pre k:List q8c} {v:q58},cs=pre++[qj f]->q9A fr cs=some (v,k)->∃pre',k=pre'++[qj f]:=by
 intro cs;induction cs with
 | nil=>intro fr pre k v h;cases pre<;>simp at h
 | cons c cs ih =>
  intro fr pre k v h e;unfold q9A at e;cases hk:fr.kind with
  | deferred =>
   rw[hk] at e;dsimp only at e;cases pre with
   | nil =>
    simp only[qae,qd1] at h;rw[h.1] at e;cases e
   | cons p pre =>
    simp only[q9y,qd1] at h;split at e
    ·simp only[qaz,Prod.mk.injEq] at e
     exact⟨_::pre,by rw[<- e.2,h.2];rfl⟩
    ·cases e
  | wrapped =>
   rw[hk] at e;dsimp only at e;cases pre with
   | nil =>
    simp only[qae,qd1] at h;rw[h.1,h.2] at e;cases e
   | cons p pre =>
    simp only[q9y,qd1] at h;cases ht:q9A c cs with
    | none=>rw[ht] at e;cases e
    | some x =>
     obtain⟨v',k'⟩:=x;rw[ht] at e;simp only[qbt,qaz,Prod.mk.injEq] at e;obtain⟨pre',hp⟩:=ih h.2 ht;exact⟨c::pre',by rw[<- e.2,hp];rfl⟩
  | _=>rw[hk] at e;cases e
theorem xd{fr:q8c}{cs pre:List q8c}(h:cs=pre++[qj f])(v:q58)(u:q3g):j3 f (qc9 Q true fr cs none v u):=by
 unfold qc9;cases cs with
 | nil=>cases pre<;>simp at h
 | cons c rest =>
  dsimp only;split
  ·exact vD h λe=>e ▸ Qu v
  ·exact vD h λe=>e ▸ Qu v
  ·exact vD h λe=>e ▸ J5
  ·exact vD h λe=>by subst e;exact J5
theorem q7l{fr fr2:q8c}{X pre cs:List q8c}{st:qd0}{dy:Option Dying}{off:Option (Array qda × qcB)}{u:q3g}{es:Array qbr}(h:cs=pre++[qj f]):j3 f (.go { frame:=fr,callers:=X++fr2::cs,status:=st,dying:=dy,offers:=off } u es) :=
 qT (pre:=X++fr2::pre) (by rw[h];simp)
theorem Yy{fr fr2:q8c}{pre cs:List q8c}{st:qd0}{dy:Option Dying}{off:Option (Array qda × qcB)}{u:q3g}{es:Array qbr}(h:cs=pre++[qj f]):j3 f (.go { frame:=fr,callers:=fr2::cs,status:=st,dying:=dy,offers:=off } u es) :=
 qT (pre:=fr2::pre) (by rw[h];simp)
theorem q3c{fr:q8c}{cs pre:List q8c}(h:cs=pre++[qj f])(g:Nat)(u:q3g):j3 f (early Q fr cs none g u):=by
 unfold early;have h1:∀w:q3g,j3 f (match w.heap[g]? with
  | some (.pending c elem)=>.go { frame:=fr,callers:=cs,status:=.running,dying:=none } { w with heap:=w.heap.setIfInBounds g (.cells c elem) }
  | _=>.ended (.stuck "early: the variable does not wait" (fr.pos Q)) w):=λw=>by
  split
  ·exact qT h
  ·exact qD
 dsimp only;split
 ·exact h1 _
 ·split
  ·exact qD
  ·repeat' split
   all_goals first
    | exact h1 _
    | exact qD
    | exact qT h
    | exact q7l h
    | skip
theorem yL(hrf:Q.follows .rangeFuncRecover=true){fr:q8c}{cs pre:List q8c}(h:cs=pre++[qj f])(s:Sem qe4)(u:q3g):j3 f (qbn Q true fr cs none s u):=by
 unfold qbn;simp only[if_true,qad,hrf];refine jM ?_;cases s.run Q u with
 | ok a w =>
  cases a with
  | recover =>
   have hr:∀{v k},q9A fr cs=some (v,k)->j3 f (.go { frame:=fr.finish v,callers:=k,status:=.running,dying:=none } w):=λe=>by
    obtain⟨pre',hp⟩:=Qt h e;exact qT hp
   rcases hX:q9A fr cs with _ | ⟨v,k⟩<;>cases hro:fr.roundOf<;>simp only[hX,hro]<;>first | exact hr hX | exact qT h
  | spawn d =>
   dsimp only
   repeat' split
   all_goals first
    | exact xV
    | exact yK (λ_ _ _ e=>by cases e)
  | _ =>
   dsimp only
   repeat' split
   all_goals first
    | exact qT h
    | exact Yy h
    | exact yK (λ_ _ _ e=>by cases e)
 | halt x w =>
  cases x with
  | fatal m=>exact Jd
  | throw m=>exact xV
  | unsupported x=>cases x<;>first | exact q3c h _ _ | exact qD
  | _=>first | exact qT h | exact qD
theorem Yz{fr:q8c}{cs pre:List q8c}(h:cs=pre++[qj f])(d:qc3)(u:q3g):j3 f (qc6 Q fr cs none d u):=by
 unfold qc6;by_cases hc:(ku d.target && kr fr.mode)=true
 ·have:∀(a b:qcu),(∃o u es,a=.ended o u es)->j3 f (if(ku d.target && kr fr.mode)=true then a else b):=λa b ⟨o,u,es,e⟩=>by
   rw[if_pos hc,e];exact qD
  exact this _ _ ⟨_,_,_,rfl⟩
 have Z:∀(a b:qcu),j3 f b->j3 f (if(ku d.target && kr fr.mode)=true then a else b):=λa b hb=>by rw[if_neg hc];exact hb
 refine Z _ _ ?_;simp only[qad];refine jM ?_;cases qbk Q (invoke d.target d.args) u with
 | ok a w =>
  cases a with
  | recover =>
   dsimp only;split
   ·rename_i e
    obtain⟨pre',hp⟩:=Qt h e;exact qT hp
   ·exact qT h
  | coroswitch c e=>cases e<;>first | exact qD | exact yK (λ_ _ _ e=>by cases e)
  | alone on v=>cases on<;>first | exact qD | exact yK (λ_ _ _ e=>by cases e)
  | _ =>
   first
    | exact qT h
    | exact Yy h
    | exact qD
    | exact yK (λ_ _ _ e=>by cases e)
 | halt x w =>
  cases x with
  | fatal m=>exact Jd
  | throw m=>exact xV
  | _=>first | exact qT h | exact qD
theorem Zl{fr:q8c}{cs pre:List q8c}(h:cs=pre++[qj f])(u:q3g):j3 f (unwind Q true fr cs none u):=by
 unfold unwind;split
 ·simp only[qad]
  refine jM ?_;split
  ·exact qT h
  ·exact qD
 ·exact Yz h _ _
 ·split
  ·exact qD
  ·split
   ·exact qD
   ·cases cs with
    | nil=>cases pre<;>simp at h
    | cons c rest=>exact vD h λe=>e ▸ q14 _
  ·split
   ·exact xd h _ _
   ·simp only[qad]
    refine jM ?_;split
    ·exact xd h _ _
    all_goals exact qD
theorem q54(hrf:Q.follows .rangeFuncRecover=true){fr:q8c}{cs pre:List q8c}(h:cs=pre++[qj f])(u:q3g):j3 f (qd9 Q true true fr cs none u):=by
 have Z:∀(j:Bool) (jj:Option qcm) (s s':String),j3 f (match fr.roundOf with
   | none=>if j=true then .go { frame:={ fr with mode:=.returning },callers:=cs,status:=.running,dying:=none } u else .ended (.stuck s (fr.pos Q)) u
   | some l =>
    let (r,es):=(qcH l jj).runT Q u #[]
    qbf (seen Q fr.fn es) <| match r with
    | .ok v w=>qc9 Q true fr cs none v w
    | .halt _ w=>.ended (.stuck s' (fr.pos Q)) w):=λj jj s s'=>by
  split
  ·split
   ·exact qT h
   ·exact qD
  ·simp only[qad]
   refine jM ?_;split
   ·exact xd h _ _
   ·exact qD
 unfold qd9;dsimp only;split
 ·exact Z true _ _ _
 ·exact Z true _ _ _
 all_goals first
  | exact qT h
  | exact qD
  | exact yL hrf h _ _
  | (
    generalize exitTo _ _=X;cases X
    ·exact Z false _ _ _
    ·exact qT h)
  | (
    generalize gotoIn _ _=X;cases X
    ·exact Z false _ _ _
    ·exact qT h)
  | (
    unfold stepG.oper
    repeat' split
    all_goals first
     | exact qT h
     | exact qD
     | exact yL hrf h _ _)
  | (
    simp only[qad];refine jM ?_
    repeat' split
    all_goals first
     | exact qT h
     | exact qD
     | exact yL hrf h _ _)
  | (
    repeat' split
    all_goals first
     | exact qT h
     | exact qD
     | exact yL hrf h _ _)
  | (
    generalize Extern.next _=X
    cases X
    ·exact qD
    ·exact yL hrf h _ _)
theorem xK(hrf:Q.follows .rangeFuncRecover=true){g:q5r}{pre:List q8c}(h:g.callers=pre++[qj f])(hd:g.dying=none)(u:q3g):j3 f (qb7 Q true g u true):=by
 obtain⟨fr,cs,st,dy,off⟩:=g;dsimp only at h hd;subst hd;unfold qb7;dsimp only;cases fr.mode with
 | run=>exact q54 hrf h u
 | returning=>exact Zl h u
 | panicking l=>exact Zl h u
theorem xP{fr:q8c}(h:Popped f fr)(st:qd0)(off:Option (Array qda × qcB))(u:q3g):∃o u' es,qb7 Q true { frame:=fr,callers:=[],status:=st,dying:=none,offers:=off } u true=.ended o u' es:=by
 rcases h with rfl | ⟨l,rfl⟩
 ·exact⟨_,_,_,rfl⟩
 ·exact⟨_,_,_,rfl⟩
end
end Go.Sim
end
section
namespace Go.Sim
def zG(g:q5r)(u:q3g):Machine:={ world:=u,gs:=#[g],rest:={ timers:=#[],alone:=none,slice:=none } }
section
variable{Q:q8b}
theorem KZ{g:q5r}{u:q3g}(h:g.status=.running):move Q (zG g u)=.goroutine (zG g u) 0:=by
 simp[move,ask,askOn,zG,runnable,runnable.go,due,ahead,Goroutine.canRun,List.range_succ,choose,pure,qbk,Question.forced,h]
theorem Z7{g g1:q5r}{u u1:q3g}{es:Array qbr}(h:g.status=.running)(e:qb7 Q true g u true=.go g1 u1 es):step Q (zG g u)=.next (zG g1 u1):=by
 rw[step,stepT,KZ h];simp[runT,zG,Array.swapAt!,e]
theorem yP{g:q5r}{u u1:q3g}{o:Outcome}{es:Array qbr}(h:g.status=.running)(e:qb7 Q true g u true=.ended o u1 es):step Q (zG g u)=.ended o u1:=by
 rw[step,stepT,KZ h];simp[runT,zG,Array.swapAt!,e]
theorem q7D{g:q5r}(u:q3g)(h:Dead g):(∃o u1,step Q (zG g u)=.ended o u1)\/∃g1 u1,step Q (zG g u)=.next (zG g1 u1)/\Dead g1:=by
 have jQ:(g.status=.blocked\/g.status=.waiting\/g.status=.finished)->(∃o u1,step Q (zG g u)=.ended o u1)\/∃g1 u1,step Q (zG g u)=.next (zG g1 u1)/\Dead g1:=by
  intro hs;by_cases hw:g.status=.waiting
  ·refine .inr ⟨g,u,?_,.inr (.inl hw)⟩
   rw[step,stepT];simp[move,ask,askOn,zG,runnable,runnable.go,due,ahead,Goroutine.canRun,List.range_succ,choose,pure,qbk,Question.forced,hw]
  ·refine .inl ?_
   have a6:runnable #[g] u.os.mono=[]:=by
    rcases hs with h | h | h<;>simp[runnable,runnable.go,Goroutine.canRun,h]
   have a9:∀b,ahead (zG g u) b=none:=by
    intro b;rcases hs with h | h | h<;>simp[ahead,zG,h]
   rw[step,stepT];have hm:∃o u1,move Q (zG g u)=.machine (.ended o u1):=by
    have Z:=a9 false;simp only[zG] at Z;simp only[move,ask,askOn,zG,a6,due,Z];simp[pure,qbk,hw];split
    ·rename_i t ht
     rw[Z] at ht;cases ht
    ·split
     ·exact⟨_,_,rfl⟩
     ·exact⟨_,_,rfl⟩
   obtain⟨o,u1,e⟩:=hm;rw[e];exact⟨o,u1,rfl⟩
 rcases h with h | h | h | ⟨h,d,hd,hc,hf⟩
 ·exact jQ (.inl h)
 ·exact jQ (.inr (.inl h))
 ·exact jQ (.inr (.inr h))
 ·have hst:(∃o u1 es,qb7 Q true g u true=.ended o u1 es)\/∃g1 u1 es,qb7 Q true g u true=.go g1 u1 es/\Dead g1:=by
   obtain⟨fr,cs,st,dy,off⟩:=g;obtain⟨todo,a8,a7,pending,re,b0,fatal⟩:=d;dsimp only at h hd hc hf;subst hd;subst hc;cases fatal with
   | none=>cases hf
   | some f =>
    unfold qb7;dsimp only;unfold die writeOn;dsimp only;split
    ·exact .inl ⟨_,_,_,rfl⟩
    ·split
     ·exact .inr ⟨_,_,_,rfl,.inr (.inr (.inr ⟨rfl,_,rfl,rfl,rfl⟩))⟩
     ·exact .inr ⟨_,_,_,rfl,.inl rfl⟩
     ·exact .inl ⟨_,_,_,rfl⟩
     ·exact .inl ⟨_,_,_,rfl⟩
  rcases hst with⟨o,u1,es,e⟩ | ⟨g1,u1,es,e,hd1⟩
  ·exact .inl ⟨o,u1,yP h e⟩
  ·exact .inr ⟨g1,u1,Z7 h e,hd1⟩
theorem q5h:∀(n:Nat) {g g1:q5r} {u u1:q3g},Dead g->runN Q n (zG g u)=.next (zG g1 u1)->¬ Live g1:=by
 intro n;induction n with
 | zero =>
  intro g g1 u u1 hd e hl;simp only[runN,Stepped.next.injEq,zG,Machine.mk.injEq] at e;obtain⟨_,e,_⟩:=e;have e:g=g1:=by simpa using e
  subst e;obtain⟨h1,h2⟩:=hl;rcases hd with h | h | h | ⟨h,d,hd,_⟩
  ·rw[h] at h1;cases h1
  ·rw[h] at h1;cases h1
  ·rw[h] at h1;cases h1
  ·rw[hd] at h2;cases h2
 | succ n ih =>
  intro g g1 u u1 hd e;rcases q7D (Q:=Q) u hd with⟨o,u2,h⟩ | ⟨g2,u2,h,hd2⟩
  ·rw[runN,h] at e;cases e
  ·rw[runN,h] at e;exact ih hd2 e
end
section
variable[JunkSet]{Q:q8b}{base:Nat}{F:q5r->q3g->Prop}
theorem LP.of_runs(H:Duo Q Q){f:qbe}:∀(n:Nat) {g g1:q5r} {u u1:q3g} {pre:List q8c},xn Q base g u->Live g->g.callers=pre++[qj f] ->
  runN Q n (zG g u)=.next (zG g1 u1)->Live g1->(∃Z,g1.callers=Z++[qj f])->F g1 u1->LP Q F g u:=by
 intro n;induction n with
 | zero =>
  intro g g1 u u1 pre hr hl hc e a8 _ hF;simp only[runN,Stepped.next.injEq,zG,Machine.mk.injEq] at e;obtain⟨e1,e,_⟩:=e;have e:g=g1:=by simpa using e
  subst e;subst e1;exact .done hF
 | succ n ih =>
  intro g g1 u u1 pre hr hl hc e a8 b0 hF;have ho:=hr.one H;cases hs:qb7 Q true g u true with
  | go g2 u2 es =>
   rw[runN,Z7 hl.1 hs] at e;have a6:=ho.flat;rw[hs] at a6;have hne:g.callers≠[]:=by rw[hc];simp
   rcases a6 with hl2 | hd | hcs
   ·have b7:=hr.next H hs hl2.1 hl2.2
    rcases xK (f:=f) H.rfr hc hl.2 u g2 u2 es hs hl2.1 hl2.2 with⟨b8,a7⟩ | ⟨a7,hp⟩
    ·exact .step hs hl2.1 hl2.2 (ih b7 hl2 a7 e a8 b0 hF)
    ·exfalso
     cases n with
     | zero =>
      simp only[runN,Stepped.next.injEq,zG,Machine.mk.injEq] at e;obtain⟨_,e,_⟩:=e;have e:g2=g1:=by simpa using e
      subst e;obtain⟨Z,h1⟩:=b0;rw[a7] at h1;cases Z<;>simp at h1
     | succ n =>
      obtain⟨fr2,c3,b6,b9,a9⟩:=g2;obtain⟨l1,l2⟩:=hl2;dsimp only at a7 hp l1 l2;subst a7;subst l2;obtain⟨o,u3,es3,h3⟩:=xP (Q:=Q) hp b6 a9 u2;unfold runN at e;dsimp only at e;rw[yP l1 h3] at e;cases e
   ·exact absurd a8 (q5h n hd e)
   ·exact absurd hcs hne
  | ended o u2 es =>
   rw[runN,yP hl.1 hs] at e;cases e
  | _=>have a6:=ho.flat;rw[hs] at a6;exact a6.elim
def AtRet(Q:q8b)(f:qbe)(cs:List q8c)(R:Ending->q3g->Prop)(g:q5r)(u:q3g):Prop :=
 Live g/\g.callers=cs/\g.frame.fn=f/\∃T e,R e (u.tp T)/\g.frame.leaving Q (u.tp T) e
theorem AtRet.tape{f:qbe}{cs:List q8c}{R:Ending->q3g->Prop}{g:q5r}{u:q3g}(T:Nat->qc7->Nat)(h:AtRet Q f cs R g u):AtRet Q f cs R g (u.tp T):=by
 obtain⟨h1,h2,h3,T0,e,h4,h5⟩:=h;exact⟨h1,h2,h3,T0,e,h4,h5⟩
def yd(Q:q8b)(f:qbe)(args:Array q58)(cs:List q8c):q5r:={ frame:=qan Q f args .normal,callers:=cs,status:=.running,dying:=none }
theorem LT.of_calls(H:Duo Q Q){f:qbe}{args:Array q58}{w:q3g}{R:Ending->q3g->Prop}(hc:∀T,qaD Q f args (w.tp T) R)(a6:∀u,¬ R .outgrown u)
  (hr:xn Q base (yd Q f args [qj f]) w):LT Q (AtRet Q f [qj f] R) (yd Q f args [qj f]) w:=by
 refine LT.of_all H (λg u T h=>h.tape T) hr λT=>?_;obtain⟨e,w',fr,hR,Z,hfn,a7⟩:=hc T [qj f];have hst:Steps Q (lone (qan Q f args .normal) [qj f] (w.tp T)) (lone fr [qj f] w'):=by
  cases e with
  | returned v=>exact Z
  | panicked c=>exact Z
  | outgrown=>exact absurd hR (a6 _)
 obtain⟨n,hn⟩:=hst;exact LP.of_runs H (f:=f) n (g:=yd Q f args [qj f]) (g1:={ frame:=fr,callers:=[qj f],status:=.running,dying:=none }) (u:=w.tp T) (pre:=[]) (hr.tape T) ⟨rfl,rfl⟩ rfl hn ⟨rfl,rfl⟩ ⟨[],rfl⟩ ⟨⟨rfl,rfl⟩,rfl,hfn,w'.tape,e,hR,a7⟩
end
end Go.Sim
end
section
namespace Go.Sim
section
variable[JunkSet]{Q P:q8b}{ρ:Ren}{base:Nat}{wq w:q3g}{F:q5r->q3g->Prop}
theorem LT.next{g:q5r}{u:q3g}(h:LT Q F g u)(hn:¬ F g u)(T:Nat->qc7->Nat):∃g1 u1 es,qb7 Q true g (u.tp T) true=.go g1 u1 es/\g1.status=.running/\g1.dying=none/\LT Q F g1 u1:=by
 cases h with
 | done h=>exact absurd h hn
 | step _ h1 h2 =>
  obtain⟨g1,u1,es,e,hs,hd⟩:=h1 T;exact⟨g1,u1,es,e,hs,hd,h2 T g1 u1 es e⟩
def Below(Q:q8b)(F:q5r->q3g->Prop)(a b:q5r × q3g):Prop :=
 ¬ F b.1 b.2/\∃T es,qb7 Q true b.1 (b.2.tp T) true=.go a.1 a.2 es
theorem LT.acc{g:q5r}{u:q3g}(h:LT Q F g u):Acc (Below Q F) (g,u):=by
 induction h with
 | done h=>exact .intro _ λy hy=>absurd h hy.1
 | step _ _ _ ih=>exact .intro _ λy hy=>let ⟨T,es,e⟩:=hy.2;ih T y.1 y.2 es e
theorem Yt(H:Duo Q P)(hb:base<=ρ.length)(hw:WR Q base ρ wq w)(hG:Gl P ρ){g g':q5r}(hg:kH Q P ρ g g')(hl:LT Q F g wq)(hn:¬ F g wq)(b:Bool) :
  ∃σ g1 wq1 g1' w1 es,qb7 P b g' w true=.go g1' w1 es/\K5 Q P σ g1 g1'/\WR Q base σ wq1 w1/\Gl P σ/\base<=σ.length/\LT Q F g1 wq1/\Below Q F (g1,wq1) (g,wq)/\Eff base ρ σ w w1/\(∀e∈es,kK base σ e)/\g1.status=.running/\g1.dying=none:=by
 let T:Nat->qc7->Nat:=λn q=>w.tape (n - wq.drawn+w.drawn) q
 obtain⟨g1,u1,es,e,hs,hd,a6⟩:=hl.next hn T
 have Z:WR Q base ρ (wq.tp T) w:=⟨hw.len,hw.nodup,hw.lt,hw.obj,hw.low,hw.env,hw.below,hw.gar⟩
 have ho:=q2D H hb Z hG hg;have hm:=(ho.go _ _ _ e hs hd).2.1;have ht:zw u1.drawn (wq.tp T) w:=λn q _=>by
  show w.tape (wq.drawn+n - wq.drawn+w.drawn) q=w.tape (w.drawn+n) q;rw[show wq.drawn+n - wq.drawn+w.drawn=w.drawn+n by omega]
 obtain⟨σ,g1',w1,es',k0,k1,k2,_,k4,k5,_⟩:=KP H hb Z hG ht hm hg b _ _ _ e (q5m _) hs hd;exact⟨σ,g1,u1,g1',w1,es',k0,k1,k2,hG.mono k4.le,q87 hb k4.le.len,a6,⟨hn,T,es,e⟩,k4,k5,hs,hd⟩
theorem WR.rely(h:WR Q base ρ wq w){w2:q3g}(hsz:w.heap.size<=w2.heap.size)(Z:w2.os.env=w.os.env)
  (hk:∀i j,BR ρ i j->¬ JunkSet.jk i->w2.heap[j]?=w.heap[j]?) (hj:∀i j,BR ρ i j->JunkSet.jk i->∃c e f,w2.heap[j]?=some (.cells c e f)):WR Q base ρ wq w2 where
 len:=h.len
 nodup:=h.nodup
 lt i j hb:=q8m (h.lt i j hb) hsz
 obj i j o hb ho:=by
  rcases h.obj i j o hb ho with⟨h1,h2,h3,_⟩ | ⟨h1,o',h2,h3⟩
  ·exact .inl ⟨h1,h2,h3,hj i j hb h1⟩
  ·exact .inr ⟨h1,o',by rw[hk i j hb h1];exact h2,h3⟩
 low:=h.low
 env:=h.env.trans Z.symm
 below:=h.below
 gar:=h.gar
end
end Go.Sim
end
section
namespace Go.Sim
def q6t(g:q5r):Prop:=∀r a k,g.frame.todo≠.extern r a::k
def swap(real:List q8c)(g:q5r):q5r:={ g with callers:=g.callers.dropLast++real }
def zt(real:List q8c)(r r':qcu):Prop:=∀g1 u1 es,r=.go g1 u1 es->Live g1->g1.callers≠[]->q6t g1->r'=.go (swap real g1) u1 es
section
variable[JunkSet]{P:q8b}{f:qbe}{real:List q8c}
theorem vh{r r':qcu}{es:Array qbr}(h:zt real r r'):zt real (qbf es r) (qbf es r'):=λg1 u1 es' e hl hc hn=>by
 obtain⟨e0,h0,rfl⟩:=zX e;rw[h _ _ _ h0 hl hc hn];rfl
theorem qW{o:Outcome}{u:q3g}{es:Array qbr}{r':qcu}:zt real (.ended o u es) r':=λ_ _ _ e _ _ _=>by cases e
theorem xI{r r':qcu}(h:∀g u es,r≠.go g u es):zt real r r':=λg u es e _ _ _=>absurd e (h g u es)
theorem sw_dead{g:q5r}{u:q3g}{es:Array qbr}{r':qcu}(h:¬ Live g):zt real (.go g u es) r':=λ_ _ _ e hl _ _=>by cases e;exact absurd hl h
theorem q27{fr:q8c}{cs:List q8c}{m:String}{u:q3g}{r':qcu}:zt real (endFatal P fr cs none m u) r':=λg1 u1 es e hl _ _=>absurd hl.2 (qY e)
theorem JQ{fr:q8c}{m:String}{u:q3g}{r':qcu}:zt real (endThrow fr m u) r':=sw_dead λh=>by cases h.2
theorem yk{fr:q8c}{pre:List q8c}{st:qd0}{dy:Option Dying}{off:Option (Array qda × qcB)}{u:q3g}{es:Array qbr} :
  zt real (.go { frame:=fr,callers:=pre++[qj f],status:=st,dying:=dy,offers:=off } u es) (.go { frame:=fr,callers:=pre++real,status:=st,dying:=dy,offers:=off } u es):=λ_ _ _ e _ _ _=>by
 cases e;simp[swap]
theorem q5A{fr fr2:q8c}{pre:List q8c}{st:qd0}{dy:Option Dying}{off:Option (Array qda × qcB)}{u:q3g}{es:Array qbr} :
  zt real (.go { frame:=fr,callers:=fr2::(pre++[qj f]),status:=st,dying:=dy,offers:=off } u es) (.go { frame:=fr,callers:=fr2::(pre++real),status:=st,dying:=dy,offers:=off } u es) :=
 yk (pre:=fr2::pre)
theorem sw_app{fr fr2:q8c}{X pre:List q8c}{st:qd0}{dy:Option Dying}{off:Option (Array qda × qcB)}{u:q3g}{es:Array qbr} :
  zt real (.go { frame:=fr,callers:=X++fr2::(pre++[qj f]),status:=st,dying:=dy,offers:=off } u es) (.go { frame:=fr,callers:=X++fr2::(pre++real),status:=st,dying:=dy,offers:=off } u es):=λ_ _ _ e _ _ _=>by
 cases e;have:X++fr2::(pre++[qj f])=(X++fr2::pre)++[qj f]:=by simp
 simp only[swap,this,List.dropLast_concat];simp
theorem sw_nil{fr:q8c}{st:qd0}{dy:Option Dying}{u:q3g}{es:Array qbr}{r':qcu}:zt real (.go { frame:=fr,callers:=[],status:=st,dying:=dy } u es) r':=λ_ _ _ e _ hc _=>by
 cases e;exact absurd rfl hc
theorem sw_ext{fr:q8c}{cs:List q8c}{st:qd0}{dy:Option Dying}{u:q3g}{es:Array qbr}{r':qcu}{x:String}{a:Array q58}{k:List qdy}(h:fr.todo=.extern x a::k):zt real (.go { frame:=fr,callers:=cs,status:=st,dying:=dy } u es) r':=λ_ _ _ e _ _ hn=>by
 cases e;exact absurd h (hn _ _ _)
theorem jU(fr:q8c):q9A fr [qj f]=none:=by
 unfold q9A;cases fr.kind<;>rfl
theorem Zg(hR:∀fr,q9A fr real=none):∀(pre:List q8c) (fr:q8c),
  (q9A fr (pre++[qj f])=none/\q9A fr (pre++real)=none)\/∃v pre',q9A fr (pre++[qj f])=some (v,pre'++[qj f])/\q9A fr (pre++real)=some (v,pre'++real):=by
 intro pre;induction pre with
 | nil=>intro fr;exact .inl ⟨jU fr,hR fr⟩
 | cons p pre ih =>
  intro fr;simp only[q9y];unfold q9A;cases hk:fr.kind with
  | deferred =>
   dsimp only;split
   ·exact .inr ⟨_,_::pre,rfl,rfl⟩
   ·exact .inl ⟨rfl,rfl⟩
  | wrapped =>
   dsimp only;rcases ih p with⟨h1,h2⟩ | ⟨v,pre',h1,h2⟩
   ·rw[h1,h2];exact .inl ⟨rfl,rfl⟩
   ·rw[h1,h2];exact .inr ⟨v,p::pre',rfl,rfl⟩
  | _=>exact .inl ⟨rfl,rfl⟩
theorem ZD{fr:q8c}{pre:List q8c}(b b':Bool)(v:q58)(u:q3g):zt real (qc9 P b fr (pre++[qj f]) none v u) (qc9 P b' fr (pre++real) none v u):=by
 unfold qc9;cases pre with
 | nil =>
  simp only[qae];split<;>exact sw_nil
 | cons p pre =>
  simp only[q9y];split<;>exact yk
theorem q8x{fr:q8c}{pre:List q8c}(g:Nat)(u:q3g):zt real (early P fr (pre++[qj f]) none g u) (early P fr (pre++real) none g u):=by
 unfold early;dsimp only
 repeat' split
 all_goals first
  | exact yk
  | exact qW
  | exact sw_app
theorem xJ(hrf:P.follows .rangeFuncRecover=true)(hR:∀fr,q9A fr real=none){fr:q8c}{pre:List q8c}(s:Sem qe4)(u:q3g):zt real (qbn P true fr (pre++[qj f]) none s u) (qbn P true fr (pre++real) none s u):=by
 unfold qbn;simp only[if_true,qad,hrf];refine vh ?_;cases s.run P u with
 | ok a w =>
  cases a with
  | recover =>
   rcases Zg (f:=f) hR pre fr with⟨h1,h2⟩ | ⟨v,pre',h1,h2⟩<;>cases hro:fr.roundOf<;>simp only[h1,h2,hro]<;>exact yk
  | stack r sv =>
   dsimp only;split
   ·exact sw_ext rfl
   ·exact sw_ext rfl
  | spawn d =>
   dsimp only
   repeat' split
   all_goals first
    | exact JQ
    | exact xI (λ_ _ _ e=>by cases e)
  | _ =>
   dsimp only
   repeat' split
   all_goals first
    | exact yk
    | exact q5A
    | exact xI (λ_ _ _ e=>by cases e)
 | halt x w =>
  cases x with
  | fatal m=>exact q27
  | throw m=>exact JQ
  | unsupported x=>cases x<;>first | exact q8x _ _ | exact qW
  | _=>first | exact yk | exact qW
theorem q28(hR:∀fr,q9A fr real=none){fr:q8c}{pre:List q8c}(d:qc3)(u:q3g):zt real (qc6 P fr (pre++[qj f]) none d u) (qc6 P fr (pre++real) none d u):=by
 unfold qc6;by_cases hc:(ku d.target && kr fr.mode)=true
 ·have:∀(a b r':qcu),(∃o u es,a=.ended o u es)->zt real (if(ku d.target && kr fr.mode)=true then a else b) r':=λa b r' ⟨o,u,es,e⟩=>by
   rw[if_pos hc,e];exact qW
  exact this _ _ _ ⟨_,_,_,rfl⟩
 have Z:∀(a b a' b':qcu),zt real b b'->zt real (if(ku d.target && kr fr.mode)=true then a else b) (if(ku d.target && kr fr.mode)=true then a' else b'):=λa b a' b' hb=>by rw[if_neg hc,if_neg hc];exact hb
 refine Z _ _ _ _ ?_;simp only[qad];refine vh ?_;cases qbk P (invoke d.target d.args) u with
 | ok a w =>
  cases a with
  | recover =>
   dsimp only;rcases Zg (f:=f) hR pre fr with⟨h1,h2⟩ | ⟨v,pre',h1,h2⟩<;>rw[h1,h2]<;>cases fr.mode<;>exact yk
  | coroswitch c e=>cases e<;>first | exact qW | exact xI (λ_ _ _ e=>by cases e)
  | alone on v=>cases on<;>first | exact qW | exact xI (λ_ _ _ e=>by cases e)
  | _ =>
   first
    | exact yk
    | exact q5A
    | exact qW
    | exact xI (λ_ _ _ e=>by cases e)
 | halt x w =>
  cases x with
  | fatal m=>exact q27
  | throw m=>exact JQ
  | _=>first | exact yk | exact qW
theorem KB(hR:∀fr,q9A fr real=none){fr:q8c}{pre:List q8c}(b b':Bool)(u:q3g):zt real (unwind P b fr (pre++[qj f]) none u) (unwind P b' fr (pre++real) none u):=by
 unfold unwind;split
 ·simp only[qad]
  refine vh ?_;split
  ·exact yk
  ·exact qW
 ·exact q28 hR _ _
 ·split
  ·exact qW
  ·split
   ·exact qW
   ·cases pre with
    | nil=>exact sw_nil
    | cons p pre=>exact yk
  ·split
   ·exact ZD _ _ _ _
   ·simp only[qad]
    refine vh ?_;split
    ·exact ZD _ _ _ _
    all_goals exact qW
theorem sw_exec(hrf:P.follows .rangeFuncRecover=true)(hR:∀fr,q9A fr real=none){fr:q8c}{pre:List q8c}(b b':Bool)(u:q3g) :
  zt real (qd9 P b true fr (pre++[qj f]) none u) (qd9 P b' true fr (pre++real) none u):=by
 have Z:∀(j:Bool) (jj:Option qcm) (s s':String),zt real (match fr.roundOf with
   | none=>if j=true then .go { frame:={ fr with mode:=.returning },callers:=pre++[qj f],status:=.running,dying:=none } u else .ended (.stuck s (fr.pos P)) u
   | some l =>
    let (r,es):=(qcH l jj).runT P u #[]
    qbf (seen P fr.fn es) <| match r with
    | .ok v w=>qc9 P b fr (pre++[qj f]) none v w
    | .halt _ w=>.ended (.stuck s' (fr.pos P)) w) (match fr.roundOf with
   | none=>if j=true then .go { frame:={ fr with mode:=.returning },callers:=pre++real,status:=.running,dying:=none } u else .ended (.stuck s (fr.pos P)) u
   | some l =>
    let (r,es):=(qcH l jj).runT P u #[]
    qbf (seen P fr.fn es) <| match r with
    | .ok v w=>qc9 P b' fr (pre++real) none v w
    | .halt _ w=>.ended (.stuck s' (fr.pos P)) w):=λj jj s s'=>by
  split
  ·split
   ·exact yk
   ·exact qW
  ·simp only[qad]
   refine vh ?_;split
   ·exact ZD _ _ _ _
   ·exact qW
 unfold qd9;dsimp only;split
 ·exact Z true _ _ _
 ·exact Z true _ _ _
 all_goals first
  | exact yk
  | exact qW
  | exact xJ hrf hR _ _
  | (
    generalize exitTo _ _=X;cases X
    ·exact Z false _ _ _
    ·exact yk)
  | (
    generalize gotoIn _ _=X;cases X
    ·exact Z false _ _ _
    ·exact yk)
  | (
    unfold stepG.oper
    repeat' split
    all_goals first
     | exact yk
     | exact qW
     | exact xJ hrf hR _ _)
  | (
    simp only[qad];refine vh ?_
    repeat' split
    all_goals first
     | exact yk
     | exact qW
     | exact xJ hrf hR _ _)
  | (
    repeat' split
    all_goals first
     | exact yk
     | exact qW
     | exact xJ hrf hR _ _)
  | (
    generalize Extern.next _=X
    cases X
    ·exact qW
    ·exact xJ hrf hR _ _)
theorem KA(hrf:P.follows .rangeFuncRecover=true)(hR:∀fr,q9A fr real=none){g:q5r}{pre:List q8c}(h:g.callers=pre++[qj f])(hd:g.dying=none)(b b':Bool)(u:q3g) :
  zt real (qb7 P b g u true) (qb7 P b' (swap real g) u true):=by
 obtain⟨fr,cs,st,dy,off⟩:=g;dsimp only at h hd;subst hd;subst h;unfold qb7;simp only[swap,List.dropLast_concat];cases fr.mode with
 | run=>exact sw_exec hrf hR b b' u
 | returning=>exact KB hR b b' u
 | panicking l=>exact KB hR b b' u
end
end Go.Sim
end
