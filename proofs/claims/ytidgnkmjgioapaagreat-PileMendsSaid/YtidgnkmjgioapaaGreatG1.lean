/-
  Part 1 of the proof. gladstonelaw04.PileMends answers true for every yard, parcel, pile, number and list of numbers that the statement takes, and leaves its arguments as they were. No conditions.
-/
import GoSem.Step
import Derived.StepT
import Derived.Laws.Sem
import Derived.Conc.Events
import Derived.Calls
import Derived.Conc.CrowdTrace
set_option maxRecDepth 100000
set_option maxHeartbeats 8000000
set_option linter.all false
open Array renaming all_eq_true_iff_forall_mem->PL,eq_empty_of_size_eq_zero->Tl,foldl_toList->Ut,forIn_toList->SN,getD_eq_getD_getElem?->Pv,getElem!_eq_getD->Ws,getElem?_append->Rx,getElem?_eq_getElem->Om,getElem?_eq_none_iff->VH,getElem?_eq_some_iff->Nz,getElem?_map->Uv,getElem?_modify->SQ,getElem?_push->Sr,getElem?_setIfInBounds->OW,getElem?_toList->UX,length_toList->Xq,mapM_eq_mapM_toList->RU,mem_append->Rm,mem_of_getElem?->PR,mem_toList_iff->QC,range->Se,swapAt!->Zk,toList_zip->Yy
open Bool renaming and_eq_true->Of,eq_false_iff->So,false_eq_true->OJ,not_false->TT,not_true->Uj,or_eq_true->QI,false->NC,true->NB
open Classical renaming byContradiction->OK,choose->QY,choose_spec->Ry
open Go renaming Addr->OX,BoundsCode->XK,CallKind->YZ,Calls->Oz,Code->Qs,CommCase->Rf,CommShape->QK,Deferred->Qa,Dying->TC,Event->Pz,FieldStep->Yz,Frame->NS,FuncId->Pl,GStep->QE,GoStatus->QS,Goroutine->NF,Item->Si,MapEntry->Rz,MemOp->WL,Next->SX,Oper->PE,Operand->OQ,Outcome->Wu,PanicEntry->Tu,Program->NR,Question->Qe,Result->SK,Sem->Rw,Trace->Vx,TypeDesc->Vm,TypeId->NZ,TypeInfo->Sd,Value->Ny,World->Nt,asAddr->Yu,behindNumber->QD,boundsPanic->SA,byteOf->Wr,byteOfCell->Wq,callDeferred->Qd,callMethod->YX,cellAtBytes->UB,cellOfByte->YW,dieOf->j6,doReturn->Qg,endFatal->Vo,endThrow->UL,execOp->QN,exitTo->TU,goPanic->ZB,gotoIn->Uw,loadCellsFrom->Vi,loadVar->XW,movedNumber->VQ,newObj->YT,newRow->YU,reportChain->YK,results->Qo,runT->Xb,runnable->Za,runtimePanic->RE,seen->Wa,sizeOf->UI,stepG->Pj,storeCells->Us,tryRecover->Ou,typeHandle->Wp,typeInfo->RV,undef->NG,underlying->Rr,unwind->SS,yielded->PH,zeroValue->Tk
open Go.Builtin renaming append_->Rj,cap_->XY,clear_->UJ,copy_->VY,firstCells->Uu,holdsCells->XL,lenOf->VX,len_->XX,max2->ZD,max_->Yg,mayShare->Yv,min2->XZ,min_->VD,unsafeAdd_->Qk,zeroCells->Qu
open Go.Conc renaming Deaf->WV,getElem?_append_cases->TM,noRace_append->XD,touchAt->Ug
open Go.Frame renaming catches->Wc,enter->OT,eval->Te,finish->Wt,pos->YC,raise->WZ,round->j5
open Go.GStep renaming after->Pm,go->Xa
open Go.GStep.go renaming injEq->Sk
open Go.Instr renaming alloc->ZY,beginRound->Wi,build->ZZ,buildSlice->Yx,checkKey->Sf,deferInRound->XM,endLoop->XC,endRound->QR,enterLoop->Uo,extract->Xy,field->qr,fieldAt->Zi,fill->TS,findAsking->SD,findKey->Td,findNow->Vk,getLoop->XA,index->UC,indexAt->Xz,keyThatStays->Pu,loadAt->ZC,lookup->Ue,makeInterface->Xo,makeMap->VZ,makeSlice->Vv,mapUpdate->PO,panic->j4,panicnil->UK,sameBits->QJ,sameNow->Vj,slice->WY,sliceAt->Zj,sliceBound->Rn,sliceBounds->VS,storeAt->Zh,sureAddr->YV,takeDeferred->VJ,typeAssert->RY,yield->j3
open Go.Region renaming wanted->Oy
open Go.Result renaming andThen_ok->PC,evThen_ok->Wh,halt->ZX
open Go.Sem renaming bind->TQ,events_bind->TB,run->Pr,runT->Tj,runT_bind'->YY,runT_eq->OL,run_bind->PF,setObj->YS,store->Yt
open Go.World renaming cell?->OA,farLoad->Xx,farStore->TR,freeze->XU,frozen?->RN,setCell->Qq,shape?->Wo,viewStore->YN
open Go.stepG renaming apply->Pw,exec->Re,oper->Va
open List renaming all_eq_true->OF,cons_append->Oa,dropLast_concat->Vp,dropWhile_cons->Xr,foldlM_cons->Yw,foldl_cons->PN,forIn_cons->YO,getElem?_append_left->Ot,getElem?_eq_some_iff->NT,mapM_cons->UH,mem_cons->ON,mem_cons_of_mem->Vn,mem_cons_self->VI,mem_iff_getElem->Sj,mem_singleton->Pk,mem_toArray->Ro,nil_append->On,not_mem_nil->PY,range_succ->RF
open List.cons renaming injEq->QT
open Nat renaming add_assoc->TF,le_of_eq->Sv,le_of_not_lt->YA,le_refl->Nv,le_succ->YJ,le_trans->NM,lt_irrefl->TE,lt_of_lt_of_le->NX,lt_or_ge->PP,lt_succ_self->Uf
open Option renaming bind_some->Ud,getD_some->NK,map_eq_some_iff->Sw,map_some->Pp,none->Ns,some->Nq
open Option.some renaming inj->QQ,injEq->OM
open Std.Legacy.Range renaming forIn_eq_forIn_range'->Qf
open _root_ renaming Array->NJ,Bool->OI,False->RI,Int->NH,List->Nu,Nat->NA,Option->NO,True->TL
namespace Go.Sim
section
abbrev Ren:=Nu (NO NA)
def BR(Z:Ren)(i j:NA):Prop:=Z[i]?=Nq (Nq j)
def Inj(Z:Ren):Prop:=∀i c j,BR Z i j->BR Z c j->i=c
def Out(Z:Ren)(j:NA):Prop:=∀i,¬ BR Z i j
def Le(Z O:Ren):Prop:=(∃V,O=Z++V)/\(Inj Z->Inj O)
def BR.lt{Z:Ren}{i j:NA}(h:BR Z i j):i<Z.length:=by
 unfold BR at h;exact(NT.1 h).1
def BR.new(Z:Ren)(j:NA):BR (Z++[Nq j]) Z.length j:=by simp[BR]
def BR.fn{Z:Ren}{i j k:NA}(h:BR Z i j)(c:BR Z i k):j=k:=by
 unfold BR at h c;rw[h] at c;exact QQ (QQ c)
def Le.refl(Z:Ren):Le Z Z:=⟨⟨[],by simp⟩,id⟩
def Le.trans{a b c:Ren}(h:Le a b)(k:Le b c):Le a c:=by
 obtain⟨⟨x,rfl⟩,e⟩:=h;obtain⟨⟨y,rfl⟩,d⟩:=k;exact⟨⟨x++y,by simp⟩,λn=>d (e n)⟩
def BR.snoc_cases{Z:Ren}{x:NO NA}{i j:NA}(h:BR (Z++[x]) i j):(i<Z.length/\BR Z i j)\/(i=Z.length/\x=Nq j):=by
 have d:=h.lt;simp at d;unfold BR at h ⊢;rcases PP i Z.length with c | c
 ·rw[Ot c] at h;exact .inl ⟨c,h⟩
 ·have e:i=Z.length:=by omega
  subst e;simp at h;exact .inr ⟨rfl,h⟩
def Le.snoc(Z:Ren)(j:NA)(e:Out Z j):Le Z (Z++[Nq j]):=⟨⟨[Nq j],rfl⟩,λn i d k h c=>by
 rcases h.snoc_cases with⟨_,h⟩ | ⟨g,f⟩<;>rcases c.snoc_cases with⟨_,c⟩ | ⟨h1',h2'⟩
 ·exact n i d k h c
 ·cases h2';exact absurd h (e i)
 ·cases f;exact absurd c (e d)
 ·rw[g,h1']⟩
def BR.mono{Z O:Ren}{i j:NA}(h:BR Z i j)(l:Le Z O):BR O i j:=by
 obtain⟨⟨V,rfl⟩,_⟩:=l;have c:=h.lt;unfold BR at h ⊢;rw[Ot c];exact h
def Hf:Ny->OI
 | .bool _ | .int _ _ | .string _ | .pointer Ns | .slice Ns _ _ | .map Ns | .nilFunc | .nilIface | .agg _ | .tuple _ | .func (.method _) _ _=>NC
 | _=>NB
class JunkSet where
 jk:NA->Prop
 okf:Pl->Prop
 okm:String->Prop
 okc:Qs->Prop
 okb:Builtin->NJ NZ->Prop
 okg:Pl->Prop
section
variable[JunkSet]
inductive FnR (Z:Ren):Fn->Fn->Prop
 | func (f:Pl):JunkSet.okf f->FnR Z (.func f) (.func f)
 | yield {i j:NA}:BR Z i j->FnR Z (.yield i) (.yield j)
inductive VR (Z:Ren):Ny->Ny->Prop
 | bool (b:OI):VR Z (.bool b) (.bool b)
 | int (k:IntKind) (n:NH):VR Z (.int k n) (.int k n)
 | string (s:ByteArray):VR Z (.string s) (.string s)
 | ptrNil:VR Z (.pointer Ns) (.pointer Ns)
 | ptr {i j:NA} (off:NA) (spot:NO NA):BR Z i j->VR Z (.pointer (Nq ⟨i,off,spot⟩)) (.pointer (Nq ⟨j,off,spot⟩))
 | sliceNil (n c:NA):VR Z (.slice Ns n c) (.slice Ns n c)
 | slice {i j:NA} (off:NA) (spot:NO NA) (n c:NA):BR Z i j->VR Z (.slice (Nq ⟨i,off,spot⟩) n c) (.slice (Nq ⟨j,off,spot⟩) n c)
 | mapNil:VR Z (.map Ns) (.map Ns)
 | map {i j:NA}:BR Z i j->VR Z (.map (Nq i)) (.map (Nq j))
 | func {f f':Fn} {a a' c c':NJ Ny}:FnR Z f f'->a.size=a'.size->(∀(i:NA) (x y:Ny),a[i]?=Nq x->a'[i]?=Nq y->VR Z x y) ->
   c.size=c'.size->(∀(i:NA) (x y:Ny),c[i]?=Nq x->c'[i]?=Nq y->VR Z x y)->VR Z (.func f a c) (.func f' a' c')
 | nilFunc:VR Z .nilFunc .nilFunc
 | iface (t:NZ) {v v':Ny}:VR Z v v'->VR Z (.iface t v) (.iface t v')
 | nilIface:VR Z .nilIface .nilIface
 | agg {a a':NJ Ny}:a.size=a'.size->(∀(i:NA) (x y:Ny),a[i]?=Nq x->a'[i]?=Nq y->VR Z x y)->VR Z (.agg a) (.agg a')
 | tuple {a a':NJ Ny}:a.size=a'.size->(∀(i:NA) (x y:Ny),a[i]?=Nq x->a'[i]?=Nq y->VR Z x y)->VR Z (.tuple a) (.tuple a')
 | wild (y:Ny):Hf y=NB->VR Z (.chan Ns) y
 | meth (n:String) (a c:NJ Ny):VR Z (.func (.method "") #[.iface 0 .nilIface] #[]) (.func (.method n) a c)
def FnR.mono{Z O:Ren}(l:Le Z O){f c:Fn}(h:FnR Z f c):FnR O f c:=by
 cases h with
 | func f h=>exact .func f h
 | yield h=>exact .yield (h.mono l)
def VR.mono{Z O:Ren}(l:Le Z O){v j:Ny}(h:VR Z v j):VR O v j:=by
 induction h with
 | bool b=>exact .bool b
 | int k n=>exact .int k n
 | string s=>exact .string s
 | ptrNil=>exact .ptrNil
 | ptr e d h=>exact .ptr e d (h.mono l)
 | sliceNil n c=>exact .sliceNil n c
 | slice e d n c h=>exact .slice e d n c (h.mono l)
 | mapNil=>exact .mapNil
 | map h=>exact .map (h.mono l)
 | func o q _ p _ i g=>exact .func (o.mono l) q i p g
 | nilFunc=>exact .nilFunc
 | iface t _ f=>exact .iface t f
 | nilIface=>exact .nilIface
 | agg h _ f=>exact .agg h f
 | tuple h _ f=>exact .tuple h f
 | wild y h=>exact .wild y h
 | meth n a c=>exact .meth n a c
def AsR(Z:Ren)(a b:NJ Ny):Prop:=a.size=b.size/\∀(i:NA) (x y:Ny),a[i]?=Nq x->b[i]?=Nq y->VR Z x y
inductive LsR {Y M:Type} (R:Y->M->Prop):Nu Y->Nu M->Prop
 | nil:LsR R [] []
 | cons {x:Y} {y:M} {l:Nu Y} {m:Nu M}:R x y->LsR R l m->LsR R (x::l) (y::m)
section
variable{Y M:Type}{R:Y->M->Prop}
def LsR.imp{S:Y->M->Prop}(h:∀x y,R x y->S x y){l:Nu Y}{m:Nu M}(k:LsR R l m):LsR S l m:=by
 induction k with
 | nil=>exact .nil
 | cons a _ c=>exact .cons (h _ _ a) c
def LsR.length{l:Nu Y}{m:Nu M}(h:LsR R l m):l.length=m.length:=by
 induction h with
 | nil=>rfl
 | cons _ _ c=>simp[c]
def LsR.append{l d:Nu Y}{m c:Nu M}(h:LsR R l m)(f:LsR R d c):LsR R (l++d) (m++c):=by
 induction h with
 | nil=>exact f
 | cons a _ e=>exact .cons a e
def BZ{l:Nu Y}{m:Nu M}:LsR R l m↔l.length=m.length/\∀(i:NA) (x:Y) (y:M),l[i]?=Nq x->m[i]?=Nq y->R x y:=by
 constructor
 ·intro h;refine⟨h.length,?_⟩;induction h with
  | nil=>intro i x y c;simp at c
  | cons a _ d=>
   intro i x y c e;cases i with
   | zero=>simp at c e;subst c;subst e;exact a
   | succ i=>exact d i x y (by simpa using c) (by simpa using e)
 ·rintro⟨f,g⟩;induction l generalizing m with
  | nil=>cases m with
   | nil=>exact .nil
   | cons _ _=>simp at f
  | cons x l d=>cases m with
   | nil=>simp at f
   | cons y m=>exact .cons (g 0 x y rfl rfl) (d (by simpa using f) λi a b k j=>g (i+1) a b (by simpa using k) (by simpa using j))
end
section
variable{Z O:Ren}{a b a' b':NJ Ny}
def bP:AsR Z a b↔LsR (VR Z) a.toList b.toList:=by
 rw[BZ];simp[AsR]
def AsR.mono(l:Le Z O)(h:AsR Z a b):AsR O a b:=⟨h.1,λi x y d c=>(h.2 i x y d c).mono l⟩
def AsR.get(h:AsR Z a b){i:NA}{x:Ny}(c:a[i]?=Nq x):∃y,b[i]?=Nq y/\VR Z x y:=by
 have d:i<b.size:=h.1 ▸ (Nz.1 c).1;exact⟨b[i],Om d,h.2 i x _ c (Om d)⟩
def AsR.get_none(h:AsR Z a b){i:NA}(c:a[i]?=Ns):b[i]?=Ns:=by
 rw[VH] at c ⊢;exact h.1 ▸ c
def AsR.getD(h:AsR Z a b)(i:NA){d c:Ny}(g:VR Z d c):VR Z (a.getD i d) (b.getD i c):=by
 rw[Pv,Pv];cases ha:a[i]? with
 | none=>rw[h.get_none ha];exact g
 | some x=>have⟨y,e,f⟩:=h.get ha;rw[e];exact f
def AsR.nil:AsR Z #[] #[]:=⟨rfl,λi x y c=>by simp at c⟩
def AsR.append(h:AsR Z a b)(c:AsR Z a' b'):AsR Z (a++a') (b++b'):=by
 rw[bP] at *
 simpa using h.append c
def AsR.push(h:AsR Z a b){x y:Ny}(c:VR Z x y):AsR Z (a.push x) (b.push y):=by
 rw[bP] at *
 simpa using h.append (.cons c .nil)
def AsR.one{x y:Ny}(c:VR Z x y):AsR Z #[x] #[y]:=by
 rw[bP];exact .cons c .nil
def AsR.set(h:AsR Z a b)(i:NA){x y:Ny}(g:VR Z x y):AsR Z (a.setIfInBounds i x) (b.setIfInBounds i y):=by
 refine⟨by simpa using h.1,λj u v d c=>?_⟩;rw[OW] at d c;by_cases e:i=j
 ·subst e;by_cases f:i<a.size
  ·rw[if_pos rfl,if_pos f] at d;rw[if_pos rfl,if_pos (h.1 ▸ f)] at c;cases d;cases c;exact g
  ·rw[if_pos rfl,if_neg f] at d;cases d
 ·rw[if_neg e] at d c;exact h.2 j u v d c
def AsR.extract(h:AsR Z a b)(i j:NA):AsR Z (a.extract i j) (b.extract i j):=by
 refine⟨by simp[h.1],λk x y d c=>?_⟩;rw[Array.getElem?_extract] at d c;split at d
 ·split at c
  ·exact h.2 _ x y d c
  ·cases c
 ·cases d
end
inductive iO:Ny->Prop
 | bool (b:OI):iO (.bool b)
 | int (k:IntKind) (n:NH):iO (.int k n)
 | string (s:ByteArray):iO (.string s)
 | ptrNil:iO (.pointer Ns)
 | sliceNil (n c:NA):iO (.slice Ns n c)
 | mapNil:iO (.map Ns)
 | nilFunc:iO .nilFunc
 | nilIface:iO .nilIface
 | agg {a:NJ Ny}:(∀(i:NA) (x:Ny),a[i]?=Nq x->iO x)->iO (.agg a)
 | tuple {a:NJ Ny}:(∀(i:NA) (x:Ny),a[i]?=Nq x->iO x)->iO (.tuple a)
def iO.vr(Z:Ren){v:Ny}(h:iO v):VR Z v v:=by
 induction h with
 | bool b=>exact .bool b
 | int k n=>exact .int k n
 | string s=>exact .string s
 | ptrNil=>exact .ptrNil
 | sliceNil n c=>exact .sliceNil n c
 | mapNil=>exact .mapNil
 | nilFunc=>exact .nilFunc
 | nilIface=>exact .nilIface
 | agg _ f=>exact .agg rfl λi x y e d=>by rw[e] at d;cases d;exact f i x e
 | tuple _ f=>exact .tuple rfl λi x y e d=>by rw[e] at d;cases d;exact f i x e
def sJ:Ny->OI
 | .bool _ | .int _ _ | .string _ | .pointer Ns | .slice Ns _ _ | .map Ns | .nilFunc | .nilIface=>NB
 | _=>NC
def Ic:Ny->OI
 | .agg a | .tuple a=>a.toList.all λv=>match v with
   | .agg b | .tuple b=>b.toList.all sJ
   | v=>sJ v
 | v=>sJ v
def sI{v:Ny}(h:sJ v=NB):iO v:=by
 cases v with
 | bool b=>exact .bool b
 | int k n=>exact .int k n
 | string s=>exact .string s
 | pointer a=>cases a with
  | none=>exact .ptrNil
  | some _=>cases h
 | slice a n c=>cases a with
  | none=>exact .sliceNil n c
  | some _=>cases h
 | map a=>cases a with
  | none=>exact .mapNil
  | some _=>cases h
 | chan a=>cases h
 | float k b=>cases h
 | complex k a b=>cases h
 | func _ _ _=>cases h
 | nilFunc=>exact .nilFunc
 | iface _ _=>cases h
 | nilIface=>exact .nilIface
 | agg _=>cases h
 | tuple _=>cases h
def ve{a:NJ Ny}(h:a.toList.all sJ=NB)(i:NA)(x:Ny)(c:a[i]?=Nq x):iO x:=by
 rw[OF] at h;exact sI (h x (by rw[QC];exact PR c))
def wY{v:Ny}(h:Ic v=NB):iO v:=by
 have c:∀a:NJ Ny,(a.toList.all λv=>match v with
   | .agg b | .tuple b=>b.toList.all sJ
   | v=>sJ v)=NB->∀(i:NA) (x:Ny),a[i]?=Nq x->iO x:=by
  intro a d i x e;rw[OF] at d;have:=d x (by rw[QC];exact PR e);cases x with
  | agg b=>exact .agg (ve this)
  | tuple b=>exact .tuple (ve this)
  | _=>exact sI this
 cases v with
 | agg a=>exact .agg (c a h)
 | tuple a=>exact .tuple (c a h)
 | _=>exact sI h
structure gI(Z:Ren)(e e':Rz):Prop where
 key:VR Z e.key e'.key
 val:VR Z e.val e'.val
 born:e'.born=e.born
inductive eX (Z:Ren):Target->Target->Prop
 | fn {f f':Fn} {c c':NJ Ny}:FnR Z f f'->AsR Z c c'->eX Z (.fn f c) (.fn f' c')
 | meth (n:String):JunkSet.okm n->eX Z (.fn (.method n) #[]) (.fn (.method n) #[])
 | nil:eX Z .nil .nil
 | builtin (b:Builtin) (a:NJ NZ) (t:NZ) (c:NJ OI):JunkSet.okb b a->eX Z (.builtin b a t c) (.builtin b a t c)
 | collected {i j:NA}:BR Z i j->eX Z (.collected i) (.collected j)
inductive fU (Z:Ren) (d d':Qa):Prop
 | mk:eX Z d.target d'.target->AsR Z d.args d'.args->fU Z d d'
 | bound:d.target=.fn (.method "") #[]->d.args[0]?=Nq (.iface 0 .nilIface)->(∃n c,d'.target=.fn (.method n) c)->fU Z d d'
structure mr(Z:Ren)(l l':Loop):Prop where
 state:l'.state=l.state
 pending:l'.pending=l.pending
 fn:l'.fn=l.fn
 tmps:AsR Z l.tmps l'.tmps
 params:l'.params=l.params
 assign:l'.assign=l.assign
 body:l'.body=l.body
 defers:BR Z l.defers l'.defers
 okF:JunkSet.okg l.fn
 okA:JunkSet.okc l.assign
 okB:JunkSet.okc l.body
 okP:∀c,l.pending=Nq c->JunkSet.okc c
inductive ObR (Z:Ren):Obj->Obj->Prop
 | cells {c c':NJ Ny} (e:NZ) {f f':NA × NA}:AsR Z c c'->(∀o,f'.1<=o->o<f'.2->f.1<=o/\o<f.2)->ObR Z (.cells c e f) (.cells c' e f')
 | map {es es':NJ Rz} (clock:NA):LsR (gI Z) es.toList es'.toList->ObR Z (.map es clock) (.map es' clock)
 | stringIter (s:ByteArray) (p:NA):ObR Z (.stringIter s p) (.stringIter s p)
 | mapIterNil (a:NA) (s:NJ NA) (b:NA):ObR Z (.mapIter Ns a s b) (.mapIter Ns a s b)
 | mapIter {i j:NA} (a:NA) (s:NJ NA) (b:NA):BR Z i j->ObR Z (.mapIter (Nq i) a s b) (.mapIter (Nq j) a s b)
 | loop {l l':Loop}:mr Z l l'->ObR Z (.loop l) (.loop l')
 | number {i j:NA} (o:NA) (s:NO NA) (lost:OI):BR Z i j->ObR Z (.number ⟨i,o,s⟩ lost) (.number ⟨j,o,s⟩ lost)
 | deferredNone:ObR Z (.deferred Ns) (.deferred Ns)
 | deferred {l l':Nu Qa}:LsR (fU Z) l l'->ObR Z (.deferred (Nq l)) (.deferred (Nq l'))
section
variable{Z O:Ren}
def gI.mono(l:Le Z O){a b:Rz}(h:gI Z a b):gI O a b:=⟨h.key.mono l,h.val.mono l,h.born⟩
def eX.mono(l:Le Z O){a b:Target}(h:eX Z a b):eX O a b:=by
 cases h with
 | fn e d=>exact .fn (e.mono l) (d.mono l)
 | meth n h=>exact .meth n h
 | nil=>exact .nil
 | builtin b a t c h=>exact .builtin b a t c h
 | collected h=>exact .collected (h.mono l)
def fU.mono(l:Le Z O){a b:Qa}(h:fU Z a b):fU O a b:=by
 cases h with
 | mk d c=>exact .mk (d.mono l) (c.mono l)
 | bound d c e=>exact .bound d c e
def mr.mono(l:Le Z O){a b:Loop}(h:mr Z a b):mr O a b:=⟨h.state,h.pending,h.fn,h.tmps.mono l,h.params,h.assign,h.body,h.defers.mono l,h.okF,h.okA,h.okB,h.okP⟩
def ObR.mono(l:Le Z O){a b:Obj}(h:ObR Z a b):ObR O a b:=by
 cases h with
 | cells e f d=>exact .cells e (f.mono l) d
 | map c h=>exact .map c (h.imp λ_ _ k=>k.mono l)
 | stringIter s p=>exact .stringIter s p
 | mapIterNil a s b=>exact .mapIterNil a s b
 | mapIter a s b h=>exact .mapIter a s b (h.mono l)
 | loop h=>exact .loop (h.mono l)
 | number o s x h=>exact .number o s x (h.mono l)
 | deferredNone=>exact .deferredNone
 | deferred h=>exact .deferred (h.imp λ_ _ k=>k.mono l)
end
end
end
section
abbrev Rel (Y M:Type):=Ren->Y->M->Prop
def odd:Halt->OI
 | .panic _ | .goexit | .unsupported (.initOrder _)=>NB
 | _=>NC
def cI:Obj->OI
 | .pending ..=>NB
 | _=>NC
def Bad(Q:NR){Y:Type}:Rw Y->Prop
 | .pure _=>RI
 | .load _ _ k=>∀v,Bad Q (k v)
 | .store _ _ _ k=>Bad Q k
 | .new o k=>cI o=NC/\∀r,Bad Q (k r)
 | .shape _ k=>∀x,Bad Q (k x)
 | .freeze _ _ k=>Bad Q k
 | .frozen _ k=>∀b,Bad Q (k b)
 | .getObj _ k=>∀o,Bad Q (k o)
 | .setObj _ o k=>cI o=NC/\Bad Q k
 | .choose _ k=>∀n,Bad Q (k n)
 | .sys _ k=>∀r,Bad Q (k r)
 | .program k=>Bad Q (k Q)
 | .mark _ k=>Bad Q k
 | .halt h=>odd h=NC
def fZ(Q:NR):NZ:=Q.types.size
def ShR[JunkSet](Q:NR)(r:NA)(x a:NO (NZ × NA)):Prop:=(¬ JunkSet.jk r/\a=x)\/(JunkSet.jk r/\Q.globals.size<=r/\x=Nq (fZ Q,0)/\∃e n,a=Nq (e,n))
def SR[JunkSet](Q P:NR){Y M:Type}(R:Rel Y M):Rw Y->Ren->Rw M->Prop
 | .pure a=>λZ e=>∃b,e=.pure b/\R Z a b
 | .load m a k=>λZ e=>Bad Q (.load m a k)\/(m=.plain/\∃j d,e=.load .plain ⟨j,a.off,a.spot⟩ d/\BR Z a.block j/\∀v f,VR Z v f->SR Q P R (k v) Z (d f))
 | .store m a v k=>λZ e=>Bad Q (.store m a v k)\/(m=.plain/\∃j f d,e=.store .plain ⟨j,a.off,a.spot⟩ f d/\BR Z a.block j/\VR Z v f/\SR Q P R k Z d)
 | .new o k=>λZ e=>Bad Q (.new o k)\/∃g d,e=.new g d/\ObR Z o g/\∀j,Out Z j->SR Q P R (k Z.length) (Z++[Nq j]) (d j)
 | .shape r k=>λZ e=>Bad Q (.shape r k)\/∃j d,e=.shape j d/\BR Z r j/\∀x i,ShR Q r x i->SR Q P R (k x) Z (d i)
 | .getObj r k=>λZ e=>Bad Q (.getObj r k)\/∃j d,e=.getObj j d/\BR Z r j/\∀o g,ObR Z o g->SR Q P R (k o) Z (d g)
 | .setObj r o k=>λZ e=>Bad Q (.setObj r o k)\/∃j g d,e=.setObj j g d/\BR Z r j/\ObR Z o g/\SR Q P R k Z d
 | .choose q k=>λZ e=>Bad Q (.choose q k)\/∃d,e=.choose q d/\∀n,SR Q P R (k n) Z (d n)
 | .sys c k=>λZ e=>Bad Q (.sys c k)\/(c=.env/\∃d,e=.sys .env d/\∀r,SR Q P R (k r) Z (d r))
 | .program k=>λZ e=>Bad Q (.program k)\/∃d,e=.program d/\SR Q P R (k Q) Z (d P)
 | .mark m k=>λZ e=>Bad Q (.mark m k)\/(m=.noRoom/\∃d,e=.mark .noRoom d/\SR Q P R k Z d)
 | .halt (.panic v)=>λZ e=>∃f,e=.halt (.panic f)/\VR Z v f
 | .halt h=>λ_ _=>odd h=NC
 | .freeze a n k=>λ_ _=>Bad Q (.freeze a n k)
 | .frozen a k=>λ_ _=>Bad Q (.frozen a k)
def Bad.bind{Q:NR}{Y W:Type}{s:Rw Y}(h:Bad Q s)(f:Y->Rw W):Bad Q (s.bind f):=by
 induction s with
 | pure a=>exact h.elim
 | load m a k b=>exact λv=>b v (h v)
 | store m a v k b=>exact b h
 | new o k b=>exact⟨h.1,λv=>b v (h.2 v)⟩
 | shape r k b=>exact λv=>b v (h v)
 | freeze a n k b=>exact b h
 | frozen a k b=>exact λv=>b v (h v)
 | getObj r k b=>exact λv=>b v (h v)
 | setObj r o k b=>exact⟨h.1,b h.2⟩
 | choose q k b=>exact λv=>b v (h v)
 | sys c k b=>exact λv=>b v (h v)
 | program k b=>exact b Q h
 | mark m k b=>exact b h
 | halt x=>exact h
def SR.bad[JunkSet]{Q P:NR}{Y M:Type}{R:Rel Y M}{s:Rw Y}{Z:Ren}{b:Rw M}(h:Bad Q s):SR Q P R s Z b:=by
 cases s with
 | pure a=>exact h.elim
 | load m a k=>exact .inl h
 | store m a v k=>exact .inl h
 | new o k=>exact .inl h
 | shape r k=>exact .inl h
 | freeze a n k=>exact h
 | frozen a k=>exact h
 | getObj r k=>exact .inl h
 | setObj r o k=>exact .inl h
 | choose q k=>exact .inl h
 | sys c k=>exact .inl h
 | program k=>exact .inl h
 | mark m k=>exact .inl h
 | halt x=>
  cases x with
  | panic v=>cases h
  | _=>exact h
section
variable[JunkSet]{Q P:NR}{Y M W X:Type}{R:Rel Y M}{S:Rel W X}
def SR.bind{s:Rw Y}{Z:Ren}{z:Rw M}{f:Y->Rw W}{B:M->Rw X}(h:SR Q P R s Z z)(i:∀O a b,Le Z O->R O a b->SR Q P S (f a) O (B b)):SR Q P S (s.bind f) Z (z.bind B):=by
 induction s generalizing Z z with
 | pure a=>
  obtain⟨b,rfl,F⟩:=h;exact i Z a b (.refl Z) F
 | load m a k e=>
  rcases h with d | ⟨hm,j,p,rfl,d,g⟩
  ·exact .bad (d.bind f)
  ·exact .inr ⟨hm,j,_,rfl,d,λv t w=>e v (g v t w) i⟩
 | store m a v k e=>
  rcases h with d | ⟨hm,j,t,p,rfl,d,w,g⟩
  ·exact .bad (Bad.bind (s:=.store m a v k) d f)
  ·exact .inr ⟨hm,j,t,_,rfl,d,w,e g i⟩
 | new o k e=>
  rcases h with d | ⟨u,p,rfl,y,g⟩
  ·exact .bad (d.bind f)
  ·exact .inr ⟨u,_,rfl,y,λj A=>e _ (g j A) λO a b l=>i O a b ((Le.snoc Z j A).trans l)⟩
 | shape r k e=>
  rcases h with d | ⟨j,p,rfl,d,g⟩
  ·exact .bad (d.bind f)
  ·exact .inr ⟨j,_,rfl,d,λx C D=>e x (g x C D) i⟩
 | freeze a n k _=>exact .bad (Bad.bind (s:=.freeze a n k) h f)
 | frozen a k _=>exact .bad (Bad.bind (s:=.frozen a k) h f)
 | getObj r k e=>
  rcases h with d | ⟨j,p,rfl,d,g⟩
  ·exact .bad (d.bind f)
  ·exact .inr ⟨j,_,rfl,d,λo u y=>e o (g o u y) i⟩
 | setObj r o k e=>
  rcases h with d | ⟨j,u,p,rfl,d,y,g⟩
  ·exact .bad (Bad.bind (s:=.setObj r o k) d f)
  ·exact .inr ⟨j,u,_,rfl,d,y,e g i⟩
 | choose q k e=>
  rcases h with d | ⟨p,rfl,g⟩
  ·exact .bad (d.bind f)
  ·exact .inr ⟨_,rfl,λn=>e n (g n) i⟩
 | sys c k e=>
  rcases h with d | ⟨G,p,rfl,g⟩
  ·exact .bad (d.bind f)
  ·exact .inr ⟨G,_,rfl,λr=>e r (g r) i⟩
 | program k e=>
  rcases h with d | ⟨p,rfl,g⟩
  ·exact .bad (d.bind f)
  ·exact .inr ⟨_,rfl,e Q g i⟩
 | mark m k e=>
  rcases h with d | ⟨rfl,p,rfl,g⟩
  ·exact .bad (Bad.bind (s:=.mark m k) d f)
  ·exact .inr ⟨rfl,_,rfl,e g i⟩
 | halt x=>
  cases x with
  | panic v=>
   obtain⟨t,rfl,w⟩:=h;exact⟨t,rfl,w⟩
  | _=>exact h
def SR.imp{i:Rel Y M}{s:Rw Y}{Z:Ren}{f:Rw M}(h:SR Q P R s Z f)(j:∀O a b,Le Z O->R O a b->i O a b):SR Q P i s Z f:=by
 have e:∀{Y:Type} (x:Rw Y),x.bind .pure=x:=by
  intro Y x;induction x with
  | pure a=>rfl
  | load m a k d=>simp only[TQ,d]
  | store m a v k d=>simp only[TQ,d]
  | new o k d=>simp only[TQ,d]
  | shape r k d=>simp only[TQ,d]
  | freeze a n k d=>simp only[TQ,d]
  | frozen a k d=>simp only[TQ,d]
  | getObj r k d=>simp only[TQ,d]
  | setObj r o k d=>simp only[TQ,d]
  | choose q k d=>simp only[TQ,d]
  | sys c k d=>simp only[TQ,d]
  | program k d=>simp only[TQ,d]
  | mark m k d=>simp only[TQ,d]
  | halt h=>rfl
 rw[<- e s,<- e f];exact h.bind λO a b l g=>⟨b,rfl,j O a b l g⟩
end
def BR.inj{Z:Ren}(b:Inj Z){i a j:NA}(h:BR Z i j)(c:BR Z a j):i=a:=b i a j h c
def Lg(Q:NR):Obj:=.cells #[] (fZ Q) (0,0)
structure WR[JunkSet](Q:NR)(base:NA)(Z:Ren)(wq w:Nt):Prop where
 len:Z.length=wq.heap.size
 nodup:Inj Z
 lt:∀(i j:NA),BR Z i j->j<w.heap.size
 obj:∀(i j:NA) (o:Obj),BR Z i j->wq.heap[i]?=Nq o->(JunkSet.jk i/\o=Lg Q/\Q.globals.size<=i/\∃c e f,w.heap[j]?=Nq (.cells c e f))\/(¬ JunkSet.jk i/\∃o',w.heap[j]?=Nq o'/\ObR Z o o')
 low:∀(i:NA),i<base->∃c e f,wq.heap[i]?=Nq (.cells c e f)/\∀o,o<c.size->f.1<=o/\o<f.2
 env:wq.os.env=w.os.env
 below:∀(i:NA),JunkSet.jk i->i<base
 gar:∀(i:NA) (o:Obj),wq.heap[i]?=Nq o->(∃j,BR Z i j)\/cI o=NC
def cj(D:NA)(a w:Nt):Prop:=∀(n:NA) (q:Qe),a.drawn+n<D->a.tape (a.drawn+n) q=w.tape (w.drawn+n) q
def rwR{Y:Type}:SK Y->Nt
 | .ok _ w=>w
 | .halt _ w=>w
def kq(p:NR)(w:Nt)(a:OX)(u:NZ)(k:OX)(v:Ny)(b:OI){r:Nt × Nu OX}(h:w.viewStore p a u k v b=.ok r):r.1.drawn=w.drawn:=by
 unfold YN at h;simp only[bind,Except.bind,pure,Except.pure] at h
 repeat' (split at h)
 all_goals first | (cases h;rfl) | cases h | (cases h;done)
def Ev{Y:Type}(x:Ask Y):∀w:Nt,w.drawn<=(w.ask x).2.drawn:=by
 induction x with
 | done a=>intro w;exact Nv _
 | ask c b k d=>
  intro w;unfold World.ask;dsimp only;split
  ·exact d _ w
  ·refine NM (YJ _) ?_;exact d ((Question.extern c b).cut (w.tape w.drawn (Question.extern c b))) { w with drawn:=w.drawn+1 }
def CN(w:Nt)(c:Sys):w.drawn<=(w.sys c).2.drawn:=by
 unfold World.sys;have:=Ev (Kernel.perform c w.os) w;split
 ·exact Nv _
 ·rename_i h
  rw[h] at this;exact this
def jf{Y:Type}(p:NR)(s:Rw Y):∀w:Nt,w.drawn<=(rwR (s.run p w)).drawn:=by
 induction s with
 | pure a=>intro w;exact Nv _
 | load m a k b=>
  intro w;simp only[Pr];split
  ·exact b _ w
  ·split
   ·exact b _ w
   ·exact Nv _
 | store m a v k b=>
  intro w;have e:w.drawn<=(rwR (match w.cell? a with
     | some _=>if w.frozen? a then(.halt (.unsupported (.unsafePointer "a write to bytes that a string shares")) w:SK Y) else k.run p (w.setCell a v)
     | none=>match w.farStore p a v (m == .atomic) with
      | .ok (w,_)=>k.run p w
      | .error h=>.halt h w)).drawn:=by
   split
   ·split
    ·exact Nv _
    ·exact b (w.setCell a v)
   ·split
    ·rename_i i t d
     refine NM ?_ (b _);unfold TR at d;split at d
     ·split at d
      ·rename_i r g
       cases d;exact Sv (kq _ _ _ _ _ _ _ g).symm
      ·cases d
     ·cases d
    ·exact Nv _
  cases v<;>first | exact e | exact Nv _
 | new o k b=>intro w;exact b _ { w with heap:=w.heap.push o }
 | shape r k b=>intro w;exact b _ w
 | freeze a n k b=>
  intro w;refine NM ?_ (b (w.freeze a n));unfold XU;split<;>exact Nv _
 | frozen a k b=>intro w;exact b _ w
 | getObj r k b=>
  intro w;simp only[Pr];cases ho:w.heap[r]? with
  | none=>exact Nv _
  | some o=>cases o<;>first | exact b _ w | exact Nv _
 | setObj r o k b=>
  intro w;simp only[Pr];cases ho:w.heap[r]? with
  | none=>exact Nv _
  | some f=>cases f<;>first | exact b { w with heap:=w.heap.setIfInBounds r o } | exact Nv _
 | choose q k b=>
  intro w;simp only[Pr];split
  ·exact b _ w
  ·exact NM (YJ _) (b _ { w with drawn:=w.drawn+1 })
 | sys c k b=>intro w;exact NM (CN w c) (b _ _)
 | program k b=>intro w;exact b _ w
 | mark m k b=>intro w;exact b w
 | halt h=>intro w;exact Nv _
inductive iy [JunkSet] (base:NA) (O:Ren):Pz->Prop
 | cell {i j:NA} (off:NA) (spot:NO NA) (wr:OI):BR O i j->¬ JunkSet.jk i->(wr=NB->base<=i)->iy base O ⟨.cell ⟨j,off,spot⟩,wr,NC⟩
 | obj {i j:NA} (wr:OI):BR O i j->base<=i->iy base O ⟨.obj j,wr,NC⟩
 | noRoom:iy base O ⟨.mark .noRoom,NC,NB⟩
 | env:iy base O ⟨.output,NB,NC⟩
structure Eff(base:NA)(Z O:Ren)(w w':Nt):Prop where
 le:Le Z O
 tape:w'.tape=w.tape
 os:w'.os=w.os
 output:w'.output=w.output
 size:w.heap.size<=w'.heap.size
 keep:∀j,j<w.heap.size->(∀i,BR Z i j->i<base)->w'.heap[j]?=w.heap[j]?
 fresh:∀i j,BR O i j->Z.length<=i->w.heap.size<=j
 mine:∀j,w.heap.size<=j->j<w'.heap.size->∃i,Z.length<=i/\BR O i j
def iy.mono[JunkSet]{base:NA}{Z O:Ren}(l:Le Z O){e:Pz}(h:iy base Z e):iy base O e:=by
 cases h with
 | cell b a wr d f c=>exact .cell b a wr (d.mono l) f c
 | obj wr d c=>exact .obj wr (d.mono l) c
 | noRoom=>exact .noRoom
 | env=>exact .env
def Eff.refl(base:NA){Z:Ren}(w:Nt):Eff base Z Z w w :=
 ⟨.refl Z,rfl,rfl,rfl,Nv _,λ_ _ _=>rfl,λi j h a=>absurd h.lt (by omega),λj c b=>by omega⟩
def Le.len{Z O:Ren}(l:Le Z O):Z.length<=O.length:=by
 obtain⟨⟨V,rfl⟩,_⟩:=l;simp
def BR.back{Z O:Ren}(l:Le Z O){i j:NA}(h:BR O i j)(a:i<Z.length):BR Z i j:=by
 obtain⟨⟨V,rfl⟩,_⟩:=l;unfold BR at h ⊢
 rwa [Ot a] at h
def Eff.trans{base:NA}{Z O V:Ren}{w w₁ w₂:Nt}(n:base<=Z.length)(h:Eff base Z O w w₁)(k:Eff base O V w₁ w₂):Eff base Z V w w₂:=by
 refine⟨h.le.trans k.le,k.tape.trans h.tape,k.os.trans h.os,k.output.trans h.output,NM h.size k.size,λj f e=>?_,λi j a d=>?_,λj l g=>?_⟩
 ·rw[k.keep j (NX f h.size) λi a=>?_,h.keep j f e];rcases PP i Z.length with c | c
  ·exact e i (a.back h.le c)
  ·have:=h.fresh i j a c;omega
 ·rcases PP i O.length with c | c
  ·exact h.fresh i j (a.back k.le c) d
  ·exact NM h.size (k.fresh i j a c)
 ·rcases PP j w₁.heap.size with c | c
  ·have⟨i,d,a⟩:=h.mine j l c;exact⟨i,d,a.mono k.le⟩
  ·have⟨i,d,a⟩:=k.mine j c g;exact⟨i,NM h.le.len d,a⟩
def jC{Y:Type}:SK Y->Prop
 | .ok _ _=>TL
 | .halt h _=>odd h=NB
def cO(w:Nt):Prop:=∀(i:NA) (o:Obj),w.heap[i]?=Nq o->cI o=NC
def eh{w:Nt}(b:cO w)(a:OX)(x:String){Y:Type}(u:Nt):¬ jC (.halt (w.noCell a x) u:SK Y):=by
 unfold World.noCell;split
 ·rename_i h
  have:=b _ _ h;cases this
 ·exact λh=>by cases h
 ·exact λh=>by cases h
def zf{p:NR}{w:Nt}(c:cO w){a:OX}{b:OI}{h:Halt}(e:w.farLoad p a b=.error h):odd h=NC:=by
 unfold Xx at e;split at e
 ·split at e
  ·cases e
  ·cases e;rfl
 ·cases e;have:=eh c a "load: no such cell" (Y:=Unit) w;cases ho:odd (w.noCell a "load: no such cell") with
  | false=>rfl
  | true=>exact absurd ho this
def wJ{p:NR}{w:Nt}(c:cO w){a:OX}{v:Ny}{b:OI}{h:Halt}(e:w.farStore p a v b=.error h):odd h=NC:=by
 unfold TR at e;split at e
 ·split at e
  ·cases e
  ·cases e;rfl
 ·cases e;have:=eh c a "store: no such cell" (Y:=Unit) w;cases ho:odd (w.noCell a "store: no such cell") with
  | false=>rfl
  | true=>exact absurd ho this
def fF{Y:Type}{h:Halt}(a:odd h=NC)(w:Nt):¬ jC (.halt h w:SK Y):=λx=>by
 have x:odd h=NB:=x;rw[a] at x;cases x
def cO.set{w:Nt}(b:cO w){r:NA}{o:Obj}(c:cI o=NC):cO { w with heap:=w.heap.setIfInBounds r o }:=λi x a=>by
 simp only[OW] at a;split at a
 ·split at a
  ·cases a;exact c
  ·cases a
 ·exact b i x a
def cO.push{w:Nt}(b:cO w){o:Obj}(c:cI o=NC):cO { w with heap:=w.heap.push o }:=λi x a=>by
 simp only[Sr] at a;split at a
 ·cases a;exact c
 ·exact b i x a
def cO.modify{w:Nt}(b:cO w)(r:NA){f:Obj->Obj}(c:∀o,cI o=NC->cI (f o)=NC):cO { w with heap:=w.heap.modify r f }:=λi x a=>by
 simp only[SQ] at a;split at a
 ·cases h:w.heap[i]? with
  | none=>rw[h] at a;cases a
  | some y=>
   rw[h] at a;cases a;exact c y (b i y h)
 ·exact b i x a
def cO.cell{w:Nt}(b:cO w)(a:OX)(v:Ny):cO (w.setCell a v):=b.modify a.block λo c=>by
 cases o<;>first | rfl | exact c
def cO.freeze{w:Nt}(b:cO w)(a:OX)(n:NA):cO (w.freeze a n):=by
 unfold XU;split
 ·exact b
 ·exact b.modify a.block λo c=>by
   cases o<;>first | rfl | exact c
def sS{p:NR}{w:Nt}{a:OX}{u:NZ}{k:OX}{v:Ny}{b:OI}{r:Nt × Nu OX}(h:w.viewStore p a u k v b=.ok r):∃x o,cI o=NC/\r.1={ w with heap:=w.heap.setIfInBounds x o }:=by
 unfold YN at h;simp only[bind,Except.bind,pure,Except.pure] at h
 repeat' (split at h)
 all_goals first | (cases h;exact⟨_,_,rfl,rfl⟩) | cases h | (cases h;done)
def EX(w:Nt)(c:Sys):(w.sys c).2.heap=w.heap:=by
 have d:∀{Y:Type} (x:Ask Y) (w:Nt),(w.ask x).2.heap=w.heap:=by
  intro Y x;induction x with
  | done a=>intro w;rfl
  | ask e b k f=>
   intro w;unfold World.ask;dsimp only;split
   ·exact f _ w
   ·exact f _ { w with drawn:=w.drawn+1 }
 unfold World.sys;have:=d (Kernel.perform c w.os) w;split
 ·rfl
 ·rename_i h
  rw[h] at this;exact this
def Bad.not_fine{Y:Type}{p:NR}{s:Rw Y}:∀{w:Nt},cO w->Bad p s->¬ jC (s.run p w):=by
 induction s with
 | pure a=>intro w _ h;exact h.elim
 | load m a k d=>
  intro w b h;simp only[Pr];split
  ·exact d _ b (h _)
  ·split
   ·exact d _ b (h _)
   ·rename_i e
    exact fF (zf b e) w
 | store m a v k d=>
  intro w b h;have g:¬ jC (match w.cell? a with
     | some _=>if w.frozen? a then(.halt (.unsupported (.unsafePointer "a write to bytes that a string shares")) w:SK Y) else k.run p (w.setCell a v)
     | none=>match w.farStore p a v (m == .atomic) with
      | .ok (w,_)=>k.run p w
      | .error h=>.halt h w):=by
   split
   ·split
    ·exact λh=>by cases h
    ·exact d (b.cell a v) h
   ·split
    ·rename_i l t e
     refine d ?_ h;unfold TR at e;split at e
     ·split at e
      ·rename_i r y
       cases e;have⟨x,o,f,j⟩:=sS y;have j:l={ w with heap:=w.heap.setIfInBounds x o }:=j;rw[j];exact b.set f
      ·cases e
     ·cases e
    ·rename_i e
     exact fF (wJ b e) w
  cases v<;>first | exact g | exact λh=>by cases h
 | new o k d=>intro w b h;exact d _ (b.push h.1) (h.2 _)
 | shape r k d=>intro w b h;exact d _ b (h _)
 | freeze a n k d=>intro w b h;exact d (w:=w.freeze a n) (b.freeze a n) h
 | frozen a k d=>intro w b h;exact d _ b (h _)
 | getObj r k d=>
  intro w b h;simp only[Pr];cases f:w.heap[r]? with
  | none=>exact λh=>by cases h
  | some o=>cases o<;>first | exact d _ b (h _) | exact λh=>by cases h
 | setObj r o k d=>
  intro w b h;simp only[Pr];cases f:w.heap[r]? with
  | none=>exact λh=>by cases h
  | some u=>cases u<;>first | exact d (b.set h.1) h.2 | exact λh=>by cases h
 | choose q k d=>
  intro w b h;simp only[Pr];split
  ·exact d _ b (h _)
  ·exact d _ (w:={ w with drawn:=w.drawn+1 }) b (h _)
 | sys c k d=>
  intro w b h;refine d _ (w:=(w.sys c).2) (λi o f=>b i o ?_) (h _)
  rwa [EX] at f
 | program k d=>intro w b h;exact d _ b h
 | mark m k d=>intro w b h;exact d b h
 | halt x=>intro w b h;exact fF h w
inductive Bi [JunkSet] {Y M:Type} (R:Rel Y M) (O:Ren):SK Y->Nt->SK M->Nt->Prop
 | ok {a:Y} {b:M} (wq w:Nt):R O a b->Bi R O (.ok a wq) wq (.ok b w) w
 | panic {v v':Ny} (wq w:Nt):VR O v v'->Bi R O (.halt (.panic v) wq) wq (.halt (.panic v') w) w
section
variable[JunkSet]{Q P:NR}{base:NA}
def WR.looked{Z:Ren}{d w:Nt}(h:WR Q base Z d w){a:OX}{j:NA}(n:BR Z a.block j){v:Ny}(b:d.cell? a=Nq v):¬ JunkSet.jk a.block:=by
 intro k;unfold OA at b;split at b
 ·rename_i c e f l
  rcases h.obj _ _ _ n l with⟨_,g,_⟩ | ⟨i,_⟩
  ·cases g;split at b<;>simp at b
  ·exact i k
 ·cases b
def WR.cell{Z:Ren}{o w:Nt}(h:WR Q base Z o w){a:OX}{j:NA}(u:BR Z a.block j){v:Ny}(b:o.cell? a=Nq v) :∃d,w.cell? ⟨j,a.off,a.spot⟩=Nq d/\VR Z v d:=by
 unfold OA at b;split at b
 ·rename_i c e f t
  split at b
  ·cases b
  ·rename_i q
   rcases h.obj _ _ _ u t with⟨_,s,_⟩ | ⟨_,x,l,r⟩
   ·cases s;simp at b
   ·cases r with
    | cells e n y=>
     have⟨d,k,g⟩:=n.get b;refine⟨d,?_,g⟩;unfold OA;simp only[l];rw[if_neg q];exact k
 ·cases b
def WR.nopend{Z:Ren}{a w:Nt}(h:WR Q base Z a w):cO a:=λi o b=>by
 rcases h.gar i o b with⟨j,e⟩ | d
 ·rcases h.obj _ _ _ e b with⟨_,rfl,_⟩ | ⟨_,f,_,c⟩
  ·rfl
  ·cases c<;>rfl
 ·exact d
def WR.shape{Z:Ren}{b w:Nt}(h:WR Q base Z b w){i j:NA}(n:BR Z i j):ShR Q i (b.shape? i) (w.shape? j):=by
 have p:i<b.heap.size:=by rw[<- h.len];exact n.lt
 have d:b.heap[i]?=Nq b.heap[i]:=Om p;rcases h.obj _ _ _ n d with⟨a,o,k,c,e,f,q⟩ | ⟨a,s,g,l⟩
 ·rw[o] at d;exact .inr ⟨a,k,by simp[Wo,d,Lg],e,c.size,by simp[Wo,q]⟩
 ·refine .inl ⟨a,?_⟩;unfold Wo;rw[d,g];generalize b.heap[i]=x at l;cases l with
  | cells e r t=>simp[r.1]
  | _=>rfl
def WR.noview{Z:Ren}{b w:Nt}(h:WR Q base Z b w){i j:NA}(f:BR Z i j)(a:OX)(t:NZ):b.heap[i]?≠Nq (.view a t):=by
 intro e;rcases h.obj _ _ _ f e with⟨_,d,_⟩ | ⟨_,g,_,c⟩
 ·cases d
 ·cases c
def WR.set{Z:Ren}{l w:Nt}(h:WR Q base Z l w){a:OX}{j:NA}(D:BR Z a.block j){u v t:Ny}(s:l.cell? a=Nq u)(hf:l.frozen? a=NC)(hv:VR Z v t) :base<=a.block/\w.frozen? ⟨j,a.off,a.spot⟩=NC/\WR Q base Z (l.setCell a v) (w.setCell ⟨j,a.off,a.spot⟩ t)/\Eff base Z Z w (w.setCell ⟨j,a.off,a.spot⟩ t):=by
 unfold OA at s;split at s
 ·rename_i c e f d
  split at s
  ·cases s
  ·rename_i U
   have y:a.spot=Ns:=by
    cases hsp:a.spot with
    | none=>rfl
    | some _=>rw[hsp] at U;exact absurd rfl U
   have A:a.off<c.size:=(Nz.1 s).1;have q:base<=a.block:=by
    rcases PP a.block base with N | N
    ·have⟨c',e',f',G,F⟩:=h.low _ N;rw[d] at G;cases G;have:=F _ A;simp[RN,d,this.1,this.2] at hf
    ·exact N
   rcases h.obj _ _ _ D d with⟨_,hj,_⟩ | ⟨_,o',n,hr⟩
   ·cases hj;simp at A
   ·cases hr with
    | @cells _ c' _ _ f' T C=>
     have L:w.frozen? ⟨j,a.off,a.spot⟩=NC:=by
      simp only[RN,n];rw[So];intro b;simp only[Of,decide_eq_true_eq] at b;have:=C _ b.1 b.2;simp[RN,d,this.1,this.2] at hf
     have hi:a.block<l.heap.size:=(Nz.1 d).1;have V:j<w.heap.size:=(Nz.1 n).1;have r:∀i:NA,(l.setCell a v).heap[i]?=if i=a.block then Nq (.cells (c.setIfInBounds a.off v) e f) else l.heap[i]?:=by
      intro i;simp only[Qq,SQ];by_cases b:a.block=i
      ·subst b;simp[d,y]
      ·rw[if_neg b,if_neg (λx=>b x.symm)]
     have H:∀i:NA,(w.setCell ⟨j,a.off,a.spot⟩ t).heap[i]?=if i=j then Nq (.cells (c'.setIfInBounds a.off t) e f') else w.heap[i]?:=by
      intro i;simp only[Qq,SQ];by_cases b:j=i
      ·subst b;simp[n,y]
      ·rw[if_neg b,if_neg (λx=>b x.symm)]
     refine⟨q,L,⟨by rw[h.len];simp[Qq],h.nodup,λi k I=>by have:=h.lt i k I;simpa[Qq] using this,λi k o g z=>?_,λi B=>?_,h.env,h.below,λi o p=>by
      rw[r] at p;by_cases b:i=a.block
      ·exact .inl ⟨j,b ▸ D⟩
      ·rw[if_neg b] at p;exact h.gar i o p⟩,⟨.refl Z,rfl,rfl,rfl,by simp[Qq],λk I hn=>?_,λi k g B=>absurd g.lt (by omega),λk G F=>by simp[Qq] at F;omega⟩⟩
     ·rw[r] at z;rw[H];by_cases b:i=a.block
      ·subst b;have:k=j:=g.fn D;subst this;rw[if_pos rfl] at z ⊢;cases z;exact .inr ⟨λI=>by have:=h.below _ I;omega,_,rfl,.cells e (T.set _ hv) C⟩
      ·have O:k≠j:=λx=>by
        subst x;exact b (g.inj h.nodup D)
       rw[if_neg b] at z;rw[if_neg O];exact h.obj i k o g z
     ·have⟨c1,e1,f1,G,F⟩:=h.low i B;refine⟨c1,e1,f1,?_,F⟩;rw[r,if_neg (by omega)];exact G
     ·rw[H];by_cases b:k=j
      ·subst b;have:=hn _ D;omega
      ·rw[if_neg b]
 ·cases s
def WR.setO{Z:Ren}{wq w:Nt}(h:WR Q base Z wq w){r j:NA}(u:BR Z r j){o z y:Obj}(F:wq.heap[r]?=Nq y)(q:∀c e f,y≠.cells c e f)(H:ObR Z o z) :base<=r/\(∃a,w.heap[j]?=Nq a/\ObR Z y a)/\WR Q base Z { wq with heap:=wq.heap.setIfInBounds r o } { w with heap:=w.heap.setIfInBounds j z }/\Eff base Z Z w { w with heap:=w.heap.setIfInBounds j z }:=by
 have l:base<=r:=by
  rcases PP r base with C | C
  ·have⟨c,e,f,v,_⟩:=h.low _ C;rw[F] at v;cases v;exact absurd rfl (q _ _ _)
  ·exact C
 have hrel:∃a,w.heap[j]?=Nq a/\ObR Z y a:=by
  rcases h.obj _ _ _ u F with⟨_,L,_⟩ | ⟨_,B⟩
  ·exact absurd L (q _ _ _)
  ·exact B
 obtain⟨a,p,B⟩:=hrel;have N:r<wq.heap.size:=(Nz.1 F).1;have s:j<w.heap.size:=(Nz.1 p).1;refine⟨l,⟨a,p,B⟩,⟨by rw[h.len];simp,h.nodup,λi k A=>by have:=h.lt i k A;simpa using this,λi k x b d=>?_,λi t=>?_,h.env,h.below,λi x g=>by
   rw[OW] at g;by_cases n:r=i
   ·exact .inl ⟨j,n ▸ u⟩
   ·rw[if_neg n] at g;exact h.gar i x g⟩,⟨.refl Z,rfl,rfl,rfl,by simp,λk A I=>?_,λi k b t=>absurd b.lt (by omega),λk v G=>by simp at G;omega⟩⟩
 ·simp only[OW] at d ⊢;by_cases n:r=i
  ·subst n;have:k=j:=b.fn u;subst this;rw[if_pos rfl,if_pos N] at d;cases d;refine .inr ⟨λA=>by have:=h.below _ A;omega,z,?_,H⟩;rw[if_pos rfl,if_pos s]
  ·have D:j≠k:=λx=>by
    subst x;exact n (u.inj h.nodup b)
   rw[if_neg n] at d;rw[if_neg D];exact h.obj i k x b d
 ·have⟨T,O,f1,v,G⟩:=h.low i t;refine⟨T,O,f1,?_,G⟩;simp only[OW];rw[if_neg (by omega)];exact v
 ·simp only[OW];by_cases d:j=k
  ·subst d;have:=I _ u;omega
  ·rw[if_neg d]
def WR.newO{Z:Ren}{wq w:Nt}(h:WR Q base Z wq w)(F:base<=Z.length){o p:Obj}(v:ObR Z o p) :WR Q base (Z++[Nq w.heap.size]) { wq with heap:=wq.heap.push o } { w with heap:=w.heap.push p }/\Eff base Z (Z++[Nq w.heap.size]) w { w with heap:=w.heap.push p }:=by
 have c:Le Z (Z++[Nq w.heap.size]):=.snoc _ _ λi f=>TE _ (h.lt i _ f);have b:∀{i j:NA},BR (Z++[Nq w.heap.size]) i j->(i<Z.length/\BR Z i j)\/(i=Z.length/\j=w.heap.size):=by
  intro i j a;rcases a.snoc_cases with z | ⟨n,l⟩
  ·exact .inl z
  ·exact .inr ⟨n,(QQ l).symm⟩
 refine⟨⟨by simp[h.len],?_,λi j a=>?_,λi j x a g=>?_,λi f=>?_,h.env,h.below,λi o f=>?_⟩,⟨c,rfl,rfl,rfl,by simp,λj r D=>?_,λi j a f=>?_,λj n l=>?_⟩⟩
 ·exact c.2 h.nodup
 ·rcases b a with⟨q,d⟩ | ⟨rfl,rfl⟩
  ·have:=h.lt i j d;simp;omega
  ·simp
 ·simp only[Sr] at g ⊢;rcases b a with⟨q,d⟩ | ⟨rfl,rfl⟩
  ·have n:=h.lt i j d;rw[if_neg (by have:=h.len;omega)] at g;rw[if_neg (by omega)];rcases h.obj i j x d g with⟨k,rfl,A⟩ | ⟨k,y,s,t⟩
   ·exact .inl ⟨k,rfl,A⟩
   ·exact .inr ⟨k,y,s,t.mono c⟩
  ·rw[if_pos h.len] at g;cases g;exact .inr ⟨λk=>by have:=h.below _ k;omega,p,by simp,v.mono c⟩
 ·have⟨C,B,f1,n,l⟩:=h.low i f;refine⟨C,B,f1,?_,l⟩;simp only[Sr];have:=h.len;rw[if_neg (by omega)];exact n
 ·simp only[Sr] at f;split at f
  ·rename_i e
   exact .inl ⟨w.heap.size,by rw[e,<- h.len];exact BR.new _ _⟩
  ·rcases h.gar i o f with⟨j,r⟩ | u
   ·exact .inl ⟨j,r.mono c⟩
   ·exact .inr u
 ·simp only[Sr];rw[if_neg (by omega)]
 ·rcases b a with⟨q,_⟩ | ⟨_,rfl⟩
  ·omega
  ·exact Nv _
 ·simp at l;have:j=w.heap.size:=by omega
  subst this;exact⟨Z.length,Nv _,BR.new _ _⟩
def WR.draw{Z:Ren}{wq w:Nt}(h:WR Q base Z wq w):WR Q base Z { wq with drawn:=wq.drawn+1 } { w with drawn:=w.drawn+1 }/\Eff base Z Z w { w with drawn:=w.drawn+1 } :=
 ⟨⟨h.len,h.nodup,h.lt,h.obj,h.low,h.env,h.below,h.gar⟩,⟨.refl Z,rfl,rfl,rfl,Nv _,λ_ _ _=>rfl,λi k a b=>absurd a.lt (by omega),λk d c=>by simp at c;omega⟩⟩
omit [JunkSet] in
def cj.draw{D:NA}{wq w:Nt}(h:cj D wq w):cj D { wq with drawn:=wq.drawn+1 } { w with drawn:=w.drawn+1 }:=λn q a=>by
 have:=h (n+1) q (by simp only at a;omega);simpa[TF,Nat.add_comm 1 n] using this
omit [JunkSet] in
def cj.heap{D:NA}{b w a c:Nt}(h:cj D b w)(i:a.tape=b.tape)(d:a.drawn=b.drawn)(g:c.tape=w.tape)(f:c.drawn=w.drawn):cj D a c:=λn q e=>by
 rw[i,d,g,f];exact h n q (by rw[<- d];exact e)
def fh{Y:Type}{p:NR}{r:NA}{k:Obj->Rw Y}{w:Nt}{o:Obj}(h:w.heap[r]?=Nq o)(a:∀c e f,o≠.cells c e f):(Sem.getObj r k).run p w=(k o).run p w:=by
 rw[Pr,h];cases o<;>first | exact absurd rfl (a _ _ _) | rfl
def ye{Y:Type}{p:NR}{r:NA}{k:Obj->Rw Y}{w:Nt}{o:Obj}(a:NJ Pz)(h:w.heap[r]?=Nq o)(b:∀c e f,o≠.cells c e f):(Sem.getObj r k).runT p w a=(k o).runT p w (a.push ⟨.obj r,NC,o.isChan⟩):=by
 rw[Tj,h];cases o<;>first | exact absurd rfl (b _ _ _) | rfl
def fg{Y:Type}{p:NR}{r:NA}{x:Obj}{k:Rw Y}{w:Nt}{o:Obj}(h:w.heap[r]?=Nq o)(a:∀c e f,o≠.cells c e f):(YS r x k).run p w=k.run p { w with heap:=w.heap.setIfInBounds r x }:=by
 rw[Pr,h];cases o<;>first | exact absurd rfl (a _ _ _) | rfl
def xZ{Y:Type}{p:NR}{r:NA}{x:Obj}{k:Rw Y}{w:Nt}{o:Obj}(a:NJ Pz)(h:w.heap[r]?=Nq o)(b:∀c e f,o≠.cells c e f):(YS r x k).runT p w a=k.runT p { w with heap:=w.heap.setIfInBounds r x } (a.push ⟨.obj r,NB,x.isChan⟩):=by
 rw[Tj,h];cases o<;>first | exact absurd rfl (b _ _ _) | rfl
def SR.runs{Y M:Type}{R:Rel Y M}{s:Rw Y}{D:NA}:∀{Z:Ren} {s':Rw M} {A w:Nt} (es:NJ Pz),SR Q P R s Z s'->base<=Z.length->WR Q base Z A w->cj D A w->(rwR (s.run Q A)).drawn<=D->jC (s.run Q A) ->∃O p G t,Bi R O (s.run Q A) p (s'.run P w) G/\(s'.runT P w es).2=es++t/\(∀e∈t,iy base O e)/\WR Q base O p G/\cj D p G/\Eff base Z O w G/\p.drawn+w.drawn=A.drawn+G.drawn:=by
 induction s with
 | pure a=>
  intro Z s' A w es h F l H _ _;obtain⟨b,rfl,hr⟩:=h;exact⟨Z,A,w,#[],.ok A w hr,by simp[Tj],by simp,l,H,.refl base w,rfl⟩
 | load m a k ih=>
  intro Z s' A w es h F l H z d;rcases h with g | ⟨rfl,j,k',rfl,B,T⟩
  ·exact absurd d (Bad.not_fine l.nopend g)
  simp only[Pr] at z d ⊢;cases hc:A.cell? a with
  | none=>
   rw[hc] at d;simp only[Xx] at d;split at d
   ·rename_i hv
    split at hv
    ·rename_i U
     exact absurd U (l.noview B _ _)
    ·cases hv
   ·rename_i hv
    split at hv
    ·rename_i U
     exact absurd U (l.noview B _ _)
    ·cases hv;exact absurd d (eh l.nopend _ _ _)
  | some v=>
   have⟨v',U,hr⟩:=l.cell B hc;rw[hc] at z d;simp only[U] at z d ⊢;have⟨O,p,G,t,L,h2,h3,h4,h5,I,h7⟩:=ih v (es.push ⟨.cell ⟨j,a.off,a.spot⟩,NC,NC⟩) (T v v' hr) F l H z d;refine⟨O,p,G,#[⟨.cell ⟨j,a.off,a.spot⟩,NC,NC⟩]++t,L,?_,?_,h4,h5,I,h7⟩
   ·simp only[Tj,U];rw[show((Mode.plain == Mode.atomic)=NC) from rfl,h2];simp
   ·intro e y;rw[Rm] at y;rcases y with y | y
    ·simp at y;subst y;exact .cell _ _ _ (B.mono I.le) (l.looked B hc) (by simp)
    ·exact h3 e y
 | store m a v k ih=>
  intro Z s' A w es h F l H z d;rcases h with g | ⟨rfl,j,v',k',rfl,B,hv,T⟩
  ·exact absurd d (Bad.not_fine l.nopend (s:=.store m a v k) g)
  have e7:(∃x,v=.agg x)\/(∃x,v=.tuple x)\/((∀x,v≠.agg x)/\∀x,v≠.tuple x):=by
   cases v<;>simp
  rcases e7 with⟨x,rfl⟩ | ⟨x,rfl⟩ | ⟨g7,g6⟩
  ·simp only[Pr] at d;exact absurd d (λh=>by cases h)
  ·simp only[Pr] at d;exact absurd d (λh=>by cases h)
  ·have e5:∀x,v'≠.agg x:=λx e=>by subst e;cases hv<;>first | exact g7 _ rfl | (rename_i h;cases h)
   have e4:∀x,v'≠.tuple x:=λx e=>by subst e;cases hv<;>first | exact g6 _ rfl | (rename_i h;cases h)
   have e1:(Yt .plain a v k).run Q A=match A.cell? a with
     | some _=>if A.frozen? a then .halt (.unsupported (.unsafePointer "a write to bytes that a string shares")) A else k.run Q (A.setCell a v)
     | none=>match A.farStore Q a v NC with
      | .ok (w,_)=>k.run Q w
      | .error h=>.halt h A:=by
    cases v<;>first | rfl | exact absurd rfl (g7 _) | exact absurd rfl (g6 _)
   have e2:(Yt .plain (⟨j,a.off,a.spot⟩:OX) v' k').run P w=match w.cell? ⟨j,a.off,a.spot⟩ with
     | some _=>if w.frozen? ⟨j,a.off,a.spot⟩ then .halt (.unsupported (.unsafePointer "a write to bytes that a string shares")) w else k'.run P (w.setCell ⟨j,a.off,a.spot⟩ v')
     | none=>match w.farStore P ⟨j,a.off,a.spot⟩ v' NC with
      | .ok (w,_)=>k'.run P w
      | .error h=>.halt h w:=by
    cases v'<;>first | rfl | exact absurd rfl (e5 _) | exact absurd rfl (e4 _)
   have e3:((Yt .plain (⟨j,a.off,a.spot⟩:OX) v' k').runT P w es).2=(match w.cell? ⟨j,a.off,a.spot⟩ with
     | some _=>if w.frozen? ⟨j,a.off,a.spot⟩ then((ZX (.unsupported (.unsafePointer "a write to bytes that a string shares")) w:SK M),es) else k'.runT P (w.setCell ⟨j,a.off,a.spot⟩ v') (es.push ⟨.cell ⟨j,a.off,a.spot⟩,NB,NC⟩)
     | none=>match w.farStore P ⟨j,a.off,a.spot⟩ v' NC with
      | .ok (w,d7)=>k'.runT P w (es++d7.toArray.map λx=>(⟨.cell x,NB,NC⟩:Pz))
      | .error h=>((ZX h w:SK M),es)).2:=by
    cases v'<;>first | rfl | exact absurd rfl (e5 _) | exact absurd rfl (e4 _)
   rw[e1] at z d ⊢;rw[e2,e3];cases hc:A.cell? a with
   | none=>
    rw[hc] at d;simp only[TR] at d;split at d
    ·rename_i hv
     split at hv
     ·rename_i U
      exact absurd U (l.noview B _ _)
     ·cases hv
    ·rename_i hv
     split at hv
     ·rename_i U
      exact absurd U (l.noview B _ _)
     ·cases hv;exact absurd d (eh l.nopend _ _ _)
   | some u=>
    have⟨u',k0,_⟩:=l.cell B hc;rw[hc] at z d;simp only[k0] at z d ⊢;cases hfz:A.frozen? a with
    | true=>
     rw[hfz] at d;exact absurd d (λh=>by cases h)
    | false=>
     have⟨N,g9,c8,c9⟩:=l.set B hc hfz hv;rw[hfz] at z d;simp only[g9,OJ,if_false] at z d ⊢;have⟨O,p,G,t,L,h2,h3,h4,h5,I,h7⟩:=ih (es.push ⟨.cell ⟨j,a.off,a.spot⟩,NB,NC⟩) T F c8 (H.heap rfl rfl rfl rfl) z d;refine⟨O,p,G,#[⟨.cell ⟨j,a.off,a.spot⟩,NB,NC⟩]++t,L,by rw[h2];simp,?_,h4,h5,c9.trans F I,h7⟩;intro e y;rw[Rm] at y;rcases y with y | y
     ·simp at y;subst y;exact .cell _ _ _ (B.mono I.le) (λT=>absurd (l.below _ T) (by omega)) (λ_=>N)
     ·exact h3 e y
 | new o k ih=>
  intro Z s' A w es h F l H z d;rcases h with g | ⟨o',k',rfl,ho,T⟩
  ·exact absurd d (Bad.not_fine l.nopend (s:=.new o k) g)
  simp only[Pr] at z d ⊢;have⟨c8,c9⟩:=l.newO F ho;have g8:=T w.heap.size (λi hi=>TE _ (l.lt i _ hi));rw[l.len] at g8;have⟨O,p,G,t,L,h2,h3,h4,h5,I,h7⟩:=ih _ es g8 (by simp;omega) c8 (H.heap rfl rfl rfl rfl) z d;exact⟨O,p,G,t,L,by simp only[Tj];exact h2,h3,h4,h5,c9.trans F I,by simp only at h7;omega⟩
 | shape r k ih=>
  intro Z s' A w es h F l H z d;rcases h with g | ⟨j,k',rfl,B,T⟩
  ·exact absurd d (Bad.not_fine l.nopend (s:=.shape r k) g)
  simp only[Pr] at z d ⊢;have⟨O,p,G,t,L,h2,h3,h4,h5,I,h7⟩:=ih _ es (T _ _ (l.shape B)) F l H z d;exact⟨O,p,G,t,L,by simp only[Tj];exact h2,h3,h4,h5,I,h7⟩
 | freeze a n k _=>intro Z s' A w es h F l H z d;exact absurd d (Bad.not_fine l.nopend (s:=.freeze a n k) h)
 | frozen a k _=>intro Z s' A w es h F l H z d;exact absurd d (Bad.not_fine l.nopend (s:=.frozen a k) h)
 | getObj r k ih=>
  intro Z s' A w es h F l H z d;rcases h with g | ⟨j,k',rfl,B,T⟩
  ·exact absurd d (Bad.not_fine l.nopend (s:=.getObj r k) g)
  cases ho:A.heap[r]? with
  | none=>simp only[Pr,ho] at d;exact absurd d (λh=>by cases h)
  | some o=>
   by_cases C:∃c e f,o=.cells c e f
   ·obtain⟨c,e,f,rfl⟩:=C;simp only[Pr,ho] at d;exact absurd d (λh=>by cases h)
   ·have V:∀c e f,o≠.cells c e f:=λc e f x=>C ⟨c,e,f,x⟩;have N:base<=r:=by
     rcases PP r base with hl | hl
     ·have⟨c,e,f,L,_⟩:=l.low _ hl;rw[ho] at L;cases L;exact absurd rfl (V _ _ _)
     ·exact hl
    rcases l.obj _ _ _ B ho with⟨_,hj,_⟩ | ⟨_,o',g5,hr⟩
    ·exact absurd hj (V _ _ _)
    ·have b9:∀c e f,o'≠.cells c e f:=λc e f x=>by subst x;cases hr;exact V _ _ _ rfl
     have e6:o'.isChan=NC:=by cases hr<;>rfl
     rw[fh ho V] at z d;rw[fh ho V,fh g5 b9,ye es g5 b9,e6];have⟨O,p,G,t,L,h2,h3,h4,h5,I,h7⟩:=ih o (es.push ⟨.obj j,NC,NC⟩) (T _ _ hr) F l H z d;refine⟨O,p,G,#[⟨.obj j,NC,NC⟩]++t,L,by rw[h2];simp,?_,h4,h5,I,h7⟩;intro e y;rw[Rm] at y;rcases y with y | y
     ·simp at y;subst y;exact .obj _ (B.mono I.le) N
     ·exact h3 e y
 | setObj r o k ih=>
  intro Z s' A w es h F l H z d;rcases h with g | ⟨j,o',k',rfl,B,e9,T⟩
  ·exact absurd d (Bad.not_fine l.nopend (s:=.setObj r o k) g)
  cases ho:A.heap[r]? with
  | none=>simp only[Pr,ho] at d;exact absurd d (λh=>by cases h)
  | some ob=>
   by_cases C:∃c e f,ob=.cells c e f
   ·obtain⟨c,e,f,rfl⟩:=C;simp only[Pr,ho] at d;exact absurd d (λh=>by cases h)
   ·have V:∀c e f,ob≠.cells c e f:=λc e f x=>C ⟨c,e,f,x⟩;have⟨N,⟨h9,d9,hr⟩,c8,c9⟩:=l.setO B ho V e9;have b9:∀c e f,h9≠.cells c e f:=λc e f x=>by subst x;cases hr;exact V _ _ _ rfl
    have e6:o'.isChan=NC:=by cases e9<;>rfl
    rw[fg ho V] at z d;rw[fg ho V,fg d9 b9,xZ es d9 b9,e6];have⟨O,p,G,t,L,h2,h3,h4,h5,I,h7⟩:=ih (es.push ⟨.obj j,NB,NC⟩) T F c8 (H.heap rfl rfl rfl rfl) z d;refine⟨O,p,G,#[⟨.obj j,NB,NC⟩]++t,L,by rw[h2];simp,?_,h4,h5,c9.trans F I,h7⟩;intro e y;rw[Rm] at y;rcases y with y | y
    ·simp at y;subst y;exact .obj _ (B.mono I.le) N
    ·exact h3 e y
 | choose q k ih=>
  intro Z s' A w es h F l H z d;rcases h with g | ⟨k',rfl,T⟩
  ·exact absurd d (Bad.not_fine l.nopend (s:=.choose q k) g)
  simp only[Pr] at z d ⊢;cases hq:q.forced with
  | true=>
   rw[hq] at z d;simp only[if_true] at z d ⊢;have⟨O,p,G,t,L,h2,h3,h4,h5,I,h7⟩:=ih _ es (T _) F l H z d;exact⟨O,p,G,t,L,by simp only[Tj,hq,if_true];exact h2,h3,h4,h5,I,h7⟩
  | false=>
   rw[hq] at z d;simp only[OJ,if_false] at z d ⊢;have k5:A.tape A.drawn q=w.tape w.drawn q:=by
    have:=NM (jf Q _ _) z;simpa using H 0 q (by simp only at this;omega)
   have⟨c8,c9⟩:=l.draw;rw[k5] at z d ⊢;have⟨O,p,G,t,L,h2,h3,h4,h5,I,h7⟩:=ih _ es (T _) F c8 H.draw z d;exact⟨O,p,G,t,L,by simp only[Tj,hq,OJ,if_false];exact h2,h3,h4,h5,c9.trans F I,by simp only at h7;omega⟩
 | sys c k ih=>
  intro Z s' A w es h F l H z d;rcases h with g | ⟨rfl,k',rfl,T⟩
  ·exact absurd d (Bad.not_fine l.nopend (s:=.sys c k) g)
  have e1:∀u:Nt,u.sys .env=(.strings u.os.env,u):=λu=>rfl;simp only[Pr,e1] at z d ⊢;rw[l.env] at z d ⊢;have⟨O,p,G,t,L,h2,h3,h4,h5,I,h7⟩:=ih _ (es.push ⟨.output,NB,NC⟩) (T _) F l H z d;refine⟨O,p,G,#[⟨.output,NB,NC⟩]++t,L,by simp only[Tj,e1];rw[h2];simp,?_,h4,h5,I,h7⟩;intro e y;rw[Rm] at y;rcases y with y | y
  ·simp at y;subst y;exact .env
  ·exact h3 e y
 | program k ih=>
  intro Z s' A w es h F l H z d;rcases h with g | ⟨k',rfl,T⟩
  ·exact absurd d (Bad.not_fine l.nopend (s:=.program k) g)
  simp only[Pr] at z d ⊢;have⟨O,p,G,t,L,h2,h3,h4,h5,I,h7⟩:=ih _ es T F l H z d;exact⟨O,p,G,t,L,by simp only[Tj];exact h2,h3,h4,h5,I,h7⟩
 | mark m k ih=>
  intro Z s' A w es h F l H z d;rcases h with g | ⟨rfl,k',rfl,T⟩
  ·exact absurd d (Bad.not_fine l.nopend (s:=.mark m k) g)
  simp only[Pr] at z d ⊢;have⟨O,p,G,t,L,h2,h3,h4,h5,I,h7⟩:=ih (es.push ⟨.mark .noRoom,NC,NB⟩) T F l H z d;refine⟨O,p,G,#[⟨.mark .noRoom,NC,NB⟩]++t,L,by simp only[Tj];rw[h2];simp,?_,h4,h5,I,h7⟩;intro e y;rw[Rm] at y;rcases y with y | y
  ·simp at y;subst y;exact .noRoom
  ·exact h3 e y
 | halt x=>
  intro Z s' A w es h F l H z d;cases x with
  | panic v=>
   obtain⟨v',rfl,hv⟩:=h;exact⟨Z,A,w,#[],.panic A w hv,by simp[Tj],by simp,l,H,.refl base w,rfl⟩
  | _=>exact absurd d (fF h A)
end
end
section
def EqR{Y:Type}:Rel Y Y:=λ_ a b=>b=a
def Gl(P:NR)(Z:Ren):Prop:=∀i,i<=P.globals.size->BR Z i i
def Gl.mono{P:NR}{Z O:Ren}(l:Le Z O)(h:Gl P Z):Gl P O:=λi a=>(h i a).mono l
section
variable[JunkSet]{Q P:NR}{Y M W X:Type}{R:Rel Y M}{S:Rel W X}{Z:Ren}
def ak{a:Y}{b:M}(h:R Z a b):SR Q P R (pure a) Z (pure b):=⟨b,rfl,h⟩
def SR.bnd{s:Rw Y}{c:Rw M}{f:Y->Rw W}{f':M->Rw X}(h:SR Q P R s Z c)(d:∀O a b,Le Z O->R O a b->SR Q P S (f a) O (f' b)) :SR Q P S (s>>=f) Z (c>>=f'):=SR.bind h d
def SR.bndE{s c:Rw Y}{f:Y->Rw W}{f':Y->Rw X}(h:SR Q P EqR s Z c)(d:∀O a,Le Z O->SR Q P S (f a) O (f' a)) :SR Q P S (s>>=f) Z (c>>=f'):=SR.bind h λO a b l e=>by cases e;exact d O a l
def au{w:String}{a:Rw M}:SR Q P R (stuck w) Z a:=rfl
def aF{w:Unsupported}{a:Rw M}(h:odd (.unsupported w)=NC:=by rfl):SR Q P R (unsupported w) Z a:=by
 cases w<;>first | rfl | cases h
def bW{w:String}{f:Y->Rw W}{a:Rw X}:SR Q P S ((stuck w:Rw Y)>>=f) Z a:=rfl
def de{w:Unsupported}{f:Y->Rw W}{a:Rw X}(h:odd (.unsupported w)=NC:=by rfl):SR Q P S ((unsupported w:Rw Y)>>=f) Z a:=by
 cases w<;>first | rfl | cases h
def Fp{w:String}{a:Rw M}:SR Q P R (throw w) Z a:=rfl
def cz{f:NR->Rw Y}{a:NR->Rw M}(h:SR Q P R (f Q) Z (a P)):SR Q P R (program>>=f) Z (program>>=a):=.inr ⟨_,rfl,h⟩
def xO{a:Y}{f:Y->Rw W}{b:Rw X}(h:SR Q P S (f a) Z b):SR Q P S (pure a>>=f) Z b:=h
def jc{q:Qe}:SR Q P EqR (choose q) Z (choose q):=.inr ⟨_,rfl,λn=>⟨n,rfl,rfl⟩⟩
def Ft{f:Y->W}{s b:Rw Y}(h:SR Q P EqR s Z b):SR Q P EqR (Functor.map f s) Z (Functor.map f b):=SR.bndE (S:=EqR) (f:=λx=>pure (f x)) (f':=λx=>pure (f x)) h λO a _=>ak rfl
def vE{f:Y->Rw W}{c:Y->Rw W}(h:∀O a,SR Q P EqR (f a) O (c a)):∀(l:Nu Y) (Z:Ren),SR Q P EqR (l.mapM f) Z (l.mapM c):=by
 intro l;induction l with
 | nil=>intro Z;exact ak rfl
 | cons a l d=>
  intro Z;rw[UH,UH];exact .bndE (h Z a) λO b _=>.bndE (d O) λV e _=>ak rfl
def IS{f:Y->Rw W}{c:Y->Rw W}(h:∀O a,SR Q P EqR (f a) O (c a)){b:NJ Y}:SR Q P EqR (b.mapM f) Z (b.mapM c):=by
 rw[RU,RU];exact Ft (vE h b.toList Z)
def BD{i j:NA}{b:NA}{a:NO NA}(h:BR Z i j):SR Q P VR (load ⟨i,b,a⟩) Z (load ⟨j,b,a⟩):=.inr ⟨rfl,j,_,rfl,h,λv c d=>⟨c,rfl,d⟩⟩
def Fq{i j:NA}{b:NA}{a:NO NA}{v c:Ny}(h:BR Z i j)(d:VR Z v c):SR Q P (λ_ _ _=>TL) (store ⟨i,b,a⟩ v) Z (store ⟨j,b,a⟩ c):=.inr ⟨rfl,j,c,_,rfl,h,d,(),rfl,trivial⟩
def qR{o a:Obj}(h:ObR Z o a):SR Q P BR (YT o) Z (YT a):=.inr ⟨a,_,rfl,h,λj _=>⟨j,rfl,BR.new Z j⟩⟩
def kR{i j:NA}(h:BR Z i j):SR Q P (λ_=>ShR Q i) (shape i) Z (shape j):=.inr ⟨j,_,rfl,h,λx a b=>⟨a,rfl,b⟩⟩
def ec{i j:NA}(h:BR Z i j):SR Q P ObR (getObj i) Z (getObj j):=.inr ⟨j,_,rfl,h,λo a b=>⟨a,rfl,b⟩⟩
def ea{i j:NA}{o a:Obj}(h:BR Z i j)(b:ObR Z o a):SR Q P (λ_ _ _=>TL) (setObj i o) Z (setObj j a):=.inr ⟨j,a,_,rfl,h,b,(),rfl,trivial⟩
def eH{v a:Ny}(h:VR Z v a):SR Q P R (ZB v) Z (ZB a):=⟨a,rfl,h⟩
def aO{c:Prop}[Decidable c]{a b:Rw Y}{e d:Rw M}(g:c->SR Q P R a Z e)(f:¬ c->SR Q P R b Z d):SR Q P R (if c then a else b) Z (if c then e else d):=by
 by_cases h:c
 ·rw[if_pos h,if_pos h];exact g h
 ·rw[if_neg h,if_neg h];exact f h
end
section
variable[JunkSet]{Q P:NR}(hT:P.toTables=Q.toTables){Z:Ren}{Y M:Type}{R:Rel Y M}
include hT
theorem qy(t:NZ):P.info? t=Q.info? t:=by rw[hT]
theorem gQ(t:NZ):P.underlying t=Q.underlying t:=by unfold Program.underlying;rw[hT]
theorem bV(t:NZ):SR Q P EqR (RV t) Z (RV t):=by
 refine cz ?_;rw[qy hT];cases Q.info? t with
 | some i=>exact ak rfl
 | none=>exact au
theorem aM(t:NZ):SR Q P EqR (Rr t) Z (Rr t):=by
 refine cz ?_;rw[gQ hT];cases Q.underlying t with
 | some i=>exact ak rfl
 | none=>exact au
theorem bm(t:NZ):SR Q P EqR (UI t) Z (UI t):=.bndE (bV hT t) λO i _=>ak rfl
theorem xR(t:NZ):SR Q P EqR (isAgg t) Z (isAgg t):=.bndE (aM hT t) λO i _=>by
 cases i<;>exact ak rfl
def iz(P:NR)(t:NZ):OI :=
 match (P.info? t).bind (·.zero) with
 | some v=>Ic v
 | none=>NB
omit hT in
theorem xM{i:Sd}(h:∀v,i.zero=Nq v->iO v):SR Q P VR (match i.zero with
  | some v=>pure v
  | none=>unsupported (.resourceLimit "a value of more than 2^22 cells")) Z (match i.zero with
  | some v=>pure v
  | none=>unsupported (.resourceLimit "a value of more than 2^22 cells")):=by
 cases hz:i.zero with
 | some v=>exact ak ((h v hz).vr _)
 | none=>exact aF
theorem jI(t:NZ):SR Q P (λ_ a b=>b=a/\Q.info? t=Nq a) (RV t) Z (RV t):=by
 refine cz ?_;rw[qy hT];cases Q.info? t with
 | some i=>exact ak ⟨rfl,rfl⟩
 | none=>exact au
theorem bU{t:NZ}(h:iz Q t=NB):SR Q P VR (Tk t) Z (Tk t):=by
 refine .bnd (jI hT t) λO i c l a=>?_;obtain⟨rfl,a⟩:=a;refine xM λv b=>?_;unfold iz at h;rw[a] at h;simp only[Ud,b] at h;exact wY h
omit hT in
theorem VR.cells{v f:Ny}(h:VR Z v f):AsR Z v.cells f.cells:=by
 cases h with
 | agg j i=>exact⟨j,i⟩
 | bool b=>exact .one (.bool b)
 | int k n=>exact .one (.int k n)
 | string s=>exact .one (.string s)
 | ptrNil=>exact .one .ptrNil
 | ptr o s h=>exact .one (.ptr o s h)
 | sliceNil a b=>exact .one (.sliceNil a b)
 | slice o s a b h=>exact .one (.slice o s a b h)
 | mapNil=>exact .one .mapNil
 | map h=>exact .one (.map h)
 | func a b c d e=>exact .one (.func a b c d e)
 | nilFunc=>exact .one .nilFunc
 | iface t h=>exact .one (.iface t h)
 | nilIface=>exact .one .nilIface
 | tuple j i=>exact .one (.tuple j i)
 | meth n a c=>exact .one (.meth n a c)
 | wild _ h=>
  have e:f.cells=#[f]:=by cases f<;>first | rfl | (cases h;done)
  rw[e];exact .one (.wild _ h)
omit hT in
theorem AsR.agg{a b:NJ Ny}(h:AsR Z a b):VR Z (.agg a) (.agg b):=.agg h.1 h.2
omit hT in
theorem AsR.tuple{a b:NJ Ny}(h:AsR Z a b):VR Z (.tuple a) (.tuple b):=.tuple h.1 h.2
omit hT in
theorem addr_add(i j b n:NA)(a:NO NA):∃o s,(⟨i,b,a⟩:OX).add n=⟨i,o,s⟩/\(⟨j,b,a⟩:OX).add n=⟨j,o,s⟩:=by
 unfold Addr.add;split
 ·exact⟨b,a,rfl,rfl⟩
 ·exact⟨b+n,Ns,rfl,rfl⟩
omit hT in
theorem oH{i j:NA}{c:NA}{a:NO NA}(n:NA):∀{Z:Ren} (k:NA) (d b:NJ Ny),BR Z i j->AsR Z d b ->SR Q P AsR (Vi ⟨i,c,a⟩ k n d) Z (Vi ⟨j,c,a⟩ k n b):=by
 induction n with
 | zero=>intro Z k d b h e;exact ak e
 | succ n f=>
  intro Z k d b h e;have⟨o,s,q,p⟩:=addr_add i j c k a;show SR Q P AsR (load ((⟨i,c,a⟩:OX).add k)>>=λv=>Vi ⟨i,c,a⟩ (k+1) n (d.push v)) Z (load ((⟨j,c,a⟩:OX).add k)>>=λv=>Vi ⟨j,c,a⟩ (k+1) n (b.push v));rw[q,p];exact .bnd (BD h) λO v r l g=>f (k+1) _ _ (h.mono l) ((e.mono l).push g)
omit hT in
theorem nm{i j:NA}{b:NA}{a:NO NA}(n:NA)(h:BR Z i j):SR Q P AsR (loadCells ⟨i,b,a⟩ n) Z (loadCells ⟨j,b,a⟩ n):=oH n 0 _ _ h .nil
omit hT in
theorem dR{i j:NA}{b:NA}{a:NO NA}{d c:Nu Ny}(g:LsR (VR Z) d c):∀(k:NA),BR Z i j ->SR Q P (λ_ _ _=>TL) (Us ⟨i,b,a⟩ d k) Z (Us ⟨j,b,a⟩ c k):=by
 have n:∀(d c:Nu Ny) (Z:Ren) (k:NA),LsR (VR Z) d c->BR Z i j->SR Q P (λ_ _ _=>TL) (Us ⟨i,b,a⟩ d k) Z (Us ⟨j,b,a⟩ c k):=by
  intro d;induction d with
  | nil=>intro c Z k h e;cases h;exact ak trivial
  | cons v l q=>
   intro c Z k h e;cases h with
   | @cons _ p _ f g r=>
    have⟨o,s,u,t⟩:=addr_add i j b k a;show SR Q P _ (store ((⟨i,b,a⟩:OX).add k) v>>=λ_=>Us ⟨i,b,a⟩ l (k+1)) Z (store ((⟨j,b,a⟩:OX).add k) p>>=λ_=>Us ⟨j,b,a⟩ f (k+1));rw[u,t];exact .bnd (Fq e g) λO _ _ f _=>q _ O (k+1) (r.imp λ_ _ x=>x.mono f) (e.mono f)
 exact λk e=>n d c Z k g e
theorem qS{t:NZ}{i j:NA}{d:NA}{c:NO NA}(h:BR Z i j):SR Q P VR (XW t ⟨i,d,c⟩) Z (XW t ⟨j,d,c⟩):=by
 refine .bndE (xR hT t) λO b l=>?_;cases b with
 | true=>exact .bndE (bm hT t) λV n g=>.bnd (nm n (h.mono (l.trans g))) λU a b _ e=>ak e.agg
 | false=>exact BD (h.mono l)
theorem xN{t:NZ}{i j:NA}{b:NA}{a:NO NA}{v c:Ny}(h:BR Z i j)(d:VR Z v c) :SR Q P (λ_ _ _=>TL) (storeVar t ⟨i,b,a⟩ v) Z (storeVar t ⟨j,b,a⟩ c):=by
 refine .bndE (bm hT t) λO n l=>?_;dsimp only;rw[<- (d.mono l).cells.1];split
 ·exact bW
 ·refine xO ?_;exact dR (bP.1 (d.mono l).cells) 0 (h.mono l)
omit hT in
theorem iZ{e:NZ}{c d:NJ Ny}(h:AsR Z c d):SR Q P (λO a b=>∃i j,a=⟨i,0,Ns⟩/\b=⟨j,0,Ns⟩/\BR O i j) (YU e c) Z (YU e d) :=
 .bnd (qR (.cells e h λo k g=>absurd g (by simp))) λO i j l f=>ak ⟨i,j,rfl,rfl,f⟩
omit hT in
theorem lH{e:NZ}{v c:Ny}(h:VR Z v c):SR Q P (λO a b=>∃i j,a=⟨i,0,Ns⟩/\b=⟨j,0,Ns⟩/\BR O i j) (newVar e v) Z (newVar e c):=iZ h.cells
theorem uf(t:NZ):SR Q P EqR (elemOf t) Z (elemOf t):=.bndE (aM hT t) λO d _=>by
 cases d with
 | pointer e=>exact ak rfl
 | _=>exact au
theorem dV{t:NZ}{c e:NJ Ny}(h:AsR Z c e)(a:NA):SR Q P VR (part t c a) Z (part t e a):=by
 refine .bndE (xR hT t) λO b l=>?_;cases b with
 | true=>exact .bndE (bm hT t) λV n f=>ak (((h.mono (l.trans f)).extract _ _).agg)
 | false=>
  simp only[OJ,if_false];cases hc:c[a]? with
  | some v=>
   have⟨i,d,g⟩:=h.get hc;simp only[d];exact ak (g.mono l)
  | none=>exact au
theorem aH(p:Gl P Z)(e:RuntimeError):SR Q P R (RE e) Z (RE e):=by
 have d:P.rt=Q.rt:=by rw[hT]
 refine cz ?_;dsimp only;rw[d];have k:∀(O:Ren) (l:Le Z O) (t:NZ),VR O (Wp Q t) (Wp P t):=λO l t=>by
  unfold Wp;have:P.globals.size=Q.globals.size:=by rw[hT]
  rw[<- this];exact .ptr _ _ ((p _ (Nv _)).mono l)
 cases e with
 | bounds x y s c=>exact eH (iO.vr _ (wY rfl) |> λh=>.iface _ h)
 | error m=>exact eH (.iface _ (.string _))
 | plain m=>exact eH (.iface _ (.string _))
 | nilDeref=>exact eH (.iface _ (.string _))
 | typeAssertion i c a m=>
  refine .bndE (uf hT _) λO q l=>.bnd (lH (AsR.agg ?_)) λV x y n b=>?_
  ·have f:∀o:NO NZ,VR O (match o with | some t=>Wp Q t | none=>.pointer Ns) (match o with | some t=>Wp P t | none=>.pointer Ns):=λo=>by
    cases o with
    | none=>exact .ptrNil
    | some t=>exact k O l t
   rw[bP];exact .cons (f i) (.cons (f c) (.cons (f (Nq a)) (.cons (.string _) .nil)))
  ·obtain⟨i,j,rfl,rfl,g⟩:=b;exact eH (.iface _ (.ptr _ _ g))
 | panicNil=>
  refine .bndE (uf hT _) λO q l=>.bnd (lH (AsR.agg .nil)) λV x y n b=>?_;obtain⟨i,j,rfl,rfl,g⟩:=b;exact eH (.iface _ (.ptr _ _ g))
 | unhashable t=>exact eH (.iface _ (AsR.agg (.one (k Z (.refl Z) t))))
theorem dz(a:Gl P Z)(k:IntKind)(x y:NH)(c:XK):SR Q P R (SA k x y c) Z (SA k x y c):=by
 unfold SA;dsimp only;refine aO (λ_=>?_) λ_=>?_
 ·exact .bndE (Ft jc) λO n l=>aH hT (a.mono l) _
 ·exact(aH hT a (.bounds (IntKind.i64.wrap x) y (k != IntKind.u64) c):SR Q P R _ Z _)
omit hT in
theorem jL{v a:Ny}(h:VR Z v a):SR Q P EqR (asIntOf v) Z (asIntOf a):=by
 cases h<;>first | exact ak rfl | exact au | exact aF
omit hT in
theorem ns{v b:Ny}(h:VR Z v b):SR Q P EqR (asInt v) Z (asInt b):=.bndE (jL h) λO a _=>ak rfl
omit hT in
theorem CX{v a:Ny}(h:VR Z v a):SR Q P EqR (asBool v) Z (asBool a):=by
 cases h<;>first | exact ak rfl | exact au
omit hT in
theorem FA{v a:Ny}(h:VR Z v a):SR Q P AsR (asAgg v) Z (asAgg a):=by
 cases h with
 | agg c b=>exact ak ⟨c,b⟩
 | _=>exact au
def AdR:Rel OX OX:=λZ a b=>∃i j o s,a=⟨i,o,s⟩/\b=⟨j,o,s⟩/\BR Z i j
theorem ug(b:Gl P Z){v a:Ny}(h:VR Z v a):SR Q P AdR (Yu v) Z (Yu a):=by
 cases h with
 | ptr o s h=>exact ak ⟨_,_,o,s,rfl,rfl,h⟩
 | ptrNil=>
  show SR Q P AdR (RE .nilDeref) Z (RE .nilDeref);exact aH hT b _
 | _=>exact au
end
section
variable[JunkSet]{Q P:NR}(hT:P.toTables=Q.toTables){Z:Ren}
def fI{v a:Ny}(h:VR Z v a):SR Q P AdR (YV v) Z (YV a):=by
 cases h with
 | ptr o s h=>exact ak ⟨_,_,o,s,rfl,rfl,h⟩
 | _=>exact au
include hT
theorem CW(t:NZ){v d:Ny}(h:VR Z v d):SR Q P VR (ZC t v) Z (ZC t d) :=
 .bnd (fI h) λO a b l c=>by obtain⟨i,j,o,s,rfl,rfl,e⟩:=c;exact qS hT e
theorem zX(t:NZ){v e x d:Ny}(h:VR Z v e)(f:VR Z x d):SR Q P (λ_ _ _=>TL) (Zh t v x) Z (Zh t e d) :=
 .bnd (fI h) λO a b l c=>by obtain⟨i,j,o,s,rfl,rfl,g⟩:=c;exact xN hT g (f.mono l)
theorem FC{t:NZ}(f:iz Q t=NB):SR Q P VR (ZY t NB (.tuple #[])) Z (ZY t NB (.tuple #[])):=by
 refine .bnd (bU hT f) λO z e l c=>?_;show SR Q P VR (newVar t z>>=λa=>pure (.pointer (Nq a))) O (newVar t e>>=λa=>pure (.pointer (Nq a)));exact .bnd (lH c) λV a b l d=>by obtain⟨i,j,rfl,rfl,g⟩:=d;exact ak (.ptr _ _ g)
omit hT in
theorem KP(t:NZ){v d:Ny}(h:VR Z v d):SR Q P VR (Instr.box t v) Z (Instr.box t d) :=
 .bnd (lH h) λV a b l c=>by obtain⟨i,j,rfl,rfl,e⟩:=c;exact ak (.ptr _ _ e)
def vf(Z:Ren)(a b:NA × Ny):Prop:=b.1=a.1/\VR Z a.2 b.2
omit hT in
theorem zd(b:NA->NO (NA × NA)):∀(l n:Nu (NA × Ny)) (c j:NJ Ny),LsR (vf Z) l n->AsR Z c j ->(TS b c l=Ns/\TS b j n=Ns)\/∃r F,TS b c l=Nq r/\TS b j n=Nq F/\AsR Z r F:=by
 intro l;induction l with
 | nil=>intro n c j h s;cases h;exact .inr ⟨c,j,rfl,rfl,s⟩
 | cons x l L=>
  intro n c j h s;cases h with
  | @cons _ y _ n z O=>
   obtain⟨i,v⟩:=x;obtain⟨N,u⟩:=y;obtain⟨rfl,G⟩:=z;simp only[TS];cases hp:b N with
   | none=>exact .inl ⟨rfl,rfl⟩
   | some I=>
    obtain⟨f,q⟩:=I;dsimp only;have U:u.cells.size=v.cells.size:=G.cells.1.symm;rw[U,<- s.1];by_cases e:(decide (v.cells.size≠q) || decide (f+v.cells.size > c.size))=NB
    ·rw[if_pos e,if_pos e];exact .inl ⟨rfl,rfl⟩
    ·rw[if_neg e,if_neg e];refine L n _ _ O ?_;have D:∀(p g:Nu Ny) (k:NA) (d t:NJ Ny),LsR (VR Z) p g->AsR Z d t ->
       AsR Z ((p.zipIdx k).foldl (λo (x:Ny × NA)=>o.setIfInBounds (f+x.2) x.1) d) ((g.zipIdx k).foldl (λo (x:Ny × NA)=>o.setIfInBounds (f+x.2) x.1) t):=by
      intro p;induction p with
      | nil=>intro g k d t B C;cases B;exact C
      | cons a p w=>
       intro g k d t B C;cases B with
       | cons T A=>exact w _ (k+1) _ _ A (C.set _ T)
     have:=D v.cells.toList u.cells.toList 0 c j (bP.1 G.cells) s;have H:∀(a d:NJ Ny),a.zipIdx.foldl (λo (x:Ny × NA)=>o.setIfInBounds (f+x.2) x.1) d=(a.toList.zipIdx 0).foldl (λo (x:Ny × NA)=>o.setIfInBounds (f+x.2) x.1) d:=λa d=>by
      rw[<- Ut,Array.toList_zipIdx]
     exact(H v.cells c ▸ H u.cells j ▸ this :)
theorem Fy{t:NZ}(v:iz Q t=NB){g a:NJ (NA × Ny)}(h:LsR (vf Z) g.toList a.toList):SR Q P VR (ZZ t g) Z (ZZ t a):=by
 refine .bnd (bU hT v) λO z q l k=>.bndE (aM hT t) λV d u=>?_;have y:LsR (vf V) g.toList a.toList:=h.imp λ_ _ x=>⟨x.1,x.2.mono (l.trans u)⟩;have A:AsR V z.cells q.cells:=k.cells.mono u;have fin:∀(j:NA->NO (NA × NA)) (U:Ren) (b:String),Le V U->SR Q P VR
   (match TS j z.cells g.toList with | some cells=>pure (.agg cells) | _=>stuck b) U (match TS j q.cells a.toList with | some cells=>pure (.agg cells) | _=>stuck b):=λj U b c=>by
  rcases zd (Z:=U) j _ _ _ _ (y.imp λ_ _ x=>⟨x.1,x.2.mono c⟩) (A.mono c) with⟨p,o⟩ | ⟨r,B,p,o,w⟩
  ·rw[p,o];exact au
  ·rw[p,o];exact ak w.agg
 cases d with
 | struct C=>
  refine .bndE (IS λO f=>?_) λU i c=>fin _ U _ c;exact .bndE (bm hT _) λ_ n _=>ak rfl
 | array n e=>exact .bndE (bm hT _) λU s c=>fin _ U _ c
 | _=>exact au
end
end
section
def PVR[JunkSet]:Rel Ny Ny:=λZ a b=>VR Z a b/\a≠.tuple #[]/\∀r,a≠.chan r
section
variable[JunkSet]{Q P:NR}(hT:P.toTables=Q.toTables)
include hT
theorem fA(t:NZ):P.cellsOf t=Q.cellsOf t:=by unfold Program.cellsOf;rw[hT]
theorem im(t:NZ):P.bytesOf t=Q.bytesOf t:=by unfold Program.bytesOf;rw[hT]
theorem lB:P.depth=Q.depth:=by unfold Program.depth;rw[hT]
theorem mS:P.globals=Q.globals:=by rw[hT]
theorem iL:∀d t a,Wq P d t a=Wq Q d t a:=by
 intro d;induction d with
 | zero=>intro t a;rfl
 | succ d b=>intro t a;simp only[Wq,gQ hT,fA hT,im hT,b]
theorem tG:∀d t a,YW P d t a=YW Q d t a:=by
 intro d;induction d with
 | zero=>intro t a;rfl
 | succ d b=>intro t a;simp only[YW,gQ hT,fA hT,im hT,b]
theorem sD(d:NA)(e:NZ)(c o:NA)(b:NH):UB P d e c o b=UB Q d e c o b:=by
 simp only[UB,fA hT,im hT,iL hT,tG hT]
theorem Im:∀d t u,P.alikeButTags d t u=Q.alikeButTags d t u:=by
 intro d;induction d with
 | zero=>intro t u;rfl
 | succ d a=>intro t u;simp only[Program.alikeButTags,qy hT,a]
theorem zQ(t:NZ):P.underlyingId t=Q.underlyingId t:=by unfold Program.underlyingId;rw[hT]
theorem Fh(t:NZ):P.stoodInHeld t=Q.stoodInHeld t:=by
 unfold Program.stoodInHeld Program.stoodInAs;simp only[gQ hT,Im hT,zQ hT,qy hT,lB hT];rw[show P.cutTypes=Q.cutTypes by rw[hT]]
theorem wF:∀d t,P.eqGuardType d t=Q.eqGuardType d t:=by
 intro d;induction d with
 | zero=>intro t;rfl
 | succ d a=>intro t;simp only[Program.eqGuardType,gQ hT,a]
omit hT in
theorem Gb:Q.info? (fZ Q)=Ns:=by
 unfold fZ Tables.info?;rw[if_neg (TE _)];have e:∀(f:NA) (t:NZ),Made.infoAt Q.toTables (f+1) t=if t<Q.types.size then Q.types[t]? else(Made.decode (t - Q.types.size)).bind (Made.reckon (Made.infoAt Q.toTables f)):=λ_ _=>rfl;show Made.infoAt Q.toTables (99+1) Q.types.size=Ns;rw[e,if_neg (TE _),Nat.sub_self];rfl
omit hT in
theorem Bb:Q.cellsOf (fZ Q)=0:=by unfold Program.cellsOf;rw[Gb];rfl
variable{Z:Ren}{Y M:Type}{R:Rel Y M}
omit hT in
theorem tX{i j:NA}(h:BR Z i j):SR Q P (λ_ a b=>a=Ns/\b=Ns) (viewAt i) Z (viewAt j):=by
 refine .bnd (kR h) λO x c l d=>?_;have e:c.isSome=x.isSome:=by
  rcases d with⟨_,rfl⟩ | ⟨_,_,rfl,e,n,rfl⟩<;>rfl
 rw[e];cases x.isSome with
 | true=>exact ak ⟨rfl,rfl⟩
 | false=>
  refine .bnd (ec (h.mono l)) λV o g k f=>?_;cases f<;>exact ak ⟨rfl,rfl⟩
omit hT in
theorem xQ{i j:NA}(h:BR Z i j):SR Q P (λO a b=>(a=Ns/\b=Ns)\/∃i j o s x,a=Nq (⟨i,o,s⟩,x)/\b=Nq (⟨j,o,s⟩,x)/\BR O i j) (numberAt i) Z (numberAt j):=by
 refine .bnd (kR h) λO x c l d=>?_;have e:c.isSome=x.isSome:=by
  rcases d with⟨_,rfl⟩ | ⟨_,_,rfl,e,n,rfl⟩<;>rfl
 rw[e];cases x.isSome with
 | true=>exact ak (.inl ⟨rfl,rfl⟩)
 | false=>
  refine .bnd (ec (h.mono l)) λV o g k f=>?_;cases f with
  | number o s x h=>exact ak (.inr ⟨_,_,o,s,x,rfl,rfl,h⟩)
  | _=>exact ak (.inl ⟨rfl,rfl⟩)
omit hT in
theorem tY{i j:NA}{o e:NA}{s d:NO NA}(h:BR Z i j):SR Q P (λ_ _ _=>TL) (noView ⟨i,o,s⟩) Z (noView ⟨j,e,d⟩) :=
 .bnd (tX h) λO a b l c=>by obtain⟨rfl,rfl⟩:=c;exact ak trivial
omit hT in
theorem ed{i j:NA}{o:NA}{s:NO NA}(h:BR Z i j):SR Q P (λO a b=>∃i j o s x,a=(⟨i,o,s⟩,x)/\b=(⟨j,o,s⟩,x)/\BR O i j) (QD ⟨i,o,s⟩) Z (QD ⟨j,o,s⟩) :=
 .bnd (xQ h) λO a b l c=>by
  rcases c with⟨rfl,rfl⟩ | ⟨k,g,f,e,x,rfl,rfl,d⟩
  ·exact ak ⟨_,_,_,_,_,rfl,rfl,h.mono l⟩
  ·exact ak ⟨_,_,_,_,_,rfl,rfl,d⟩
theorem lI{i j:NA}{o:NA}{s:NO NA}(h:BR Z i j)(k:i<Q.globals.size):SR Q P EqR (Wr ⟨i,o,s⟩) Z (Wr ⟨j,o,s⟩):=by
 unfold Wr;cases s with
 | some s=>exact ak rfl
 | none=>
  dsimp only;refine cz ?_;refine .bnd (tY h) λO _ _ l _=>.bnd (kR (h.mono l)) λV x a g c=>?_;have e:a=x:=by
   rcases c with⟨_,h⟩ | ⟨_,d,_⟩
   ·exact h
   ·omega
  subst e;cases a with
  | none=>exact au
  | some f=>
   obtain⟨e,n⟩:=f;dsimp only;rw[fA hT];refine aO (λ_=>ak rfl) λ_=>?_;rw[lB hT,iL hT,im hT];cases Wq Q Q.depth e (o % Q.cellsOf e) with
   | none=>exact au
   | some b=>exact ak rfl
theorem nk{i j c e:NA}{o k:NA}{s g:NO NA}(h:BR Z i j)(n:BR Z c e)(p:Gl P Z) :SR Q P EqR (Op.twoPlaces ⟨i,o,s⟩ ⟨c,k,g⟩) Z (Op.twoPlaces ⟨j,o,s⟩ ⟨e,k,g⟩):=by
 unfold Op.twoPlaces;refine cz ?_;dsimp only;by_cases f:i<Q.globals.size
 ·have t:P.globals.size=Q.globals.size:=by rw[mS hT]
  have r:j=i:=(p i (by omega)).fn h |>.symm;by_cases d:c=i
  ·subst d;have q:e=j:=n.fn h;subst q;subst r;simp only[bne_self_eq_false,Bool.false_or,mS hT];rw[if_neg (by simpa using f)];exact .bndE (lI hT h f) λO a l=>.bndE (lI hT (n.mono l) f) λV b _=>ak rfl
  ·have:(i != c || decide (i>=Q.globals.size))=NB:=by
    simp[Ne.symm d]
   rw[if_pos this];exact de
 ·have:(i != c || decide (i>=Q.globals.size))=NB:=by
   have:i>=Q.globals.size:=by omega
   simp[this]
  rw[if_pos this];exact de
theorem Ai{i j e d:NA}{o c:NA}{s b:NO NA}(k:IntKind)(h:BR Z i j)(g:BR Z e d)(f:Gl P Z) :SR Q P VR (Op.addrSub k ⟨i,o,s⟩ ⟨e,c,b⟩) Z (Op.addrSub k ⟨j,o,s⟩ ⟨d,c,b⟩) :=
 .bndE (nk hT h g f) λO a l=>ak (.int _ _)
theorem Ak{i j f e:NA}{o d:NA}{s c:NO NA}(b:BinOp)(h:BR Z i j)(k:BR Z f e)(g:Gl P Z) :SR Q P VR (Op.addrCmp b ⟨i,o,s⟩ ⟨f,d,c⟩) Z (Op.addrCmp b ⟨j,o,s⟩ ⟨e,d,c⟩) :=
 .bndE (nk hT h k g) λO a l=>by
  obtain⟨x,y⟩:=a;cases b<;>first | exact ak (.bool _) | exact aF
omit hT in
theorem jJ{i j:NA}(h:BR Z i j)(b:¬ JunkSet.jk i):SR Q P EqR (shape i) Z (shape j) :=
 (kR h).imp λO x c _ a=>by
  rcases a with⟨_,e⟩ | ⟨h,_⟩
  ·exact e
  ·exact absurd h b
omit hT in
theorem me{i j:NA}(h:BR Z i j)(c:JunkSet.jk i):SR Q P (λ_ x a=>x=Nq (fZ Q,0)/\∃e n,a=Nq (e,n)) (shape i) Z (shape j) :=
 (kR h).imp λO x a _ b=>by
  rcases b with⟨h,_⟩ | ⟨_,_,h⟩
  ·exact absurd c h
  ·exact h
omit hT in
theorem Aa{f:Sd->Rw Y}{a:Rw M}:SR Q P R (RV (fZ Q)>>=f) Z a:=by
 refine .bad ?_;refine Bad.bind (f:=f) ?_;show Bad Q (match Q.info? (fZ Q) with
  | some i=>(pure i:Rw Sd)
  | none=>stuck "no such type")
 rw[Gb];trivial
theorem Ag{i j:NA}{o:NA}{s:NO NA}(h:BR Z i j)(a:¬ JunkSet.jk i):SR Q P EqR (Wr ⟨i,o,s⟩) Z (Wr ⟨j,o,s⟩):=by
 unfold Wr;cases s with
 | some s=>exact ak rfl
 | none=>
  dsimp only;refine cz ?_;refine .bnd (tY h) λO _ _ l _=>.bndE (jJ (h.mono l) a) λV x d=>?_;cases x with
  | none=>exact au
  | some c=>
   obtain⟨e,n⟩:=c;dsimp only;rw[fA hT];refine aO (λ_=>ak rfl) λ_=>?_;rw[lB hT,iL hT,im hT];cases Wq Q Q.depth e (o % Q.cellsOf e) with
   | none=>exact au
   | some b=>exact ak rfl
theorem Aj{i j:NA}{o:NA}{s:NO NA}(k:IntKind)(n:NH)(h:BR Z i j):SR Q P VR (Op.addrMod k ⟨i,o,s⟩ n) Z (Op.addrMod k ⟨j,o,s⟩ n):=by
 by_cases a:JunkSet.jk i
 ·refine .bnd (me h a) λO x g l d=>?_;obtain⟨rfl,e,m,rfl⟩:=d;exact Aa
 ·refine .bndE (jJ h a) λO x l=>?_;cases x with
  | none=>exact aF
  | some f=>
   obtain⟨e,m⟩:=f;refine .bndE (bV hT e) λV p c=>?_;dsimp only;refine aO (λ_=>de) λ_=>?_;exact .bndE (Ag hT (h.mono (l.trans c)) a) λU b _=>ak (.int _ _)
theorem ma{t z:NZ}{y c:NJ NZ}{v w x g:Ny}(h:VR Z v w)(C:VR Z x g) :SR Q P PVR (Qk y t #[v,x]) Z (Qk c z #[w,g]):=by
 have f:∀(p q:NO OX),VR Z (.pointer p) (.pointer q)->SR Q P PVR (Qk y t #[.pointer p,x]) Z (Qk c z #[.pointer q,g]):=by
  intro p q A;unfold Qk;dsimp only;refine .bndE (ns C) λO n l=>?_;refine aO (λ_=>?_) λ_=>?_
  ·cases A with
   | ptrNil=>exact aF
   | ptr o s h=>
    dsimp only;refine .bnd (tX (h.mono l)) λV a b k u=>?_;obtain⟨rfl,rfl⟩:=u;exact ak ⟨.ptr _ _ (h.mono (l.trans k)),by simp⟩
  ·refine aO (λ_=>de) λ_=>?_;cases A with
   | ptrNil=>exact aF
   | @ptr i j o s h=>
    dsimp only;by_cases B:JunkSet.jk i
    ·refine .bnd (me (h.mono l) B) λV x g k r=>?_;obtain⟨rfl,e,m,rfl⟩:=r;refine .bad ?_;show Bad Q (match UB Q Q.depth (fZ Q) (0 / Q.cellsOf (fZ Q)) o n with
      | some d=>(pure (.pointer (Nq ⟨i,d,s⟩)):Rw Ny)
      | none=>unsupported (.unsafePointer "Add"))
     have:UB Q Q.depth (fZ Q) (0 / Q.cellsOf (fZ Q)) o n=Ns:=by
      unfold UB;simp[Bb]
     rw[this];trivial
    ·refine .bndE (jJ (h.mono l) B) λV x k=>?_;cases x with
     | none=>exact aF
     | some D=>
      obtain⟨e,m⟩:=D;dsimp only;refine cz ?_;rw[sD hT,lB hT,fA hT];cases UB Q Q.depth e (m / Q.cellsOf e) o n with
      | none=>exact aF
      | some d=>exact ak ⟨.ptr _ _ (h.mono (l.trans k)),by simp⟩
 cases h with
 | ptrNil=>exact f _ _ .ptrNil
 | ptr o s h=>exact f _ _ (.ptr o s h)
 | _=>exact au
theorem vD{t e:NZ}{d a:NJ NZ}{v c x b:Ny}(h:VR Z v c)(f:VR Z x b) :SR Q P VR (Qk d t #[v,x]) Z (Qk a e #[c,b]):=(ma hT h f).imp λ_ _ _ _ h=>h.1
theorem dw{t:NZ}{v g x f:Ny}(h:VR Z v g)(G:VR Z x f):SR Q P VR (VQ t v x) Z (VQ t g f):=by
 have p:∀O,Le Z O->SR Q P VR (do
   let .pointer (Nq n):=v | Qk #[] t #[v,x]
   let (a,c) <- QD n
   match <- Qk #[] t #[.pointer (Nq a),x] with
    | .pointer (Nq b)=>asNumber b c
    | v=>pure v) O (do
   let .pointer (Nq n):=g | Qk #[] t #[g,f]
   let (a,c) <- QD n
   match <- Qk #[] t #[.pointer (Nq a),f] with
    | .pointer (Nq b)=>asNumber b c
    | v=>pure v):=by
  intro O l;have q:=G.mono l;have e:SR Q P VR (Qk #[] t #[v,x]) O (Qk #[] t #[g,f]):=vD hT (h.mono l) q;cases h with
  | ptr o s h=>
   dsimp only;refine .bnd (ed (h.mono l)) λV a b F z=>?_;obtain⟨S,N,B,A,c,rfl,rfl,H⟩:=z;dsimp only;refine .bnd (ma hT (.ptr B A H) (q.mono F)) λU y D L r=>?_;obtain⟨C,u⟩:=r;have k:SR Q P VR (pure y) U (pure D):=ak C;cases C with
   | ptr B A I=>exact .bnd (qR (.number _ _ _ I)) λX i j _ w=>ak (.ptr _ _ w)
   | wild _ _=>exact absurd rfl (u.2 _)
   | _=>exact k
  | _=>exact e
 unfold VQ;refine .bndE (aM hT t) λO d l=>?_;cases d<;>first | exact p O l | exact aF
def vL(Q:NR)(t:NZ):OI :=
 match Q.underlying t with
 | some .unsafePointer=>NC
 | _=>NB
theorem bh(t:NZ):SR Q P (λ_ a b=>b=a/\Q.underlying t=Nq a) (Rr t) Z (Rr t):=by
 refine cz ?_;rw[gQ hT];cases Q.underlying t with
 | some i=>exact ak ⟨rfl,rfl⟩
 | none=>exact au
def tt:BinOp->OI
 | .eql | .neq=>NB
 | _=>NC
theorem FB{c:BinOp}(f:tt c=NC){t:NZ}(X:vL Q t=NB){v v' x x':Ny}(h:VR Z v v')(N:VR Z x x')(W:Gl P Z) :SR Q P VR (binOp c t v x) Z (binOp c t v' x'):=by
 have L:∀(k:IntKind) (a:NH) (D:IntKind) (b:NH),SR Q P VR (binOp c t (.int k a) (.int D b)) Z (binOp c t (.int k a) (.int D b)):=by
  intro k a D b;have T:∀c,SR Q P VR (Op.intDiv c k a b) Z (Op.intDiv c k a b):=λc=>by
   unfold Op.intDiv;refine aO (λ_=>aH hT W _) λ_=>?_;cases c<;>first | exact ak (.int _ _) | exact au
  have q:∀c,SR Q P VR (Op.shift c k a D b) Z (Op.shift c k a D b):=λc=>by
   unfold Op.shift;refine aO (λ_=>aH hT W _) λ_=>?_;dsimp only;cases c<;>first | exact ak (.int _ _) | exact au
  cases c<;>first
   | exact q .shl
   | exact q .shr
   | (refine aO (λ_=>au) λ_=>?_;first | exact T .quo | exact T .rem | exact ak (.int _ _) | exact ak (.bool _))
   | exact absurd f (by decide)
 have r:c=.add->∀(p U:NO OX) (k:IntKind) (b:NH),VR Z (.pointer p) (.pointer U)->SR Q P VR (binOp .add t (.pointer p) (.int k b)) Z (binOp .add t (.pointer U) (.int k b)):=by
  intro _ p U k b hp;refine .bnd (bh hT t) λO d d' l hd=>?_;obtain⟨rfl,hd⟩:=hd;have:SR Q P VR (VQ t (.pointer p) (.int k b)) O (VQ t (.pointer U) (.int k b)):=dw hT (hp.mono l) (.int k b);unfold vL at X;rw[hd] at X;cases d'<;>first | exact this | cases X
 have z:∀(y:BinOp) {i j G F o s B A},BR Z i j->BR Z G F->SR Q P VR (do Op.addrCmp y (<- QD ⟨i,o,s⟩).1 (<- QD ⟨G,B,A⟩).1) Z (do Op.addrCmp y (<- QD ⟨j,o,s⟩).1 (<- QD ⟨F,B,A⟩).1):=by
  intro y i j G F o s B A S h2;refine .bnd (ed S) λO a b l e=>?_;obtain⟨_,_,_,_,_,rfl,rfl,u⟩:=e;refine .bnd (ed (h2.mono l)) λV a b I e=>?_;obtain⟨_,_,_,_,_,rfl,rfl,H⟩:=e;exact Ak hT y (u.mono I) H (W.mono (l.trans I))
 have sub:∀{i j G F o s B A},BR Z i j->BR Z G F->SR Q P VR (do Op.addrSub .u64 (<- QD ⟨i,o,s⟩).1 (<- QD ⟨G,B,A⟩).1) Z (do Op.addrSub .u64 (<- QD ⟨j,o,s⟩).1 (<- QD ⟨F,B,A⟩).1):=by
  intro i j G F o s B A S h2;refine .bnd (ed S) λO a b l e=>?_;obtain⟨_,_,_,_,_,rfl,rfl,u⟩:=e;refine .bnd (ed (h2.mono l)) λV a b I e=>?_;obtain⟨_,_,_,_,_,rfl,rfl,H⟩:=e;exact Ai hT .u64 (u.mono I) H (W.mono (l.trans I))
 have C:∀{i j o s} (k:IntKind) (n:NH),BR Z i j->SR Q P VR (do Op.addrMod k (<- QD ⟨i,o,s⟩).1 n) Z (do Op.addrMod k (<- QD ⟨j,o,s⟩).1 n):=by
  intro i j o s k n S;refine .bnd (ed S) λO a b l e=>?_;obtain⟨_,_,_,_,_,rfl,rfl,u⟩:=e;exact Aj hT k n u
 cases h with
 | int k a=>
  cases N with
  | int D b=>exact L k a D b
  | ptr o s g=>cases c<;>first | exact dw hT (.ptr o s g) (.int k a) | exact C k (a+1) g | exact aF | exact absurd f (by decide)
  | ptrNil=>cases c<;>first | exact dw hT .ptrNil (.int k a) | exact aF | exact absurd f (by decide)
  | _=>cases c<;>first | exact au | exact absurd f (by decide)
 | string a=>
  cases N with
  | string b=>
   cases c<;>first
    | exact ak (.bool _)
    | exact au
    | (refine aO (λ_=>aF) λ_=>?_;exact ak (.string _))
    | exact absurd f (by decide)
  | ptr o s g=>cases c<;>first | exact aF | exact au | exact absurd f (by decide)
  | ptrNil=>cases c<;>first | exact aF | exact au | exact absurd f (by decide)
  | _=>cases c<;>first | exact au | exact absurd f (by decide)
 | ptr o s g=>
  cases N with
  | int k b=>cases c<;>first | exact r rfl _ _ k b (.ptr o s g) | exact dw hT (.ptr o s g) (.int k (-b)) | exact C k b g | exact C k (b+1) g | exact aF | exact absurd f (by decide)
  | ptr B A w=>cases c<;>first | exact sub g w | exact z .lss g w | exact z .leq g w | exact z .gtr g w | exact z .geq g w | exact aF | exact absurd f (by decide)
  | ptrNil=>cases c<;>first | exact aF | exact absurd f (by decide)
  | _=>cases c<;>first | exact aF | exact au | exact absurd f (by decide)
 | ptrNil=>
  cases N with
  | int k b=>cases c<;>first | exact r rfl _ _ k b .ptrNil | exact dw hT .ptrNil (.int k (-b)) | exact aF | exact absurd f (by decide)
  | _=>cases c<;>first | exact aF | exact au | exact absurd f (by decide)
 | _=>
  cases N with
  | ptr o s g=>cases c<;>first | exact aF | exact au | exact absurd f (by decide)
  | ptrNil=>cases c<;>first | exact aF | exact au | exact absurd f (by decide)
  | _=>cases c<;>first | exact au | exact absurd f (by decide)
end
end
section
def BL(Q:NR)(t:NZ):OI :=
 match Q.info? t with
 | some i=>match i.desc with | .named n _=>n != "sync.copyChecker" | _=>NB
 | none=>NB
def eqB(Q:NR):NA->NZ->OI
 | 0,_=>NC
 | n+1,t=>
  match Q.underlying t with
  | some .bool | some .string | some (.slice _) | some (.map ..) | some (.func ..)=>NB
  | some (.int _)=>BL Q t
  | some (.struct a)=>a.all λf=>f.name == "_" || eqB Q n f.type
  | some (.array _ e)=>eqB Q n e
  | _=>NC
def cX{Q:NR}{v:Ny}(e:v=.tuple #[]\/∃r,v=.chan r)(d:NA){t:NZ}(f:∀a b,Q.underlying t≠Nq (.chan a b))(x:Ny):Bad Q (Op.equalIn d t v x):=by
 cases d with
 | zero=>exact rfl
 | succ d=>
  unfold Op.equalIn;show Bad Q ((match Q.underlying t with | some i=>(pure i:Rw Vm) | none=>stuck "no such type").bind _);cases hu:Q.underlying t with
  | none=>exact rfl
  | some c=>
   rcases e with rfl | ⟨r,rfl⟩
   ·cases c<;>cases x<;>first | exact rfl | (rename_i p;cases p<;>exact rfl)
   ·cases c<;>first | exact absurd hu (f _ _) | (cases x<;>first | exact rfl | (rename_i p;cases p<;>exact rfl))
def cW{Q:NR}{v:Ny}(e:v=.tuple #[]\/∃r,v=.chan r)(d:NA){t:NZ}(f:∀a b,Q.underlying t≠Nq (.chan a b))(x:Ny):Bad Q (Op.equalIn d t x v):=by
 cases d with
 | zero=>exact rfl
 | succ d=>
  unfold Op.equalIn;show Bad Q ((match Q.underlying t with | some i=>(pure i:Rw Vm) | none=>stuck "no such type").bind _);cases hu:Q.underlying t with
  | none=>exact rfl
  | some c=>
   rcases e with rfl | ⟨r,rfl⟩
   ·cases c<;>cases x<;>first | exact rfl | (rename_i p;cases p<;>exact rfl) | (rename_i p _;cases p<;>exact rfl) | (rename_i p _ _;cases p<;>exact rfl)
   ·cases c<;>first | exact absurd hu (f _ _) | (cases x<;>first | exact rfl | (rename_i p;cases p<;>exact rfl) | (rename_i p _;cases p<;>exact rfl) | (rename_i p _ _;cases p<;>exact rfl))
def eO{Q:NR}{n:NA}{t:NZ}(h:eqB Q n t=NB):∀a b,Q.underlying t≠Nq (.chan a b):=by
 intro a b e;cases n with
 | zero=>cases h
 | succ n=>
  unfold eqB at h;rw[e] at h;cases h
section
variable[JunkSet]{Q P:NR}(hT:P.toTables=Q.toTables){Z:Ren}{Y M W:Type}{R:Rel Y M}
def cF{σT:Type}{K:Ren->Prop}(g:∀Z O,Le Z O->K Z->K O){f c:Y->σT->Rw (ForInStep σT)}(l:Nu Y)(h:∀a∈l,∀Z b,K Z->SR Q P EqR (f a b) Z (c a b)):∀(Z:Ren) (b:σT),K Z->SR Q P EqR (forIn l b f) Z (forIn l b c):=by
 induction l with
 | nil=>intro Z b _;exact ak rfl
 | cons a l d=>
  intro Z b k;rw[YO,YO];refine .bndE (h a (VI ..) Z b k) λO s lσ=>?_;cases s with
  | done b=>exact ak rfl
  | yield b=>exact d (λa e=>h a (Vn _ e)) O b (g _ _ lσ k)
include hT
theorem mG:∀(n d:NA) {Z:Ren} {t:NZ} {x x' y y':Ny},eqB Q n t=NB->VR Z x x'->VR Z y y'->Gl P Z ->SR Q P EqR (Op.equalIn d t x y) Z (Op.equalIn d t x' y'):=by
 intro n;induction n with
 | zero=>intro d Z t x x' y y' h;cases h
 | succ n ih=>
  intro d Z t x x' y y' h z g hG;cases d with
  | zero=>exact aF
  | succ d=>
   unfold Op.equalIn;refine .bnd (bh hT t) λO ty b9 l v=>?_;obtain⟨rfl,v⟩:=v;replace z:=z.mono l;replace g:=g.mono l;replace hG:=hG.mono l;unfold eqB at h;rw[v] at h;cases b9 with
   | bool=>cases z<;>first | exact au | (cases g<;>first | exact au | exact ak rfl)
   | string=>cases z<;>first | exact au | (cases g<;>first | exact au | exact ak rfl)
   | slice e=>cases z<;>first | exact au | (cases g<;>first | exact au | exact ak rfl)
   | map k e=>cases z<;>first | exact au | (cases g<;>first | exact au | exact ak rfl)
   | func a b c=>cases z<;>first | exact au | (cases g<;>first | exact au | exact ak rfl)
   | int k=>
    have c3:∀{i j i' j' o s o' s'},BR O i j->BR O i' j'->SR Q P EqR (do
      let (a,b):=((<- QD ⟨i,o,s⟩).1,(<- QD ⟨i',o',s'⟩).1)
      if a.block == b.block && a.block<(<- program).globals.size then return (<- Wr a) == (<- Wr b)
      let .named "sync.copyChecker" _:=(<- RV t).desc | unsupported .addressObserved
      if a == b then pure NB else unsupported .addressObserved) O (do
      let (a,b):=((<- QD ⟨j,o,s⟩).1,(<- QD ⟨j',o',s'⟩).1)
      if a.block == b.block && a.block<(<- program).globals.size then return (<- Wr a) == (<- Wr b)
      let .named "sync.copyChecker" _:=(<- RV t).desc | unsupported .addressObserved
      if a == b then pure NB else unsupported .addressObserved):=by
     intro i j i' j' o s o' s' h1 h2;refine .bnd (ed h1) λO a b l D=>?_;obtain⟨_,_,_,_,_,rfl,rfl,T⟩:=D;refine .bnd (ed (h2.mono l)) λV a b I D=>?_;obtain⟨_,_,_,_,_,rfl,rfl,C⟩:=D;dsimp only;refine cz ?_
     rename_i L j1 o1 s1 x1 i2 j2 o2 s2 x2
     have hP:P.globals.size=Q.globals.size:=by rw[mS hT]
     by_cases hc:(L == i2 && decide (L<Q.globals.size))=NB
     ·rw[if_pos hc];simp only[Of,beq_iff_eq,decide_eq_true_eq] at hc;obtain⟨rfl,A⟩:=hc;have e:j2=j1:=C.fn (T.mono I);subst e;have e1:j2=L:=(((hG.mono l).mono I) L (by omega)).fn C |>.symm;rw[if_pos (by simp[e1,hP,A])];exact .bndE (lI hT (T.mono I) A) λU a w=>.bndE (lI hT (C.mono w) A) λX b _=>ak rfl
     ·rw[if_neg hc];refine .bad ?_;show Bad Q ((RV t).bind _);have B:∃F,Q.info? t=Nq F:=by
       unfold Program.underlying at v;cases S:Q.info? t with
       | none=>rw[S] at v;cases v
       | some F=>exact⟨F,rfl⟩
      obtain⟨F,N⟩:=B;unfold BL at h;simp only[N] at h;show Bad Q ((match Q.info? t with
       | some i=>(pure i:Rw Sd)
       | none=>stuck "no such type").bind _)
      rw[N];show Bad Q (match F.desc with
       | .named "sync.copyChecker" _=>if((⟨L,o1,s1⟩:OX) == ⟨i2,o2,s2⟩)=NB then pure NB else unsupported .addressObserved
       | _=>unsupported .addressObserved)
      split
      ·rename_i u hd
       rw[hd] at h;simp at h
      ·trivial
    cases z with
    | int k1 a=>
     cases g with
     | int k2 b=>exact aO (λ_=>ak rfl) λ_=>au
     | ptr o s hb=>
      cases a with
      | ofNat m=>cases m with
       | zero=>exact ak rfl
       | succ m=>exact aF
      | negSucc m=>exact aF
     | ptrNil=>exact aF
     | _=>exact au
    | ptr o s hb=>
     cases g with
     | int k2 b=>
      cases b with
      | ofNat m=>cases m with
       | zero=>exact ak rfl
       | succ m=>exact aF
      | negSucc m=>exact aF
     | ptr o' s' d8=>exact c3 hb d8
     | ptrNil=>exact aF
     | _=>exact aF
    | ptrNil=>cases g<;>exact aF
    | _=>cases g<;>first | exact au | exact aF
   | struct fs=>
    cases z with
    | agg h1 h2=>
     cases g with
     | agg h3 h4=>
      dsimp only;refine cz ?_;rw[Fh hT];refine aO (λ_=>de) λ_=>?_;rw[<- SN,<- SN];dsimp only at h;rw[PL] at h;refine .bndE (cF (K:=λX=>Le O X) (λ_ _ l k=>k.trans l) _ (λf hf U b w=>?_) O _ (.refl O)) λU r w=>?_
      ·refine aO (λd6=>?_) λ_=>ak rfl;have d7:eqB Q n f.type=NB:=by
        have:=h f (QC.1 hf);simp only[QI,beq_iff_eq] at this;exact this.resolve_left d6
       exact .bnd (dV hT (AsR.mono w ⟨h1,h2⟩) _) λω1 p p' H hp=>.bnd (dV hT (AsR.mono (w.trans H) ⟨h3,h4⟩) _) λω2 q q' G S=>
        .bndE (ih d d7 (hp.mono G) S (hG.mono ((w.trans H).trans G))) λω3 r _=>aO (λ_=>ak rfl) λ_=>ak rfl
      ·obtain⟨r,u⟩:=r;cases r<;>exact ak rfl
     | _=>exact au
    | _=>exact au
   | array h9 e=>
    cases z with
    | agg h1 h2=>
     cases g with
     | agg h3 h4=>
      dsimp only;refine .bndE (bm hT e) λV n I=>?_;rw[Qf,Qf];refine .bndE (cF (K:=λX=>Le O X) (λ_ _ l k=>k.trans l) _ (λf hf U b w=>?_) V _ I) λU r w=>?_
      ·exact .bnd (dV hT (AsR.mono w ⟨h1,h2⟩) _) λω1 p p' H hp=>.bnd (dV hT (AsR.mono (w.trans H) ⟨h3,h4⟩) _) λω2 q q' G S=>
        .bndE (ih d h (hp.mono G) S (hG.mono ((w.trans H).trans G))) λω3 r _=>aO (λ_=>ak rfl) λ_=>ak rfl
      ·obtain⟨r,u⟩:=r;cases r<;>exact ak rfl
     | _=>exact au
    | _=>exact au
   | _=>cases h
theorem qU:∀(n d:NA) {Z:Ren} {t:NZ} {x j y i:Ny},eqB Q n t=NB->VR Z x j->VR Z y i ->SR Q P EqR (Op.eqGuardIn d t x y) Z (Op.eqGuardIn d t j i):=by
 intro n;induction n with
 | zero=>intro d Z t x j y i h;cases h
 | succ n L=>
  intro d Z t x j y i h s o;cases d with
  | zero=>exact aF
  | succ d=>
   unfold Op.eqGuardIn;refine .bnd (bh hT t) λO ty v l c=>?_;obtain⟨rfl,c⟩:=c;replace s:=s.mono l;replace o:=o.mono l;unfold eqB at h;rw[c] at h;cases v with
   | struct fs=>
    cases s with
    | agg I H=>
     cases o with
     | agg G F=>
      dsimp only;rw[<- SN,<- SN];dsimp only at h;rw[PL] at h;refine .bndE (cF (K:=λX=>Le O X) (λ_ _ l k=>k.trans l) _ (λf N U b a=>?_) O _ (.refl O)) λU r a=>?_
      ·refine aO (λC=>?_) λ_=>ak rfl;have D:eqB Q n f.type=NB:=by
        have:=h f (QC.1 N);simp only[QI,beq_iff_eq] at this;exact this.resolve_left C
       exact .bnd (dV hT (AsR.mono a ⟨I,H⟩) _) λω1 p T z B=>.bnd (dV hT (AsR.mono (a.trans z) ⟨G,F⟩) _) λω2 q S w A=>
        .bndE (L d D (B.mono w) A) λω3 r _=>aO (λ_=>ak rfl) λ_=>ak rfl
      ·obtain⟨r,u⟩:=r;cases r<;>exact ak rfl
     | wild _ g=>cases i<;>first | exact ak rfl | cases g
     | _=>exact ak rfl
    | wild _ g=>cases j<;>first | exact ak rfl | cases g
    | _=>exact ak rfl
   | array a6 e=>
    cases s with
    | agg I H=>
     cases o with
     | agg G F=>
      dsimp only;refine .bndE (bm hT e) λV n l'=>?_;rw[Qf,Qf];refine .bndE (cF (K:=λX=>Le O X) (λ_ _ l k=>k.trans l) _ (λf N U b a=>?_) V _ l') λU r a=>?_
      ·exact .bnd (dV hT (AsR.mono a ⟨I,H⟩) _) λω1 p T z B=>.bnd (dV hT (AsR.mono (a.trans z) ⟨G,F⟩) _) λω2 q S w A=>
        .bndE (L d h (B.mono w) A) λω3 r _=>aO (λ_=>ak rfl) λ_=>ak rfl
      ·obtain⟨r,u⟩:=r;cases r<;>exact ak rfl
     | wild _ g=>cases i<;>first | exact ak rfl | cases g
     | _=>exact ak rfl
    | wild _ g=>cases j<;>first | exact ak rfl | cases g
    | _=>exact ak rfl
   | interface ms=>cases h
   | _=>cases s<;>first | exact ak rfl | (cases o<;>exact ak rfl)
def ia:OQ->OI
 | .const .nilIface=>NB
 | _=>NC
def Eh(Q:NR)(t:NZ)(x y:OQ):OI:=eqB Q 6 t || (ia x || ia y) && (match Q.underlying t with | some (.interface _)=>NB | _=>NC)
theorem KL{f:BinOp}(j:tt f=NB){t:NZ}(a:eqB Q 6 t=NB){v d x c:Ny}(h:VR Z v d)(g:VR Z x c)(i:Gl P Z) :SR Q P VR (binOp f t v x) Z (binOp f t d c):=by
 have e:SR Q P VR (do pure (.bool (<- Op.equal t v x))) Z (do pure (.bool (<- Op.equal t d c))):=.bndE (mG hT 6 _ a h g i) λO b _=>ak (.bool _);have n:SR Q P VR (do pure (.bool (!(<- Op.equal t v x)))) Z (do pure (.bool (!(<- Op.equal t d c)))):=.bndE (mG hT 6 _ a h g i) λO b _=>ak (.bool _);cases f<;>first | exact absurd j (by decide) | skip
 ·cases h<;>first | exact e | exact .bad (Bad.bind (cX (.inl rfl) _ (eO a) _) _) | exact .bad (Bad.bind (cX (.inr ⟨_,rfl⟩) _ (eO a) _) _) | (cases g<;>first | exact e | exact .bad (Bad.bind (cW (.inl rfl) _ (eO a) _) _) | exact .bad (Bad.bind (cW (.inr ⟨_,rfl⟩) _ (eO a) _) _) | exact ak (.bool _) | exact aO (λ_=>au) λ_=>ak (.bool _))
 ·cases h<;>first | exact n | exact .bad (Bad.bind (cX (.inl rfl) _ (eO a) _) _) | exact .bad (Bad.bind (cX (.inr ⟨_,rfl⟩) _ (eO a) _) _) | (cases g<;>first | exact n | exact .bad (Bad.bind (cW (.inl rfl) _ (eO a) _) _) | exact .bad (Bad.bind (cW (.inr ⟨_,rfl⟩) _ (eO a) _) _) | exact ak (.bool _) | exact aO (λ_=>au) λ_=>ak (.bool _))
end
end
section
section
variable[JunkSet]{Q P:NR}(hT:P.toTables=Q.toTables){Z:Ren}{Y M W:Type}{R:Rel Y M}
include hT
theorem Fw{o:BinOp}(u:tt o=NB){t:NZ}(s:∃q,Q.underlying t=Nq (.interface q)){v i x g:Ny}(h:VR Z v i)(f:VR Z x g)(p:v=.nilIface\/x=.nilIface) :SR Q P VR (binOp o t v x) Z (binOp o t i g):=by
 obtain⟨q,k⟩:=s;have c:∀a b,Q.underlying t≠Nq (.chan a b):=λa b e=>by rw[k] at e;cases e
 have j:SR Q P EqR (Op.equal t v x) Z (Op.equal t i g):=by
  refine .bnd (bh hT t) λO w r l d=>?_;obtain⟨rfl,d⟩:=d;rw[k] at d;cases d;rcases p with rfl | rfl
  ·cases h;cases f<;>first | exact ak rfl | exact au
  ·cases f;cases h<;>first | exact ak rfl | exact au
 have e:SR Q P VR (do pure (.bool (<- Op.equal t v x))) Z (do pure (.bool (<- Op.equal t i g))):=.bndE j λO b _=>ak (.bool _);have n:SR Q P VR (do pure (.bool (!(<- Op.equal t v x)))) Z (do pure (.bool (!(<- Op.equal t i g)))):=.bndE j λO b _=>ak (.bool _);cases o<;>first | exact absurd u (by decide) | skip
 ·rcases p with rfl | rfl
  ·cases h;cases f<;>first | exact e | exact .bad (Bad.bind (cW (.inl rfl) _ c _) _) | exact .bad (Bad.bind (cW (.inr ⟨_,rfl⟩) _ c _) _)
  ·cases f;cases h<;>first | exact e | exact .bad (Bad.bind (cX (.inl rfl) _ c _) _) | exact .bad (Bad.bind (cX (.inr ⟨_,rfl⟩) _ c _) _)
 ·rcases p with rfl | rfl
  ·cases h;cases f<;>first | exact n | exact .bad (Bad.bind (cW (.inl rfl) _ c _) _) | exact .bad (Bad.bind (cW (.inr ⟨_,rfl⟩) _ c _) _)
  ·cases f;cases h<;>first | exact n | exact .bad (Bad.bind (cX (.inl rfl) _ c _) _) | exact .bad (Bad.bind (cX (.inr ⟨_,rfl⟩) _ c _) _)
theorem qW{d:BinOp}{t:NZ}{x y:OQ}(c:tt d=NB->Eh Q t x y=NB){v f u g:Ny}(h:VR Z v f)(l:VR Z u g)(o:ia x=NB->v=.nilIface)(n:ia y=NB->u=.nilIface)(k:tt d=NB->∀w,(w=v\/w=u)->w≠.chan Ns) :SR Q P (λ_ _ _=>TL) (eqGuard d t x y v u) Z (eqGuard d t x y f g):=by
 have core:tt d=NB->SR Q P (λ_ _ _=>TL) (eqGuard .eql t x y v u) Z (eqGuard .eql t x y f g):=by
  intro j;have c:=c j;have i:=k j v (.inl rfl);have e:=k j u (.inr rfl);unfold Eh at c;simp only[QI,Of] at c;cases h with
  | wild _ _=>exact absurd rfl i
  | nilIface=>
   cases l with
   | nilIface=>
    refine aO (λh=>absurd h (by decide)) λ_=>?_;refine aO (λ_=>ak trivial) λp=>?_;rcases c with c | ⟨a,_⟩
    ·refine .bndE (qU hT 6 _ c .nilIface .nilIface) λO b _=>?_;exact aO (λ_=>aF) λ_=>ak trivial
    ·exfalso;apply p;rcases a with a | a
     ·cases x<;>first | rfl | (exact absurd a (by simp[ia]))
     ·cases y<;>first | exact absurd a Bool.false_ne_true | (simp;done)
   | wild _ _=>exact absurd rfl e
   | _=>exact ak trivial
  | agg z s=>
   cases l with
   | agg r q=>
    refine aO (λh=>absurd h (by decide)) λ_=>?_;refine cz (cz ?_);rw[wF hT,lB hT];refine aO (λ_=>ak trivial) λ_=>?_;rcases c with c | ⟨a,_⟩
    ·refine .bndE (qU hT 6 _ c (.agg z s) (.agg r q)) λO b _=>?_;exact aO (λ_=>aF) λ_=>ak trivial
    ·rcases a with a | a
     ·have:=o a;cases this
     ·have:=n a;cases this
   | wild _ _=>exact absurd rfl e
   | _=>exact ak trivial
  | _=>exact ak trivial
 cases d<;>first | exact core rfl | exact ak trivial
theorem JX{c:BinOp}(e:tt c=NB){t:NZ}(d:∀a b,Q.underlying t≠Nq (.chan a b)){x y:OQ}{v u:Ny}(h:v=.chan Ns\/u=.chan Ns):Bad Q (do eqGuard c t x y v u;binOp c t v u):=by
 rcases h with rfl | rfl
 ·cases c<;>first | (cases e;done) | exact Bad.bind (cX (.inr ⟨_,rfl⟩) _ d _) _
 ·cases c<;>first | (cases e;done) | (cases v<;>exact Bad.bind (cW (.inr ⟨_,rfl⟩) _ d _) _)
omit hT in
theorem Ae{v b:Ny}(h:VR Z v b)(i:NA):SR Q P VR (Xy v i) Z (Xy b i):=by
 cases h with
 | @tuple a j g f=>
  have e:AsR Z a j:=⟨g,f⟩;unfold Xy;dsimp only;cases hc:a[i]? with
  | none=>exact au
  | some x=>
   have⟨y,c,d⟩:=e.get hc;rw[c];exact ak d
 | _=>exact au
theorem Fv(t:NZ){v b:Ny}(h:VR Z v b)(i:NA):SR Q P VR (qr t v i) Z (qr t b i):=by
 refine .bndE (aM hT t) λO d l=>?_;cases d with
 | struct e=>
  dsimp only;cases e[i]? with
  | none=>exact au
  | some f=>exact .bnd (FA (h.mono l)) λV a j g c=>dV hT c _
 | _=>exact au
theorem Fu(r:Gl P Z)(t:NZ){v c x b:Ny}(h:VR Z v c)(q:VR Z x b):SR Q P VR (UC t v x) Z (UC t c b):=by
 refine .bndE (jL q) λO p l=>?_;obtain⟨k,i⟩:=p;refine .bndE (aM hT t) λV d f=>?_;have g:=h.mono (l.trans f);have a:=r.mono (l.trans f);cases d with
 | array o e=>
  cases g with
  | agg w u=>
   dsimp only;refine aO (λ_=>?_) λ_=>dz hT a _ _ _ _;exact .bndE (bm hT e) λU n j=>dV hT (AsR.mono j ⟨w,u⟩) _
  | _=>exact au
 | string=>
  cases g with
  | string s=>
   dsimp only;split
   ·exact ak (.int _ _)
   ·exact dz hT a _ _ _ _
  | _=>exact au
 | _=>exact au
theorem oG(t:NZ){v a:Ny}(h:VR Z v a):SR Q P VR (Xo t v) Z (Xo t a):=by
 refine .bndE (aM hT t) λO d l=>?_;cases d<;>first | exact ak (.iface t (h.mono l)) | exact au
theorem Fo{a:UnOp}{v b:Ny}(h:VR Z v b):SR Q P VR (Op.unary a v) Z (Op.unary a b):=by
 cases h<;>cases a<;>first | exact au | exact aF | exact ak (.int _ _) | exact ak (.bool _)
theorem sU(w:Gl P Z){t a:NZ}(r:iz Q a=NB)(c:OI){v n:Ny}(h:VR Z v n):SR Q P VR (RY v t a c) Z (RY n t a c):=by
 have f:∀{O:Ren} {u i:Ny},VR O u i->SR Q P VR (pure (if c then .tuple #[u,.bool NB] else u):Rw Ny) O (pure (if c then .tuple #[i,.bool NB] else i)):=by
  intro O u i p;cases c with
  | true=>exact ak (AsR.tuple (bP.2 (.cons p (.cons (.bool _) .nil))))
  | false=>exact ak p
 have b:∀{O:Ren} (s d:NO NZ) (m:String),Le Z O->SR Q P VR (if c then do pure (.tuple #[<- Tk a,.bool NC]) else RE (.typeAssertion s d a m):Rw Ny) O (if c then do pure (.tuple #[<- Tk a,.bool NC]) else RE (.typeAssertion s d a m)):=by
  intro O s d m l;cases c with
  | true=>exact .bnd (bU hT r) λV z x _ j=>ak (AsR.tuple (bP.2 (.cons j (.cons (.bool _) .nil))))
  | false=>exact aH hT (w.mono l) (.typeAssertion s d a m)
 unfold RY;dsimp only;refine .bndE (aM hT a) λO d l=>?_;have q:=h.mono l;cases d with
 | interface A=>
  cases q with
  | nilIface=>exact b Ns Ns "" l
  | iface g k=>
   dsimp only;refine .bndE (bV hT g) λV y o=>?_;split
   ·exact f (.iface g (k.mono o))
   ·exact b Ns (Nq g) _ (l.trans o)
  | _=>exact au
 | _=>
  cases q with
  | nilIface=>exact b (Nq t) Ns "" l
  | iface g k=>
   dsimp only;by_cases e:g=a
   ·rw[if_pos e,if_pos e];exact f k
   ·rw[if_neg e,if_neg e];exact b (Nq t) (Nq g) "" l
  | _=>exact au
def FE(Q:NR)(t:NZ):OI :=
 match Q.info? t with
 | some i=>i.size != 0
 | none=>NB
theorem zZ{t:NZ}(h:FE Q t=NB):SR Q P (λ_ a b=>b=a/\a≠0) (UI t) Z (UI t):=by
 refine .bnd (jI hT t) λO i d l c=>?_;obtain⟨rfl,c⟩:=c;refine ak ⟨rfl,?_⟩;unfold FE at h;rw[c] at h;simpa using h
def wI(Q:NR)(s:NZ)(f:NA):OI :=
 match Q.underlying s with
 | some (.struct a)=>match a[f]? with | some f=>FE Q f.type | none=>NB
 | _=>NB
theorem Ad{s:NZ}{f:NA}(c:wI Q s f=NB){v x:Ny}(h:VR Z v x):SR Q P VR (Zi s v f) Z (Zi s x f):=by
 refine .bnd (bh hT s) λO d D l r=>?_;obtain⟨rfl,r⟩:=r;unfold wI at c;rw[r] at c;cases D with
 | struct A=>
  dsimp only at c ⊢;cases hfs:A[f]? with
  | none=>exact au
  | some w=>
   rw[hfs] at c;dsimp only at c ⊢;refine .bnd (fI (h.mono l)) λV a b N u=>?_;obtain⟨i,j,o,g,rfl,rfl,z⟩:=u;show SR Q P VR (fieldPlace ⟨i,o,g⟩ w>>=λp=>pure (.pointer (Nq p))) V (fieldPlace ⟨j,o,g⟩ w>>=λp=>pure (.pointer (Nq p)));refine .bnd (R:=AdR) ?_ λU p q _ k=>by obtain⟨T,S,I,G,rfl,rfl,t⟩:=k;exact ak (.ptr _ _ t)
   refine .bnd (zZ hT c) λU n L y e=>?_;obtain⟨rfl,e⟩:=e;rw[if_neg e,if_neg e];have⟨H,F,C,B⟩:=addr_add i j o w.offset g;rw[C,B];exact ak ⟨_,_,_,_,rfl,rfl,z.mono y⟩
 | _=>exact au
theorem Ac(I:Gl P Z)(t:NZ){v A x z:Ny}(h:VR Z v A)(H:VR Z x z):SR Q P VR (Xz t v x) Z (Xz t A z):=by
 unfold Xz;refine .bndE (jL H) λO G l=>?_;obtain⟨k,i⟩:=G;dsimp only;refine .bndE (aM hT t) λV d B=>?_;have F:=h.mono (l.trans B);have r:=I.mono (l.trans B);have fin:∀(U:Ren) (b p:NO OX) (f:NA) (e:NZ) (g:OI),Le V U->VR U (.pointer b) (.pointer p) ->
   SR Q P VR (match b with
    | some a=>if 0<=i/\i<f then do pure (.pointer (Nq (a.add (i.toNat*(<- UI e))))) else if g then unsupported (.noEntry "op/indexAddr.an index out of range at an array of length 0 or 1 (ledger 616)") else SA k i f .index
    | none=>SA k i 0 .index) U (match p with
    | some a=>if 0<=i/\i<f then do pure (.pointer (Nq (a.add (i.toNat*(<- UI e))))) else if g then unsupported (.noEntry "op/indexAddr.an index out of range at an array of length 0 or 1 (ledger 616)") else SA k i f .index
    | none=>SA k i 0 .index):=by
  intro U b p f e g q j;cases j with
  | ptrNil=>exact dz hT (r.mono q) _ _ _ _
  | @ptr D C o s j=>
   dsimp only;refine aO (λ_=>?_) λ_=>aO (λ_=>aF) λ_=>dz hT (r.mono q) _ _ _ _;refine .bndE (bm hT e) λX n u=>?_;have⟨T,S,N,L⟩:=addr_add D C o (i.toNat*n) s;rw[N,L];exact ak (.ptr _ _ (j.mono u))
 have y:∀(U:Ren) (b p:NO OX) (f:NA) (e:NZ),Le V U->VR U (.pointer b) (.pointer p)->SR Q P VR (do
    let g:=f<=1 && (match <- Rr t with | .array ..=>NB | _=>NC)
    match b with
    | some a=>if 0<=i/\i<f then do pure (.pointer (Nq (a.add (i.toNat*(<- UI e))))) else if g then unsupported (.noEntry "op/indexAddr.an index out of range at an array of length 0 or 1 (ledger 616)") else SA k i f .index
    | none=>SA k i 0 .index) U (do
    let g:=f<=1 && (match <- Rr t with | .array ..=>NB | _=>NC)
    match p with
    | some a=>if 0<=i/\i<f then do pure (.pointer (Nq (a.add (i.toNat*(<- UI e))))) else if g then unsupported (.noEntry "op/indexAddr.an index out of range at an array of length 0 or 1 (ledger 616)") else SA k i f .index
    | none=>SA k i 0 .index):=λU b p f e q j=>
   .bndE (aM hT t) λX d u=>fin X b p f e _ (q.trans u) (j.mono u)
 cases d with
 | array f e=>
  refine .bnd (fI F) λU a b q w=>?_;obtain⟨D,C,o,s,rfl,rfl,j⟩:=w;exact y U _ _ f e q (.ptr o s j)
 | slice e=>
  cases F with
  | sliceNil n c=>exact y V Ns Ns n e (.refl _) .ptrNil
  | slice o s n c j=>exact y V _ _ n e (.refl _) (.ptr o s j)
  | _=>exact bW
 | _=>exact bW
theorem fC(d:Gl P Z){x a:Ny}(h:VR Z x a)(y:NA)(c:XK):SR Q P EqR (Rn x y c) Z (Rn a y c):=by
 refine .bndE (jL h) λO b l=>?_;obtain⟨k,i⟩:=b;exact aO (λ_=>ak rfl) λ_=>dz hT (d.mono l) _ _ _ _
def mZ(Z:Ren)(a b:NO Ny):Prop:=(a=Ns/\b=Ns)\/∃x y,a=Nq x/\b=Nq y/\VR Z x y
theorem dv(r:Gl P Z)(b:OI)(g n:NA){q f u k o d:NO Ny}(C:mZ Z q f)(B:mZ Z u k)(s:mZ Z o d) :SR Q P EqR (VS b g n q u o) Z (VS b g n f k d):=by
 have j:∀(O:Ren) (m h:NA) (c:XK),Le Z O->SR Q P EqR (do
   let l <- match q with
    | some v=>Rn v h c
    | none=>pure 0
   pure (l,h,m)) O (do
   let l <- match f with
    | some v=>Rn v h c
    | none=>pure 0
   pure (l,h,m)):=by
  intro O m h c l;rcases C with⟨rfl,rfl⟩ | ⟨x,y,rfl,rfl,e⟩
  ·exact ak rfl
  ·exact .bndE (fC hT (r.mono l) (e.mono l) _ _) λV a _=>ak rfl
 have i:∀(O:Ren) (m:NA) (A z w:XK),Le Z O->SR Q P EqR (do
   let h <- match u,o with
    | some v,Nq _=>Rn v m A
    | some v,Ns=>Rn v m z
    | none,Ns=>pure g
    | none,Nq _=>stuck "Slice: max without high"
   let l <- match q with
    | some v=>Rn v h w
    | none=>pure 0
   pure (l,h,m)) O (do
   let h <- match k,d with
    | some v,Nq _=>Rn v m A
    | some v,Ns=>Rn v m z
    | none,Ns=>pure g
    | none,Nq _=>stuck "Slice: max without high"
   let l <- match f with
    | some v=>Rn v h w
    | none=>pure 0
   pure (l,h,m)):=by
  intro O m A z w l;rcases s with⟨rfl,rfl⟩ | ⟨x,y,rfl,rfl,e⟩
  ·rcases B with⟨rfl,rfl⟩ | ⟨x,y,rfl,rfl,e⟩
   ·exact j O _ _ _ l
   ·exact .bndE (fC hT (r.mono l) (e.mono l) _ _) λU a t=>j U _ _ _ (l.trans t)
  ·rcases B with⟨rfl,rfl⟩ | ⟨x,y,rfl,rfl,e⟩
   ·exact bW
   ·exact .bndE (fC hT (r.mono l) (e.mono l) _ _) λU a t=>j U _ _ _ (l.trans t)
 have D:d.isSome=o.isSome:=by rcases s with⟨rfl,rfl⟩ | ⟨x,y,rfl,rfl,_⟩<;>rfl
 unfold VS;rw[D];rcases h3':o with _ | x
 ·have p:d=Ns:=by rcases s with⟨_,rfl⟩ | ⟨x,y,rfl,rfl,_⟩<;>first | rfl | cases h3'
  subst h3';subst p;exact i Z n _ _ _ (.refl Z)
 ·obtain⟨y,p,e⟩:∃y,d=Nq y/\VR Z x y:=by
   rcases s with⟨rfl,_⟩ | ⟨F,y,rfl,p,e⟩
   ·cases h3'
   ·cases h3';exact⟨y,p,e⟩
  subst h3';subst p;exact .bndE (fC hT r e _ _) λV a l=>i V a _ _ _ l
theorem Fs(A:Gl P Z)(t:NZ){v v':Ny}(h:VR Z v v'){lo q hi u I i:NO Ny}(H:mZ Z lo q)(G:mZ Z hi u)(F:mZ Z I i) :SR Q P VR (WY t v lo hi I) Z (WY t v' q u i):=by
 have f:∀{O:Ren} {a b:NO Ny},Le Z O->mZ Z a b->mZ O a b:=λl h=>h.imp id λ⟨x,y,j,B,hv⟩=>⟨x,y,j,B,hv.mono l⟩;refine .bndE (aM hT t) λO d l=>?_;have h':=h.mono l;cases d with
 | string=>
  cases h' with
  | string s=>
   dsimp only;have e:i.isSome=I.isSome:=by rcases F with⟨rfl,rfl⟩ | ⟨x,y,rfl,rfl,_⟩<;>rfl
   rw[e];refine aO (λ_=>bW) λ_=>?_;exact .bndE (dv hT (A.mono l) NC _ _ (f l H) (f l G) (.inl ⟨rfl,rfl⟩)) λV r p=>ak (.string _)
  | _=>exact au
 | slice e=>
  cases h' with
  | sliceNil n c=>
   refine .bndE (dv hT (A.mono l) NB _ _ (f l H) (f l G) (f l F)) λV r p=>?_;obtain⟨a,b,C⟩:=r;refine .bndE (bm hT e) λU z _=>?_;have j:(if C=a then(Ns:NO OX) else Option.map (λ(x:OX)=>x.add (a*z)) Ns)=Ns:=by split<;>rfl
   rw[j];exact ak (.sliceNil _ _)
  | @slice N L o s n c w=>
   refine .bndE (dv hT (A.mono l) NB _ _ (f l H) (f l G) (f l F)) λV r p=>?_;obtain⟨a,b,C⟩:=r;refine .bndE (bm hT e) λU z k=>?_;have⟨o1,s1,j,B⟩:=addr_add N L o (a*z) s;by_cases g:C=a
   ·rw[if_pos g,if_pos g];exact ak (.slice _ _ _ _ (w.mono (p.trans k)))
   ·rw[if_neg g,if_neg g];simp only[Pp,j,B];exact ak (.slice _ _ _ _ (w.mono (p.trans k)))
  | _=>exact au
 | pointer a7=>
  refine .bnd (ug hT (A.mono l) h') λV a b p S=>?_;obtain⟨N,L,o,s,rfl,rfl,w⟩:=S;refine .bndE (aM hT a7) λU d k=>?_;cases d with
  | array n e=>
   dsimp only;have D:=(l.trans p).trans k;refine .bndE (dv hT (A.mono D) NC _ _ (f D H) (f D G) (f D F)) λX r l3=>?_;obtain⟨a,b,C⟩:=r;refine .bndE (bm hT e) λT z l4=>?_;dsimp only;have⟨o1,s1,j,B⟩:=addr_add N L o (a*z) s;by_cases g:C=a
   ·rw[if_pos g,if_pos g];exact ak (.slice _ _ _ _ (w.mono ((k.trans l3).trans l4)))
   ·rw[if_neg g,if_neg g,j,B];exact ak (.slice _ _ _ _ (w.mono ((k.trans l3).trans l4)))
  | _=>exact au
 | _=>exact au
theorem zY(I:Gl P Z)(t:NZ){v q:Ny}(h:VR Z v q){w i A j u g:NO Ny}(S:mZ Z w i)(N:mZ Z A j)(L:mZ Z u g) :SR Q P VR (Zj t v w A u) Z (Zj t q i j g):=by
 have c:∀{O:Ren} {a b:NO Ny},Le Z O->mZ Z a b->mZ O a b:=λl h=>h.imp id λ⟨x,y,D,C,hv⟩=>⟨x,y,D,C,hv.mono l⟩;refine .bndE (aM hT t) λO d l=>?_;have U:=h.mono l;have f:SR Q P VR (WY t v w A u) O (WY t q i j g):=Fs hT (I.mono l) t U (c l S) (c l N) (c l L);cases d with
 | array n e=>
  refine .bnd (fI U) λV a b l' B=>?_;obtain⟨i1,j1,o,s,rfl,rfl,H⟩:=B;have k:=l.trans l';refine .bndE (dv hT (I.mono k) NC _ _ (c k S) (c k N) (c k L)) λX r G=>?_;obtain⟨a,b,c'⟩:=r;refine .bndE (bm hT e) λT z F=>?_;have⟨o1,s1,D,C⟩:=addr_add i1 j1 o (a*z) s;by_cases p:c'=a
  ·rw[if_pos p,if_pos p];exact ak (.slice _ _ _ _ (H.mono (G.trans F)))
  ·rw[if_neg p,if_neg p,D,C];exact ak (.slice _ _ _ _ (H.mono (G.trans F)))
 | _=>exact f
end
end
section
section
variable[JunkSet]{Q P:NR}(hT:P.toTables=Q.toTables){Z:Ren}{Y M W:Type}{R:Rel Y M}
def qT{v a:Ny}(h:VR Z v a):SR Q P EqR (VX v) Z (VX a):=by
 cases h<;>first | exact ak rfl | exact au
def cw(a n:NA){v e:Ny}(h:VR Z v e):SR Q P AsR (Uu a n v) Z (Uu a n e):=by
 cases h with
 | sliceNil=>exact ak .nil
 | slice o s _ _ d=>exact nm _ d
 | string s=>
  refine ak ⟨rfl,λi x y c f=>?_⟩;rw[c] at f;cases f;rw[Uv] at c;cases d:(s.extract 0 n).data[i]? with
  | none=>rw[d] at c;cases c
  | some b=>rw[d] at c;cases c;exact .int _ _
 | _=>exact au
def AsR.getBang{a b:NJ Ny}(h:AsR Z a b)(i:NA):VR Z a[i]! b[i]!:=by
 rw[Ws,Ws];exact h.getD i (.bool _)
def iM{n:NA}{f g:NA->Ny}(h:∀i,VR Z (f i) (g i)):AsR Z ((Se n).map f) ((Se n).map g):=by
 refine⟨by simp,λi x y a b=>?_⟩;simp only[Uv] at a b;cases hr:(Se n)[i]? with
 | none=>rw[hr] at a;cases a
 | some k=>rw[hr] at a b;cases a;cases b;exact h k
def AsR.zeroCells{z a:NJ Ny}(h:AsR Z z a)(n:NA):AsR Z (Qu z n) (Qu a n):=by
 unfold Qu;rw[<- h.1];exact iM λi=>h.getBang _
def mH(n:NA):SR Q P (λ_ _ _=>TL) (askRoom n) Z (askRoom n):=by
 unfold askRoom;refine aO (λ_=>?_) λ_=>ak trivial;exact .inr ⟨rfl,_,rfl,(),rfl,trivial⟩
def NP(Q:NR){Y:Type}:Rw Y->Prop
 | .pure _=>TL
 | .load _ _ k=>∀v,NP Q (k v)
 | .store _ _ _ k=>NP Q k
 | .new o k=>cI o=NC/\∀r,NP Q (k r)
 | .shape _ k=>∀x,NP Q (k x)
 | .freeze _ _ k=>NP Q k
 | .frozen _ k=>∀b,NP Q (k b)
 | .getObj _ k=>∀o,NP Q (k o)
 | .setObj _ o k=>cI o=NC/\NP Q k
 | .choose _ k=>∀n,NP Q (k n)
 | .sys _ k=>∀r,NP Q (k r)
 | .program k=>NP Q (k Q)
 | .mark _ k=>NP Q k
 | .halt h=>odd h=NC
def NP.bind{s:Rw Y}{f:Y->Rw W}(h:NP Q s)(d:∀a,NP Q (f a)):NP Q (s>>=f):=by
 show NP Q (s.bind f);induction s with
 | pure a=>exact d a
 | load m a k b=>exact λv=>b v (h v)
 | store m a v k b=>exact b h
 | new o k b=>exact⟨h.1,λv=>b v (h.2 v)⟩
 | shape r k b=>exact λv=>b v (h v)
 | freeze a n k b=>exact b h
 | frozen a k b=>exact λv=>b v (h v)
 | getObj r k b=>exact λv=>b v (h v)
 | setObj r o k b=>exact⟨h.1,b h.2⟩
 | choose q k b=>exact λv=>b v (h v)
 | sys c k b=>exact λv=>b v (h v)
 | program k b=>exact b Q h
 | mark m k b=>exact b h
 | halt x=>exact h
def Bad.of_np{s:Rw Y}{f:Y->Rw W}(h:NP Q s)(d:∀a,Bad Q (f a)):Bad Q (s>>=f):=by
 show Bad Q (s.bind f);induction s with
 | pure a=>exact d a
 | load m a k b=>exact λv=>b v (h v)
 | store m a v k b=>exact b h
 | new o k b=>exact⟨h.1,λv=>b v (h.2 v)⟩
 | shape r k b=>exact λv=>b v (h v)
 | freeze a n k b=>exact b h
 | frozen a k b=>exact λv=>b v (h v)
 | getObj r k b=>exact λv=>b v (h v)
 | setObj r o k b=>exact⟨h.1,b h.2⟩
 | choose q k b=>exact λv=>b v (h v)
 | sys c k b=>exact λv=>b v (h v)
 | program k b=>exact b Q h
 | mark m k b=>exact b h
 | halt x=>exact h
theorem np_holds(a:OX)(c:NA):NP Q (XL a c):=λx=>by
 cases x with
 | none=>trivial
 | some p=>trivial
def pE(c e n:NA)(base:NO OX)(x:Ny):NP Q (Yv c e n base x):=by
 have d:∀b:OI,NP Q (if(!b)=NB then(pure NB:Rw OI) else match x with
   | .slice (Nq b) _ _=>do pure (!(<- XL b (n*c)) || base.any (·.block == b.block))
   | _=>pure NC):=λb=>by
  split
  ·trivial
  ·split
   ·exact NP.bind (np_holds _ _) λ_=>trivial
   ·trivial
 unfold Yv;cases base with
 | none=>exact d NB
 | some a=>exact NP.bind (np_holds _ _) λp=>NP.bind (s:=frozen _) (λb=>trivial) λq=>d _
def xT{v a:Ny}(h:VR Z v a):(∃b d n c,v=.slice b n c/\a=.slice d n c/\VR Z (.pointer b) (.pointer d))\/∀b n c,v≠.slice b n c:=by
 cases h with
 | sliceNil n c=>exact .inl ⟨Ns,Ns,n,c,rfl,rfl,.ptrNil⟩
 | slice o s n c e=>exact .inl ⟨_,_,n,c,rfl,rfl,.ptr o s e⟩
 | _=>exact .inr λb n c=>by simp
def VR.slice_of{b d:NO OX}(a:VR Z (.pointer b) (.pointer d))(n c:NA):VR Z (.slice b n c) (.slice d n c):=by
 cases a with
 | ptrNil=>exact .sliceNil n c
 | ptr o s a=>exact .slice o s n c a
def Lz(Q:NR)(a:NJ NZ):OI :=
 (match a[0]? with
  | some c=>match Q.underlying c with | some (.slice e)=>iz Q e | _=>NB
  | none=>NB) &&
 (match a[1]? with
  | some b=>match Q.underlying b with | some (.int _)=>NC | _=>NB
  | none=>NB)
include hT in
theorem CY(hG:Gl P Z){L:NJ NZ}{t:NZ}{a a':NJ Ny}(h:AsR Z a a')(hB:Lz Q L=NB) :SR Q P VR (Rj L t a) Z (Rj L t a'):=by
 unfold Lz at hB;simp only[Of] at hB;obtain⟨p,v⟩:=hB;unfold Rj;cases ht0:L[0]? with
 | none=>exact au
 | some st=>
  rw[ht0] at p;cases h0:a[0]? with
  | none=>exact au
  | some s0=>
   have⟨k0,e0,hs⟩:=h.get h0;cases h1:a[1]? with
   | none=>exact au
   | some x=>
    have⟨x',S,I⟩:=h.get h1;rw[e0,S];dsimp only;refine .bnd (bh hT st) λO d d' l hd=>?_;obtain⟨rfl,hd⟩:=hd;dsimp only at p;rw[hd] at p;cases d' with
    | slice e=>
     dsimp only at p ⊢;rcases xT (hs.mono l) with⟨b,b',g,w,rfl,rfl,hb⟩ | d6
     ·dsimp only;refine .bndE (bm hT e) λV f l1=>?_;cases ht1:L[1]? with
      | none=>
       dsimp only;simp only[OJ,if_false,TT,if_true,false_or,pure_bind];have LL:=l.trans l1;have LB:=l1;refine .bndE (qT (I.mono LL)) λU n N=>?_;have H:=LL.trans N;have u:=hb.mono (LB.trans N);refine aO (λ_=>?_) λ_=>?_
       ·refine .bnd (cw f n (I.mono H)) λX c c' q D=>?_;have F:=u.mono q;cases F with
        | ptrNil=>exact ak (.sliceNil _ _)
        | @ptr i j o s r=>
         dsimp only;have⟨o1,s1,S,e2⟩:=addr_add i j o (g*f) s;rw[S,e2];exact .bnd (dR (bP.1 D) 0 r) λT _ _ y _=>ak (.slice _ _ _ _ (r.mono y))
       ·refine .bndE (bV hT e) λX ti q=>?_;refine aO (λ_=>?_) λ_=>?_
        ·exact .bnd (R:=λ_ _ _=>RI) (aH hT (hG.mono (H.trans q)) _) λ_ _ _ _ hf=>hf.elim
        ·refine .bndE (bV hT e) λω2 b0 y=>?_;refine aO (λ_=>?_) λ_=>?_
         ·exact .bad (Bad.bind (Bad.of_np (pE _ _ _ _ _) λb=>by cases b<;>trivial) _)
         ·refine .bndE jc λω3 nc l4=>?_;refine .bndE (bV hT e) λω4 a9 l5=>?_;refine .bnd (mH _) λω5 _ _ l6 _=>?_;have L6:=((((q.trans y).trans l4).trans l5).trans l6);refine .bnd (cw f g ((u.mono L6).slice_of g w)) λω6 c c' l7 D=>?_;refine .bnd (cw f n (I.mono ((H.trans L6).trans l7))) λω7 d d' l8 C=>?_;refine .bnd (bU hT p) λω8 z z' l9 hz=>?_;refine .bnd (iZ ((((D.mono l8).append C).mono l9).append (hz.cells.zeroCells _))) λω9 a b c9 G=>?_;obtain⟨i,j,rfl,rfl,A⟩:=G;exact ak (.slice _ _ _ _ A)
      | some xt=>
       rw[ht1] at v;dsimp only at v ⊢;refine .bnd (bh hT xt) λU dx e5 q B=>?_;obtain⟨rfl,B⟩:=B;rw[B] at v;cases e5 with
       | int k=>cases v
       | _=>
        simp only[OJ,if_false,TT,if_true,false_or,pure_bind];have LL:=(l.trans l1).trans q;have LB:=l1.trans q;refine .bndE (qT (I.mono LL)) λU n N=>?_;have H:=LL.trans N;have u:=hb.mono (LB.trans N);refine aO (λ_=>?_) λ_=>?_
        ·refine .bnd (cw f n (I.mono H)) λX c c' q D=>?_;have F:=u.mono q;cases F with
         | ptrNil=>exact ak (.sliceNil _ _)
         | @ptr i j o s r=>
          dsimp only;have⟨o1,s1,S,e2⟩:=addr_add i j o (g*f) s;rw[S,e2];exact .bnd (dR (bP.1 D) 0 r) λT _ _ y _=>ak (.slice _ _ _ _ (r.mono y))
        ·refine .bndE (bV hT e) λX ti q=>?_;refine aO (λ_=>?_) λ_=>?_
         ·exact .bnd (R:=λ_ _ _=>RI) (aH hT (hG.mono (H.trans q)) _) λ_ _ _ _ hf=>hf.elim
         ·refine .bndE (bV hT e) λω2 b0 y=>?_;refine aO (λ_=>?_) λ_=>?_
          ·exact .bad (Bad.bind (Bad.of_np (pE _ _ _ _ _) λb=>by cases b<;>trivial) _)
          ·refine .bndE jc λω3 nc l4=>?_;refine .bndE (bV hT e) λω4 a9 l5=>?_;refine .bnd (mH _) λω5 _ _ l6 _=>?_;have L6:=((((q.trans y).trans l4).trans l5).trans l6);refine .bnd (cw f g ((u.mono L6).slice_of g w)) λω6 c c' l7 D=>?_;refine .bnd (cw f n (I.mono ((H.trans L6).trans l7))) λω7 d d' l8 C=>?_;refine .bnd (bU hT p) λω8 z z' l9 hz=>?_;refine .bnd (iZ ((((D.mono l8).append C).mono l9).append (hz.cells.zeroCells _))) λω9 a b c9 G=>?_;obtain⟨i,j,rfl,rfl,A⟩:=G;exact ak (.slice _ _ _ _ A)
     ·split
      ·exact absurd rfl (d6 _ _ _)
      ·exact au
    | _=>exact au
end
end
section
def Gv(Q:NR)(a:NJ NZ):OI:=match a[0]? with | some t=>(match Q.underlying t with | some (.chan _ _)=>NC | _=>NB) | none=>NB
section
variable[JunkSet]{Q P:NR}(hT:P.toTables=Q.toTables){Z:Ren}{Y M W:Type}{R:Rel Y M}
include hT
theorem IT{g:NJ NZ}{t:NZ}{a z:NJ Ny}(h:AsR Z a z):SR Q P VR (VY g t a) Z (VY g t z):=by
 unfold VY;cases ht0:g[0]? with
 | none=>exact au
 | some G=>
  cases h0:a[0]? with
  | none=>exact au
  | some d=>
   have⟨I,F,A⟩:=h.get h0;cases h1:a[1]? with
   | none=>exact au
   | some x=>
    have⟨H,D,v⟩:=h.get h1;rw[F,D];dsimp only;refine .bndE (aM hT G) λO u l=>?_;cases u with
    | slice e=>
     dsimp only;rcases xT (A.mono l) with⟨b,N,w,y,rfl,rfl,C⟩ | i
     ·dsimp only;refine .bndE (qT (v.mono l)) λV n r=>.bndE (bm hT e) λU f q=>?_;refine .bnd (cw f _ (v.mono ((l.trans r).trans q))) λX c L p B=>?_;have k:=C.mono ((r.trans q).trans p);cases k with
      | ptrNil=>exact ak (.int _ _)
      | ptr o s j=>exact .bnd (dR (bP.1 B) 0 j) λT _ _ p _=>ak (.int _ _)
     ·split
      ·exact absurd rfl (i _ _ _)
      ·exact au
    | _=>exact au
theorem KJ{i:NJ NZ}{t:NZ}{a r:NJ Ny}(g:Gv Q i=NB)(h:AsR Z a r):SR Q P VR (XX i t a) Z (XX i t r):=by
 unfold XX;cases ht0:i[0]? with
 | none=>exact au
 | some B=>
  cases h0:a[0]? with
  | none=>exact au
  | some d=>
   have⟨F,A,x⟩:=h.get h0;rw[A];dsimp only;refine .bnd (bh hT B) λO u s l j=>?_;obtain⟨rfl,j⟩:=j;have f:=x.mono l;cases s with
   | array n e=>exact ak (.int _ _)
   | pointer q=>
    refine .bndE (aM hT q) λV u l=>?_;cases u with
    | array n e=>exact ak (.int _ _)
    | _=>exact au
   | string=>cases f<;>first | exact au | exact ak (.int _ _)
   | slice e=>cases f<;>first | exact au | exact ak (.int _ _)
   | map k e=>
    cases f with
    | mapNil=>exact ak (.int _ _)
    | map y=>
     refine .bnd (ec y) λV o C D v=>?_;cases v with
     | @map z p c w=>
      dsimp only;have:z.size=p.size:=w.length;rw[this];exact ak (.int _ _)
     | _=>exact au
    | _=>exact au
   | chan a b=>
    unfold Gv at g;rw[ht0] at g;dsimp only at g;rw[j] at g;cases g
   | _=>exact au
theorem KN{f:NJ NZ}{t:NZ}{a k:NJ Ny}(c:Gv Q f=NB)(h:AsR Z a k):SR Q P VR (XY f t a) Z (XY f t k):=by
 unfold XY;cases ht0:f[0]? with
 | none=>exact au
 | some r=>
  cases h0:a[0]? with
  | none=>exact au
  | some d=>
   have⟨s,q,p⟩:=h.get h0;rw[q];dsimp only;refine .bnd (bh hT r) λO u o l g=>?_;obtain⟨rfl,g⟩:=g;have i:=p.mono l;cases o with
   | array n e=>exact ak (.int _ _)
   | pointer j=>
    refine .bndE (aM hT j) λV u l=>?_;cases u with
    | array n e=>exact ak (.int _ _)
    | _=>exact au
   | slice e=>cases i<;>first | exact au | exact ak (.int _ _)
   | chan a b=>
    unfold Gv at c;rw[ht0] at c;dsimp only at c;rw[g] at c;cases c
   | _=>exact au
omit hT in
theorem IQ{v c x b:Ny}(h:VR Z v c)(a:VR Z x b):SR Q P VR (XZ v x) Z (XZ c b):=by
 cases h with
 | int k n=>cases a<;>first | exact ak (.int _ _) | exact au | exact aF
 | string s=>
  cases a with
  | string u=>exact(ak (VR.string _):SR Q P VR (pure (Value.string _)) Z (pure (Value.string _)))
  | _=>first | exact au | exact aF
 | ptr o s d=>exact aF
 | _=>cases a<;>first | exact au | exact aF
omit hT in
theorem IR{v c x b:Ny}(h:VR Z v c)(a:VR Z x b):SR Q P VR (ZD v x) Z (ZD c b):=by
 cases h with
 | int k n=>cases a<;>first | exact ak (.int _ _) | exact au | exact aF
 | string s=>
  cases a with
  | string u=>exact(ak (VR.string _):SR Q P VR (pure (Value.string _)) Z (pure (Value.string _)))
  | _=>first | exact au | exact aF
 | ptr o s d=>exact aF
 | _=>cases a<;>first | exact au | exact aF
omit hT in
theorem xS{f g:Ny->Ny->Rw Ny}(o:∀{O:Ren} {v b x d:Ny},VR O v b->VR O x d->SR Q P VR (f v x) O (g b d)):∀{l c:Nu Ny} {Z:Ren} {v b:Ny},LsR (VR Z) l c->VR Z v b ->SR Q P VR (l.foldlM f v) Z (c.foldlM g b):=by
 intro l;induction l with
 | nil=>intro c Z v b h e;cases h;exact ak e
 | cons a l i=>
  intro c Z v b h e;cases h with
  | cons p n=>
   rw[Yw,Yw];exact .bnd (o e p) λO x d lσ j=>i (n.imp λ_ _ k=>k.mono lσ) j
omit hT in
theorem KG{e:NJ NZ}{t:NZ}{a d:NJ Ny}(h:AsR Z a d):SR Q P VR (VD e t a) Z (VD e t d):=by
 have c:=bP.1 h;unfold VD;generalize a.toList=l at c ⊢;generalize d.toList=l' at c ⊢;cases c with
 | nil=>exact au
 | cons b f=>exact xS (λh b=>IQ h b) f b
omit hT in
theorem KH{e:NJ NZ}{t:NZ}{a d:NJ Ny}(h:AsR Z a d):SR Q P VR (Yg e t a) Z (Yg e t d):=by
 have c:=bP.1 h;unfold Yg;generalize a.toList=l at c ⊢;generalize d.toList=l' at c ⊢;cases c with
 | nil=>exact au
 | cons b f=>exact xS (λh b=>IR h b) f b
def ly(Q:NR)(t:NZ):OI:=match Q.underlying t with | some (.slice e)=>iz Q e | _=>NB
theorem Fx{g:NJ NZ}{t:NZ}{a v:NJ Ny}(h:AsR Z a v)(f:(match g[0]? with | some st=>ly Q st | none=>NB)=NB):SR Q P VR (UJ g t a) Z (UJ g t v):=by
 unfold UJ;cases ht0:g[0]? with
 | none=>exact au
 | some C=>
  rw[ht0] at f;cases h0:a[0]? with
  | none=>exact au
  | some d=>
   have⟨H,B,y⟩:=h.get h0;rw[B];dsimp only at f ⊢;refine .bnd (bh hT C) λO u b l q=>?_;obtain⟨rfl,q⟩:=q;unfold ly at f;rw[q] at f;have r:=y.mono l;have fin:∀U,SR Q P VR (pure (.tuple #[]):Rw Ny) U (pure (.tuple #[])):=λU=>ak (AsR.tuple .nil);cases r with
   | mapNil=>cases b<;>exact fin _
   | sliceNil n c=>cases b<;>exact fin _
   | @map i j k=>
    have A:SR Q P VR (do
      let .map _ clock <- getObj i | stuck "clear: map expected"
      setObj i (.map #[] clock)
      pure (.tuple #[])) O (do
      let .map _ clock <- getObj j | stuck "clear: map expected"
      setObj j (.map #[] clock)
      pure (.tuple #[])):=by
     refine .bnd (ec k) λV o F p x=>?_;cases x with
     | map c G=>exact .bnd (ea (k.mono p) (.map c .nil)) λU _ _ _ _=>fin U
     | _=>exact au
    cases b<;>exact A
   | slice o s n c k=>
    cases n with
    | zero=>cases b<;>exact fin _
    | succ n=>
     cases b with
     | slice e=>
      refine .bnd (bU hT f) λV z D p w=>?_;exact .bnd (dR (bP.1 (w.cells.zeroCells _)) 0 (k.mono p)) λU _ _ _ _=>fin U
     | _=>exact au
   | _=>cases b<;>exact au
theorem vF(hG:Gl P Z){t:NZ}(p:ly Q t=NB){v A x y:Ny}(h:VR Z v A)(S:VR Z x y):SR Q P VR (Vv t v x) Z (Vv t A y):=by
 refine .bnd (bh hT t) λO d d' l s=>?_;obtain⟨rfl,s⟩:=s;unfold ly at p;rw[s] at p;cases d' with
 | slice e=>
  dsimp only at p ⊢;refine .bndE (ns (h.mono l)) λV G D=>.bndE (ns (S.mono (l.trans D))) λU a8 I=>?_;refine .bndE (bV hT e) λX ti H=>?_;have L:=((l.trans D).trans I).trans H;have HG:=hG.mono L;have c:∀(O:Ren) (m:String) {f F:PUnit->Rw Ny},Le X O->SR Q P VR ((RE (.error m):Rw PUnit)>>=f) O ((RE (.error m):Rw PUnit)>>=F):=λO m f F lσ=>.bnd (R:=λ_ _ _=>RI) (aH hT (HG.mono lσ) _) λ_ _ _ _ T=>T.elim;have g:∀(O:Ren) (n:NA) {z k:NJ Ny} (q w:NA),AsR O z k->SR Q P VR (do
    let a <- YU e ((Se n).map λx=>z[x % z.size]!)
    pure (.slice (Nq a) q w)) O (do
    let a <- YU e ((Se n).map λx=>k[x % k.size]!)
    pure (.slice (Nq a) q w)):=λO n z k q w o=>by
   refine .bnd (iZ (by rw[<- o.1];exact iM λi=>o.getBang _)) λω9 a b N u=>?_;obtain⟨i,j,rfl,rfl,r⟩:=u;exact ak (.slice _ _ _ _ r)
  refine aO (λ_=>?_) λ_=>?_
  ·refine aO (λ_=>c X _ (.refl X)) λ_=>aO (λ_=>c X _ (.refl X)) λ_=>?_;exact .bndE jc λω1 n C=>c ω1 _ C
  ·refine .bnd (mH _) λω1 _ _ C _=>.bndE (bm hT e) λω2 B l5=>?_;refine aO (λ_=>g ω2 _ _ _ .nil) λ_=>?_;exact .bnd (bU hT p) λω4 z k _ o=>g ω4 _ _ _ o.cells
 | _=>exact au
theorem sZ{t:NZ}(p:ly Q t=NB)(n:NA){k f:NJ (NA × Ny)}(h:LsR (vf Z) k.toList f.toList):SR Q P VR (Yx t n k) Z (Yx t n f):=by
 refine .bnd (bh hT t) λO d F l u=>?_;obtain⟨rfl,u⟩:=u;unfold ly at p;rw[u] at p;cases F with
 | slice e=>
  dsimp only at p ⊢;refine .bndE (bm hT e) λV c A=>?_;refine aO (λ_=>de) λ_=>?_;have fin:∀(U:Ren) {z g:NJ Ny},Le V U->AsR U z g->SR Q P VR (do
    let Nq cells:=TS (λi=>Nq (i*c,c)) ((Se (n*c)).map (λx=>z[x % z.size]!)) k.toList | stuck "buildSlice: a part of the wrong size"
    pure (.slice (Nq (<- YU e cells)) n n)) U (do
    let Nq cells:=TS (λi=>Nq (i*c,c)) ((Se (n*c)).map (λx=>g[x % g.size]!)) f.toList | stuck "buildSlice: a part of the wrong size"
    pure (.slice (Nq (<- YU e cells)) n n)):=by
   intro U z g q o;have C:LsR (vf U) k.toList f.toList:=h.imp λ_ _ x=>⟨x.1,x.2.mono ((l.trans A).trans q)⟩;have D:AsR U ((Se (n*c)).map (λx=>z[x % z.size]!)) ((Se (n*c)).map (λx=>g[x % g.size]!)):=by rw[<- o.1];exact iM λi=>o.getBang _
   rcases zd (λi=>Nq (i*c,c)) _ _ _ _ C D with⟨y,w⟩ | ⟨r,G,y,w,B⟩
   ·rw[y,w];exact au
   ·rw[y,w];refine .bnd (iZ B) λX a b _ v=>?_;obtain⟨i,j,rfl,rfl,s⟩:=v;exact ak (.slice _ _ _ _ s)
  refine aO (λ_=>fin V (.refl V) .nil) λ_=>?_;exact .bnd (bU hT p) λU z g q o=>fin U q o.cells
 | _=>exact au
theorem Ab(t:NZ){r b:NO Ny}(h:mZ Z r b):SR Q P VR (VZ t r) Z (VZ t b):=by
 have fin:∀O,SR Q P VR (do pure (.map (Nq (<- YT (.map #[] 0))))) O (do pure (.map (Nq (<- YT (.map #[] 0))))):=λO=>.bnd (qR (.map 0 .nil)) λV i j _ a=>ak (.map a);unfold VZ;rcases h with⟨rfl,rfl⟩ | ⟨x,y,rfl,rfl,c⟩
 ·exact fin Z
 ·refine .bndE (aM hT t) λO d l=>?_;cases d with
  | map k e=>exact .bndE (ns (c.mono l)) λV n _=>fin V
  | _=>exact au
theorem px(z:OI):∀(n d:NA) {Z:Ren} {t:NZ} {x i:Ny},eqB Q n t=NB->VR Z x i->SR Q P (λ_ _ _=>TL) (Sf z d t x) Z (Sf z d t i):=by
 intro n;induction n with
 | zero=>intro d Z t x i h;cases h
 | succ n w=>
  intro d Z t x i h g;cases d with
  | zero=>exact aF
  | succ d=>
   unfold Sf;refine .bnd (bh hT t) λO F j l a=>?_;obtain⟨rfl,a⟩:=a;replace g:=g.mono l;unfold eqB at h;rw[a] at h;cases j with
   | interface G=>cases h
   | struct H=>
    cases g with
    | agg v u=>
     dsimp only;rw[<- SN,<- SN];dsimp only at h;rw[PL] at h;refine .bndE (cF (K:=λX=>Le O X) (λ_ _ l k=>k.trans l) _ (λf y U b c=>?_) O _ (.refl O)) λU r c=>ak trivial;refine aO (λq=>?_) λ_=>ak rfl;have s:eqB Q n f.type=NB:=by
      have:=h f (QC.1 y);simp only[QI,beq_iff_eq] at this;exact this.resolve_left q
     exact .bnd (dV hT (AsR.mono c ⟨v,u⟩) _) λω1 p A C o=>.bnd (w d s o) λω3 _ _ _ _=>ak rfl
    | _=>exact au
   | array B e=>
    cases g with
    | agg v u=>
     dsimp only;rw[Qf,Qf];refine .bndE (cF (K:=λX=>Le O X) (λ_ _ l k=>k.trans l) _ (λf y U b c=>?_) O _ (.refl O)) λU r c=>ak trivial;exact .bndE (bm hT e) λω0 n D=>.bnd (dV hT (AsR.mono (c.trans D) ⟨v,u⟩) _) λω1 p A C o=>.bnd (w d h o) λω3 _ _ _ _=>ak rfl
    | _=>exact au
   | _=>cases g<;>exact ak trivial
def xe(Z:Ren)(a b:NO (NA × Ny)):Prop:=(a=Ns/\b=Ns)\/∃i x y,a=Nq (i,x)/\b=Nq (i,y)/\VR Z x y
omit hT in
theorem Ap(d:Vm){x c y b:Ny}(f:VR Z x c)(e:VR Z y b):Vj d c b=Vj d x y:=by
 have a:∀{u:Ny},Hf u=NB->∀d v,Vj d u v=Ns/\Vj d v u=Ns:=by
  intro u g d v;cases u<;>first | (cases g;done) | (cases d<;>cases v<;>exact⟨rfl,rfl⟩)
 cases f with
 | wild _ h=>rw[(a h d _).1,(a (u:=.chan Ns) rfl d _).1]
 | _=>first
  | (cases d<;>rfl)
  | (
    cases e with
   | wild _ h=>rw[(a h d _).2,(a (u:=.chan Ns) rfl d _).2]
   | _=>cases d<;>rfl)
omit hT in
theorem yY(d:Vm){k f:Ny}(o:VR Z k f):∀{c a:Nu Rz} (i:NA),LsR (gI Z) c a ->(Vk d k c i=Ns/\Vk d f a i=Ns)\/∃r j,Vk d k c i=Nq r/\Vk d f a i=Nq j/\xe Z r j:=by
 intro c;induction c with
 | nil=>intro a i h;cases h;exact .inr ⟨Ns,Ns,rfl,rfl,.inl ⟨rfl,rfl⟩⟩
 | cons e c n=>
  intro a i h;cases h with
  | cons l g=>
   simp only[Vk,Ap d o l.key];cases Vj d k e.key with
   | none=>exact .inl ⟨rfl,rfl⟩
   | some b=>
    cases b with
    | true=>exact .inr ⟨_,_,rfl,rfl,.inr ⟨i,_,_,rfl,rfl,l.val⟩⟩
    | false=>exact n (i+1) g
theorem sW{t:NZ}(p:eqB Q 6 t=NB){k j:Ny}:∀{c a:Nu Rz} {Z:Ren} (i:NA),VR Z k j->Gl P Z->LsR (gI Z) c a ->SR Q P xe (SD t k c i) Z (SD t j a i):=by
 intro c;induction c with
 | nil=>intro a Z i d g h;cases h;exact ak (.inl ⟨rfl,rfl⟩)
 | cons e c o=>
  intro a Z i d g h;cases h with
  | cons n f=>
   refine .bndE (mG hT 6 _ p d n.key g) λO b l=>?_;refine aO (λ_=>ak (.inr ⟨i,_,_,rfl,rfl,n.val.mono l⟩)) λ_=>?_;exact o (i+1) (d.mono l) (g.mono l) (f.imp λ_ _ x=>x.mono l)
theorem qV{t:NZ}(j:eqB Q 6 t=NB){k f:Ny}{b a:Nu Rz}(g:VR Z k f)(o:Gl P Z)(h:LsR (gI Z) b a) :SR Q P xe (Td t k b) Z (Td t f a):=by
 refine .bndE (aM hT t) λO d l=>?_;have i:LsR (gI O) b a:=h.imp λ_ _ x=>x.mono l;rcases yY d (g.mono l) 0 i with⟨e,c⟩ | ⟨r,p,e,c,n⟩
 ·rw[e,c];exact sW hT j 0 (g.mono l) (o.mono l) i
 ·rw[e,c];exact ak n
end
end
section
section
variable[JunkSet]{Q P:NR}(hT:P.toTables=Q.toTables){Z:Ren}{Y M W:Type}{R:Rel Y M}
include hT
def rF(Q:NR)(t:NZ):OI:=match Q.underlying t with | some (.map k e)=>eqB Q 6 k && iz Q e | _=>NB
theorem CU(I:Gl P Z){t:NZ}(f:rF Q t=NB)(c:OI){m w k n:Ny}(hm:VR Z m w)(A:VR Z k n):SR Q P VR (Ue t m k c) Z (Ue t w n c):=by
 refine .bnd (bh hT t) λO d L l u=>?_;obtain⟨rfl,u⟩:=u;unfold rF at f;rw[u] at f;cases L with
 | map kt B=>
  dsimp only at f ⊢;simp only[Of] at f;have fin:∀(V:Ren) {h a:NJ Rz},Le Z V->LsR (gI V) h.toList a.toList->SR Q P VR (do
    Sf h.isEmpty 10000 kt k
    let (v,e) <- match <- Td kt k h.toList with
     | some (_,v)=>pure (v,NB)
     | none=>pure (<- Tk B,NC)
    pure (if c then .tuple #[v,.bool e] else v)) V (do
    Sf a.isEmpty 10000 kt n
    let (v,e) <- match <- Td kt n a.toList with
     | some (_,v)=>pure (v,NB)
     | none=>pure (<- Tk B,NC)
    pure (if c then .tuple #[v,.bool e] else v)):=by
   intro V h a lτ q;have g:a.isEmpty=h.isEmpty:=by
    have:=q.length;simp only[Xq] at this;simp[Array.isEmpty,this]
   rw[g];refine .bnd (px hT _ 6 _ f.1 (A.mono lτ)) λU _ _ s _=>?_;refine .bnd (qV hT f.1 (A.mono (lτ.trans s)) (I.mono (lτ.trans s)) (q.imp λ_ _ x=>x.mono s)) λX r S l2 F=>?_;have b:∀(T:Ren) {v j:Ny} (e:OI),VR T v j->SR Q P VR (pure (if c then .tuple #[v,.bool e] else v):Rw Ny) T (pure (if c then .tuple #[j,.bool e] else j)):=by
    intro T v j e p;cases c with
    | true=>exact ak (AsR.tuple (bP.2 (.cons p (.cons (.bool _) .nil))))
    | false=>exact ak p
   rcases F with⟨rfl,rfl⟩ | ⟨i,x,y,rfl,rfl,p⟩
   ·exact .bnd (bU hT f.2) λT z N _ D=>b T NC D
   ·exact b X NB p
  cases(hm.mono l) with
  | mapNil=>exact fin O l .nil
  | map H=>
   refine .bnd (ec H) λV o o' C G=>?_;cases G with
   | map c q=>exact fin V (l.trans C) q
   | _=>exact bW
  | _=>exact bW
 | _=>exact au
omit hT in
theorem LsR.get{Y M:Type}{R:Y->M->Prop}{l:Nu Y}{m:Nu M}(h:LsR R l m)(i:NA):(l[i]?=Ns/\m[i]?=Ns)\/∃x y,l[i]?=Nq x/\m[i]?=Nq y/\R x y:=by
 induction h generalizing i with
 | nil=>exact .inl ⟨by simp,by simp⟩
 | cons b c a=>
  cases i with
  | zero=>exact .inr ⟨_,_,rfl,rfl,b⟩
  | succ i=>simpa using a i
omit hT in
theorem zm{l k:NJ Rz}(h:LsR (gI Z) l.toList k.toList)(i:NA){f g:Rz->Rz}(o:∀e n,gI Z e n->gI Z (f e) (g n)):LsR (gI Z) (l.modify i f).toList (k.modify i g).toList:=by
 rw[BZ] at h ⊢;simp only[Xq,UX] at h ⊢;refine⟨by simpa using h.1,λj x y d c=>?_⟩;rw[SQ] at d c;by_cases e:i=j
 ·rw[if_pos e] at d c;cases hx':l[j]? with
  | none=>rw[hx'] at d;cases d
  | some a=>
   cases hy':k[j]? with
   | none=>rw[hy'] at c;cases c
   | some b=>
    rw[hx'] at d;rw[hy'] at c;cases d;cases c;exact o _ _ (h.2 j a b hx' hy')
 ·rw[if_neg e] at d c;exact h.2 j x y d c
def Cq(Q:NR)(s d:NZ):OI:=match Q.underlying s,Q.underlying d with | some (.int _),Nq (.int _)=>NB | _,_=>NC
theorem Af{s d:NZ}(c:Cq Q s d=NB){v g:Ny}(h:VR Z v g):SR Q P VR (convert s d v) Z (convert s d g):=by
 refine .bnd (bh hT s) λO a j l f=>.bnd (bh hT d) λV b i o e=>?_;obtain⟨rfl,f⟩:=f;obtain⟨rfl,e⟩:=e;unfold Cq at c;rw[f,e] at c;cases j with
 | int q=>
  cases i with
  | int p=>
   cases h with
   | int k n=>exact ak (.int _ _)
   | _=>first | exact aF | exact au
  | _=>cases c
 | _=>cases i<;>cases c
end
end
section
inductive cQ [JunkSet] (Z:Ren):SX->SX->Prop
 | value {v v':Ny}:VR Z v v'->cQ Z (.value v) (.value v')
 | skip:cQ Z .skip .skip
 | enter {f:Pl} {a a':NJ Ny}:JunkSet.okf f->AsR Z a a'->cQ Z (.enter f a) (.enter f a')
 | round {l l':NA} (f:Pl) {t t':NJ Ny} {a b:Qs}:BR Z l l'->AsR Z t t'->JunkSet.okg f->JunkSet.okc a->JunkSet.okc b->cQ Z (.round l f t a b) (.round l' f t' a b)
 | defer {d d':Qa}:fU Z d d'->cQ Z (.defer d) (.defer d')
 | recover:cQ Z .recover .recover
def biB(Q:NR)(b:Builtin)(a:NJ NZ):OI :=
 match b with
 | .append=>Lz Q a
 | .len | .cap=>Gv Q a
 | .copy | .min | .max | .recover | .panic=>NB
 | .clear=>match a[0]? with | some st=>ly Q st | none=>NB
 | _=>NC
structure Pair[JunkSet](Q P:NR):Prop where
 bis:∀b ts,JunkSet.okb b ts->biB Q b ts=NB
 tables:P.toTables=Q.toTables
 funcs:∀f,JunkSet.okf f->∃fq fp,Q.funcs[f]?=Nq fq/\P.funcs[f]?=Nq fp/\fq.body.isNone=NC/\fp.body.isNone=NC/\(fq.name == "runtime.NumGoroutine")=NC/\(fp.name == "runtime.NumGoroutine")=NC
 meths:∀n,JunkSet.okm n->∀t i m,Q.info? t=Nq i->i.methods.find? (·.name == n)=Nq m->m.path=#[]/\∃f b,m.func=Nq (f,b)/\JunkSet.okf f/\∀e,Q.underlying t=Nq (.pointer e)->b=NB
 nometh:∀i,Q.info? 0=Nq i->(i.methods.find? (·.name == "")).isNone=NB
section
variable[JunkSet]{Q P:NR}(H:Pair Q P){Z:Ren}{Y M W:Type}{R:Rel Y M}
def ff{l a:NA}(h:BR Z l a):SR Q P mr (XA l) Z (XA a) :=
 .bnd (ec h) λO o c _ b=>by
  cases b with
  | loop h=>exact ak h
  | _=>exact au
def tw:∀{e:Nu (Tmp × Ny)} {d:Nu (Tmp × Ny)} {t f:NJ Ny},LsR (λa b=>b.1=a.1/\VR Z a.2 b.2) e d->AsR Z t f ->AsR Z (e.foldl (λc (x:Tmp × Ny)=>c.setIfInBounds x.1 x.2) t) (d.foldl (λc (x:Tmp × Ny)=>c.setIfInBounds x.1 x.2) f):=by
 intro e;induction e with
 | nil=>intro d t f h g;cases h;exact g
 | cons p e j=>
  intro d t f h g;cases h with
  | @cons _ q _ n l i=>
   obtain⟨a,x⟩:=p;obtain⟨b,y⟩:=q;obtain⟨rfl,k⟩:=l;simp only[PN];exact j i (g.set _ k)
def Iw{c:Nu Tmp}:∀{a d:Nu Ny},LsR (VR Z) a d->LsR (λ(a b:Tmp × Ny)=>b.1=a.1/\VR Z a.2 b.2) (c.zip a) (c.zip d):=by
 induction c with
 | nil=>intro a d h;exact .nil
 | cons p c e=>
  intro a d h;cases h with
  | nil=>exact .nil
  | cons f g=>exact .cons ⟨rfl,f⟩ (e g)
def Fl{l c:NA}(h:BR Z l c){a e:NJ Ny}(d:AsR Z a e):SR Q P cQ (j3 l a) Z (j3 c e):=by
 refine .bnd (ff h) λO r f lσ b=>?_;dsimp only;rw[b.params,<- d.1,b.fn,b.assign,b.body];refine aO (λ_=>bW) λ_=>xO ?_;refine ak (.round _ (h.mono lσ) ?_ b.okF b.okA b.okB);rw[<- Ut,<- Ut,Yy,Yy];exact tw (Iw (bP.1 (d.mono lσ))) b.tmps
include H
theorem py{f:Pl}(b:JunkSet.okf f){a c:NJ Ny}(d:AsR Z a c):SR Q P cQ (callFunc f a) Z (callFunc f c):=by
 have⟨l,n,k,j,i,h,g,e⟩:=H.funcs f b;refine cz ?_;rw[k,j];dsimp only;rw[g,e,i,h];exact ak (.enter b d)
theorem CR(n:String)(B:JunkSet.okm n)(g c:NA)(C:(g=0↔c=0)){t:NZ}{v j:Ny}(h:VR Z v j) :SR Q P (λO a b=>b.1=a.1/\JunkSet.okf a.1/\VR O a.2 b.2) (method g t v n) Z (method c t j n):=by
 cases g with
 | zero=>exact aF
 | succ k=>
  cases c with
  | zero=>omega
  | succ L=>
   unfold method;refine .bnd (jI H.tables t) λO i w l s=>?_;obtain⟨rfl,s⟩:=s;cases hm:w.methods.find? (·.name == n) with
   | none=>exact au
   | some m=>
    have⟨A,f,b,D,q,o⟩:=H.meths n B t w m s hm;dsimp only;rw[A,D];have e:(follow (#[]:NJ Yz).toList t (.val v))=pure (t,.val v):=rfl;have F:(follow (#[]:NJ Yz).toList t (.val j))=pure (t,.val j):=rfl;rw[e,F];have p:SR Q P VR (receiverAt t (.val v) b (if(#[]:NJ Yz).isEmpty=NB then Nq ((n.splitOn ".").getLastD n) else Ns)) O (receiverAt t (.val j) b (if(#[]:NJ Yz).isEmpty=NB then Nq ((n.splitOn ".").getLastD n) else Ns)):=by
     refine .bnd (bh H.tables t) λV d G y u=>?_;obtain⟨rfl,u⟩:=u;have x:=h.mono (l.trans y);cases G with
     | pointer e=>
      have:=o e u;subst this;exact ak x
     | _=>
      cases b with
      | true=>exact au
      | false=>exact ak x
    exact SR.bnd (S:=λO a b=>b.1=a.1/\JunkSet.okf a.1/\VR O a.2 b.2) (f:=λr=>pure (f,r)) (f':=λr=>pure (f,r)) p λV r I _ z=>ak ⟨rfl,q,z⟩
theorem sX(p:Gl P Z)(n:String)(k:JunkSet.okm n){v e:Ny}(h:VR Z v e){a g:NJ Ny}(o:AsR Z a g):SR Q P cQ (YX v n a) Z (YX e n g):=by
 cases h with
 | iface t i=>
  refine cz ?_;have:P.types.size=Q.types.size:=by rw[H.tables]
  rw[this];refine .bnd (CR H n k _ _ Iff.rfl i) λO a b l d=>?_;obtain⟨f,r⟩:=a;obtain⟨s,q⟩:=b;obtain⟨rfl,c,j⟩:=d;exact py H c ((AsR.one j).append (o.mono l))
 | nilIface=>exact(aH H.tables p .nilDeref:SR Q P cQ (RE .nilDeref) Z (RE .nilDeref))
 | _=>exact au
omit [JunkSet] H in
theorem mm{Y:Type}(a:∀i,Q.info? 0=Nq i->(i.methods.find? (·.name == "")).isNone=NB)(f:Sd->Rw Y)(b:∀i,i.methods.find? (·.name == "")=Ns->Bad Q (f i)):Bad Q (RV 0>>=f):=by
 show Bad Q ((match Q.info? 0 with | some i=>(pure i:Rw Sd) | none=>stuck "no such type").bind f);cases h:Q.info? 0 with
 | none=>exact rfl
 | some i=>exact b i (by simpa using a i h)
theorem sL(a:NJ Ny):Bad Q (YX (.iface 0 .nilIface) "" a):=by
 show Bad Q ((method (Q.types.size+_) 0 .nilIface "").bind _);refine Bad.bind ?_ _;generalize Q.types.size+_=n;cases n with
 | zero=>exact rfl
 | succ n=>
  unfold method;refine mm H.nometh _ λi b=>?_;rw[b];exact rfl
theorem Eu:Bad Q (do
  if(<- nilAhead ((<- program).types.size+Made.depth) 0 .nilIface "") != Nq NC then
   unsupported (.noEntry "op/nilCheck.the method's receiver behind this interface value is a nil pointer, or cannot be seen to be none, and the arguments act or may panic (ledger 612)")
  pure (Next.value (.func (.method "") #[.iface 0 .nilIface] #[]))):=by
 show Bad Q ((nilAhead (Q.types.size+Made.depth) 0 .nilIface "").bind _);cases hn:Q.types.size+Made.depth with
 | zero=>exact rfl
 | succ n=>
  refine Bad.bind ?_ _;unfold nilAhead;refine mm H.nometh _ λi a=>?_;rw[a];exact rfl
omit H in
theorem KM:SR Q P EqR (sys .env) Z (sys .env):=.inr ⟨rfl,_,rfl,λr=>⟨r,rfl,rfl⟩⟩
theorem xP:SR Q P EqR UK Z UK:=by
 unfold UK;refine .bndE KM λO r l=>?_;cases r with
 | strings e=>
  dsimp only;refine cz ?_;have:P.godebug=Q.godebug:=by rw[H.tables]
  rw[this];exact ak rfl
 | _=>exact au
theorem qQ{R:Rel Ny Ny}{v a:Ny}(c:Gl P Z)(h:VR Z v a):SR Q P R (j4 v) Z (j4 a):=by
 cases h with
 | iface t b=>exact(eH (.iface t b):SR Q P R (ZB _) Z (ZB _))
 | nilIface=>
  show SR Q P R (UK>>=_) Z (UK>>=_);refine .bndE (xP H) λO n l=>?_;exact aO (λ_=>eH .nilIface) λ_=>aH H.tables (c.mono l) _
 | _=>exact au
theorem eG{s d:Rw Ny}(h:SR Q P VR s Z d):SR Q P cQ (do pure (.value (<- s))) Z (do pure (.value (<- d))):=.bnd h λO a b _ c=>ak (.value c)
theorem MZ{s c:Rw Unit}(h:SR Q P (λ_ _ _=>TL) s Z c):SR Q P cQ (do s;pure .skip) Z (do c;pure .skip):=.bnd h λO a b _ _=>ak .skip
theorem Ah(f:Gl P Z){b:Builtin}{e:NJ NZ}{t:NZ}{g:NJ OI}(d:biB Q b e=NB){a h:NJ Ny}(c:AsR Z a h) :SR Q P cQ (builtin b e t g a) Z (builtin b e t g h):=by
 cases b<;>first | (cases d;done) | skip
 ·exact eG H (CY H.tables f c d)
 ·exact eG H (KN H.tables d c)
 ·exact eG H (Fx H.tables c d)
 ·exact eG H (IT H.tables c)
 ·exact eG H (KJ H.tables d c)
 ·exact eG H (KH c)
 ·exact eG H (KG c)
 ·exact eG H (qQ H f (c.getD 0 .nilIface))
 ·exact ak .recover
theorem mF{v d:Ny}(h:VR Z v d){a f:NJ Ny}(e:AsR Z a f):SR Q P fU (Deferred.ofValue v a) Z (Deferred.ofValue d f):=by
 cases h with
 | func g l k j i=>exact ak (.mk (.fn g ⟨j,i⟩) (AsR.append ⟨l,k⟩ e))
 | nilFunc=>exact ak (.mk .nil e)
 | meth n b c=>exact ak (.bound rfl (by simp[Rx]) ⟨_,_,rfl⟩)
 | _=>exact au
theorem ja(j:Gl P Z){d g:Qa}(h:fU Z d g):SR Q P cQ (invoke d.target d.args) Z (invoke g.target g.args):=by
 obtain⟨t,a⟩:=d;obtain⟨y,B⟩:=g;rcases h with⟨k,c⟩ | ⟨p,o,_⟩
 case bound=>
  dsimp only at p o ⊢;subst p;unfold invoke;dsimp only;rw[o];exact .bad (sL H _)
 dsimp only at k c ⊢;cases k with
 | fn u v=>
  cases u with
  | func f i=>exact py H i (c.append v)
  | yield l=>exact Fl l c
 | meth n s=>
  unfold invoke;dsimp only;cases h0:a[0]? with
  | none=>exact au
  | some r=>
   have⟨z,e,q⟩:=c.get h0;rw[e,<- c.1];exact sX H j n s q (c.extract _ _)
 | nil=>exact(aH H.tables j .nilDeref:SR Q P cQ (RE .nilDeref) Z (RE .nilDeref))
 | builtin b x t A w=>exact Ah H j (H.bis _ _ w) c
 | collected l=>exact au
end
end
section
inductive aR [JunkSet] (Q:NR):OQ->Prop
 | tmp (t:Tmp):aR Q (.tmp t)
 | const {v:Ny}:iO v->aR Q (.const v)
 | global {g:NA}:g<Q.globals.size->aR Q (.global g)
 | func {f:Pl}:JunkSet.okf f->aR Q (.func f)
def dF[JunkSet](Q:NR)(l:Nu OQ):Prop:=∀x∈l,aR Q x
inductive gj [JunkSet] (Q:NR):Call->Prop
 | value {f:OQ} {a:NJ OQ} {ts:NJ NZ}:aR Q f->dF Q a.toList->gj Q ⟨.value f,a,ts⟩
 | invoke {r:OQ} {n:String} {a:NJ OQ} {ts:NJ NZ}:aR Q r->JunkSet.okm n->dF Q a.toList->gj Q ⟨.invoke r n,a,ts⟩
 | builtin {b:Builtin} {a:NJ OQ} {ts:NJ NZ}:JunkSet.okb b ts->dF Q a.toList->gj Q ⟨.builtin b,a,ts⟩
inductive aZ [JunkSet] (Q:NR):Op->Prop
 | move {x:OQ}:aR Q x->aZ Q (.move x)
 | assign {x:OQ}:aR Q x->aZ Q (.assign x)
 | pick {c a b:OQ}:aR Q c->aR Q a->aR Q b->aZ Q (.pick c a b)
 | alloc {t:NZ}:iz Q t=NB->aZ Q (.alloc t)
 | box {t:NZ} {x:OQ}:aR Q x->aZ Q (.box t x)
 | build {t:NZ} {ps:NJ (NA × OQ)}:iz Q t=NB->dF Q (ps.toList.map (·.2))->aZ Q (.build t ps)
 | buildSlice {t:NZ} {n:NA} {ps:NJ (NA × OQ)}:ly Q t=NB->dF Q (ps.toList.map (·.2))->aZ Q (.buildSlice t n ps)
 | load {t:NZ} {x:OQ}:aR Q x->aZ Q (.load t x)
 | store {t:NZ} {a x:OQ}:aR Q a->aR Q x->aZ Q (.store t a x)
 | nilCheck {x:OQ}:aR Q x->aZ Q (.nilCheck x)
 | arith {op:BinOp} {t u:NZ} {x y:OQ}:tt op=NC->vL Q t=NB->aR Q x->aR Q y->aZ Q (.binOp op t x y u)
 | eql {op:BinOp} {t u:NZ} {x y:OQ}:tt op=NB->Eh Q t x y=NB->aR Q x->aR Q y->aZ Q (.binOp op t x y u)
 | unOp {op:UnOp} {t:NZ} {x:OQ}:aR Q x->aZ Q (.unOp op t x)
 | convert {s d:NZ} {x:OQ}:Cq Q s d=NB->aR Q x->aZ Q (.convert s d x)
 | makeInterface {t:NZ} {x:OQ}:aR Q x->aZ Q (.makeInterface t x)
 | makeFunc {f:Pl} {a b:NJ OQ}:JunkSet.okf f->dF Q a.toList->dF Q b.toList->aZ Q (.makeFunc (.func f) a b)
 | makeMap {t:NZ} {r:NO OQ}:dF Q r.toList->aZ Q (.makeMap t r)
 | makeSlice {t:NZ} {l c:OQ}:ly Q t=NB->aR Q l->aR Q c->aZ Q (.makeSlice t l c)
 | slice {t:NZ} {x:OQ} {l h m:NO OQ}:aR Q x->dF Q l.toList->dF Q h.toList->dF Q m.toList->aZ Q (.slice t x l h m)
 | fieldAddr {t:NZ} {x:OQ} {f:NA}:wI Q t f=NB->aR Q x->aZ Q (.fieldAddr t x f)
 | field {t:NZ} {x:OQ} {f:NA}:aR Q x->aZ Q (.field t x f)
 | indexAddr {t:NZ} {x i:OQ}:aR Q x->aR Q i->aZ Q (.indexAddr t x i)
 | index {t:NZ} {x i:OQ}:aR Q x->aR Q i->aZ Q (.index t x i)
 | lookup {t:NZ} {x i:OQ} {c:OI}:rF Q t=NB->aR Q x->aR Q i->aZ Q (.lookup t x i c)
 | mapUpdate {t:NZ} {m k x:OQ}:rF Q t=NB->aR Q m->aR Q k->aR Q x->aZ Q (.mapUpdate t m k x)
 | insert {t:NZ} {m k x:OQ}:rF Q t=NB->aR Q m->aR Q k->aR Q x->aZ Q (.insert t m k x)
 | typeAssert {x:OQ} {t a:NZ} {c:OI}:iz Q a=NB->aR Q x->aZ Q (.typeAssert x t a c)
 | extract {x:OQ} {i:NA}:aR Q x->aZ Q (.extract x i)
 | call {c:Call}:gj Q c->aZ Q (.call c)
 | defer {c:Call}:gj Q c->aZ Q (.defer c)
 | panic {x:OQ}:aR Q x->aZ Q (.panic x)
section
variable[JunkSet]{Q P:NR}(H:Pair Q P){Z:Ren}{e e':OQ->Ny}
def jS(d:∀x,aR Q x->VR Z (e x) (e' x)){a:NJ OQ}(f:dF Q a.toList):AsR Z (a.map e) (a.map e'):=by
 refine⟨by simp,λi x y b c=>?_⟩;rw[Uv] at b c;cases h:a[i]? with
 | none=>rw[h] at b;cases b
 | some o=>
  rw[h] at b c;cases b;cases c;exact d o (f o (by rw[QC];exact PR h))
def uw(f:∀x,aR Q x->VR Z (e x) (e' x)){a:NJ (NA × OQ)}(b:dF Q (a.toList.map (·.2))) :LsR (vf Z) (a.map λ(x:NA × OQ)=>(x.1,e x.2)).toList (a.map λ(x:NA × OQ)=>(x.1,e' x.2)).toList:=by
 simp only[Array.toList_map];generalize a.toList=l at b;induction l with
 | nil=>exact .nil
 | cons p l c=>exact .cons ⟨rfl,f _ (b _ (VI ..))⟩ (c λx d=>b x (Vn _ d))
def qp(b:∀x,aR Q x->VR Z (e x) (e' x)){o:NO OQ}(a:dF Q o.toList):mZ Z (o.map e) (o.map e'):=by
 cases o with
 | none=>exact .inl ⟨rfl,rfl⟩
 | some x=>exact .inr ⟨_,_,rfl,rfl,b x (a x (by simp))⟩
def oO(a:∀v,e (.const v)=v){x:OQ}(h:ia x=NB):e x=.nilIface:=by
 unfold ia at h;split at h
 ·exact a _
 ·cases h
include H
theorem jK(a:∀x,aR Q x->VR Z (e x) (e' x)){c:Call}(h:gj Q c)(t:NZ):SR Q P fU (resolve e c t) Z (resolve e' c t):=by
 cases h with
 | value g b=>exact mF H (a _ g) (jS a b)
 | invoke d f b=>exact ak (.mk (.meth _ f) ((AsR.one (a _ d)).append (jS a b)))
 | builtin i b=>exact ak (.mk (.builtin _ _ _ _ i) (jS a b))
def Gy:Op->OI
 | .mapUpdate .. | .insert ..=>NB
 | _=>NC
theorem ua(g:∀x,aR Q x->VR Z (e x) (e' x))(r:Gl P Z)(Y:Inj Z)(B:∀v,e (.const v)=v){o:PE}(M:aZ Q o.op)(A:Gy o.op=NC):SR Q P cQ (QN e o) Z (QN e' o):=by
 have T:=H.tables;obtain⟨V,R,X,N,after,guard⟩:=o;dsimp only at M A;cases M with
 | move h=>exact ak (.value (g _ h))
 | assign h=>exact ak (.value (g _ h))
 | pick j i q=>
  refine .bndE (CX (g _ j)) λO b l=>?_;refine ak (.value ?_);cases b with
  | true=>exact(g _ i).mono l
  | false=>exact(g _ q).mono l
 | alloc h=>exact eG H (FC T h)
 | box h=>exact eG H (KP _ (g _ h))
 | build j i=>exact eG H (Fy T j (uw g i))
 | buildSlice j i=>exact eG H (sZ T j _ (uw g i))
 | load h=>exact eG H (CW T _ (g _ h))
 | store j i=>exact MZ H (zX T _ (g _ j) (g _ i))
 | @nilCheck x h=>
  have D:=g _ h;unfold QN;dsimp only;generalize e x=v at D ⊢;generalize e' x=v' at D ⊢;have k:SR Q P cQ (pure (.value v)) Z (pure (.value v')):=ak (.value D);cases D with
  | ptrNil=>exact aH T r .nilDeref
  | nilIface=>exact aH T r .nilDeref
  | nilFunc=>exact aH T r .nilDeref
  | func U j i q s=>
   cases U with
   | func f S=>exact k
   | yield hb=>exact k
  | wild _ h=>cases v'<;>first | exact k | (cases h;done) | (rename_i p;cases p<;>first | exact k | (cases h;done)) | (rename_i p _ _;cases p<;>first | exact k | (cases h;done))
  | meth n a c=>exact .bad (Eu H)
  | _=>exact k
 | arith j i q s=>
  refine eG H (.bnd (qW T (λh=>by rw[j] at h;cases h) (g _ q) (g _ s) ?_ ?_ ?_) λO _ _ l _=>FB T j i ((g _ q).mono l) ((g _ s).mono l) (r.mono l))
  ·exact λz=>oO B z
  ·exact λz=>oO B z
  ·exact λh=>by rw[j] at h;cases h
 | @eql R t u x y j i q s=>
  have I:∀a b,Q.underlying t≠Nq (.chan a b):=by
   unfold Eh at i;simp only[QI,Of] at i;rcases i with i | ⟨_,C⟩
   ·exact eO i
   ·intro a b e;rw[e] at C;cases C
  by_cases L:e x=.chan Ns\/e y=.chan Ns
  ·exact .bad (Bad.bind (JX T j I L) _)
  have F:∀w,(w=e x\/w=e y)->w≠.chan Ns:=λw h e'=>L (by rcases h with rfl | rfl;exact .inl e';exact .inr e');refine eG H (.bnd (qW T (λ_=>i) (g _ q) (g _ s) (λz=>oO B z) (λz=>oO B z) (λ_=>F)) λO _ _ l _=>?_);unfold Eh at i;simp only[QI,Of] at i;rcases i with i | ⟨i,C⟩
  ·exact KL T j i ((g _ q).mono l) ((g _ s).mono l) (r.mono l)
  ·refine Fw T j ?_ ((g _ q).mono l) ((g _ s).mono l) (i.imp (oO B) (oO B));split at C
   ·exact⟨_,‹_›⟩
   ·cases C
 | unOp h=>exact eG H (Fo T (g _ h))
 | convert j i=>exact eG H (Af T j (g _ i))
 | makeInterface h=>exact eG H (oG T _ (g _ h))
 | makeFunc j i q=>exact ak (.value (.func (.func _ j) (jS g i).1 (jS g i).2 (jS g q).1 (jS g q).2))
 | makeMap h=>exact eG H (Ab T _ (qp g h))
 | makeSlice j i q=>exact eG H (vF T r j (g _ i) (g _ q))
 | slice j i q s=>exact eG H (zY T r _ (g _ j) (qp g i) (qp g q) (qp g s))
 | fieldAddr j i=>exact eG H (Ad T j (g _ i))
 | field h=>exact eG H (Fv T _ (g _ h) _)
 | indexAddr j i=>exact eG H (Ac T r _ (g _ j) (g _ i))
 | index j i=>exact eG H (Fu T r _ (g _ j) (g _ i))
 | lookup j i q=>exact eG H (CU T r j _ (g _ i) (g _ q))
 | mapUpdate j i q s=>cases A
 | insert j i q s=>cases A
 | typeAssert j i=>exact eG H (sU T r j _ (g _ i))
 | extract h=>exact eG H (Ae (g _ h) _)
 | call h=>exact .bnd (jK H g h _) λO d W l G=>ja H (r.mono l) G
 | defer h=>exact .bnd (jK H g h _) λO d W l G=>ak (.defer G)
 | panic h=>exact eG H (qQ H r (g _ h))
end
end
section
inductive aK [JunkSet] (Q:NR):Qs->Prop
 | skip:aK Q .skip
 | region {id:NA} {ops:NJ PE} {d:OI}:(∀o∈ops.toList,aZ Q o.op)->aK Q (.region id ops d)
 | seq {a b:Qs}:aK Q a->aK Q b->aK Q (.seq a b)
 | cond {c:OQ} {a b:Qs}:aR Q c->aK Q a->aK Q b->aK Q (.cond c a b)
 | block {id:NA} {c:Qs}:aK Q c->aK Q (.block id c)
 | loop {c:Qs}:aK Q c->aK Q (.loop c)
 | rangeFunc {f:OQ} {ps:NJ Tmp} {a c:Qs}:aR Q f->aK Q a->aK Q c->aK Q (.rangeFunc f ps a c)
 | exit (id:NA):aK Q (.exit id)
 | scope {c:Qs}:aK Q c->aK Q (.scope c)
 | label (l:NA):aK Q (.label l)
 | goto (l:NA):aK Q (.goto l)
 | ret:aK Q .ret
inductive bR [JunkSet] (Q:NR) (Z:Ren):Si->Si->Prop
 | code {c:Qs}:aK Q c->bR Q Z (.code c) (.code c)
 | inBlock (id:NA):bR Q Z (.inBlock id) (.inBlock id)
 | inLoop {c:Qs}:aK Q c->bR Q Z (.inLoop c) (.inLoop c)
 | inScope {c:Qs}:aK Q c->bR Q Z (.inScope c) (.inScope c)
 | inRegion {ops:NJ PE} (l:Nu NA):(∀o∈ops.toList,aZ Q o.op)->bR Q Z (.inRegion ops l) (.inRegion ops l)
 | inRangeFunc {l l':NA}:BR Z l l'->bR Q Z (.inRangeFunc l) (.inRangeFunc l')
 | endRangeFunc {l l':NA}:BR Z l l'->bR Q Z (.endRangeFunc l) (.endRangeFunc l')
 | beginRound:bR Q Z .beginRound .beginRound
structure ot[JunkSet](Z:Ren)(a b:Tu):Prop where
 v:VR Z a.v b.v
 rcv:b.recovered=a.recovered
 goexit:b.goexit=a.goexit
inductive iq [JunkSet] (Z:Ren):FrameMode->FrameMode->Prop
 | run:iq Z .run .run
 | returning:iq Z .returning .returning
 | panicking {l l':Nu Tu}:LsR (ot Z) l l'->iq Z (.panicking l) (.panicking l')
def OBR(Z:Ren)(a b:NO NA):Prop:=(a=Ns/\b=Ns)\/∃i j,a=Nq i/\b=Nq j/\BR Z i j
structure aG[JunkSet](Q P:NR)(Z:Ren)(f f':NS):Prop where
 fn:f'.fn=f.fn
 same:∃g,Q.funcs[f.fn]?=Nq g/\P.funcs[f.fn]?=Nq g
 okf:Q.inits.idxOf? f.fn=Ns
 tmps:AsR Z f.tmps f'.tmps
 todo:LsR (bR Q Z) f.todo f'.todo
 defers:LsR (fU Z) f.defers f'.defers
 mode:iq Z f.mode f'.mode
 kind:f'.kind=f.kind
 round:OBR Z f.roundOf f'.roundOf
section
variable[JunkSet]{Q P:NR}{Z O:Ren}
def bR.mono(l:Le Z O){a b:Si}(h:bR Q Z a b):bR Q O a b:=by
 cases h with
 | code h=>exact .code h
 | inBlock id=>exact .inBlock id
 | inLoop h=>exact .inLoop h
 | inScope h=>exact .inScope h
 | inRegion l h=>exact .inRegion l h
 | inRangeFunc h=>exact .inRangeFunc (h.mono l)
 | endRangeFunc h=>exact .endRangeFunc (h.mono l)
 | beginRound=>exact .beginRound
def ot.mono(l:Le Z O){a b:Tu}(h:ot Z a b):ot O a b:=⟨h.v.mono l,h.rcv,h.goexit⟩
def iq.mono(l:Le Z O){a b:FrameMode}(h:iq Z a b):iq O a b:=by
 cases h with
 | run=>exact .run
 | returning=>exact .returning
 | panicking h=>exact .panicking (h.imp λ_ _ k=>k.mono l)
def OBR.mono(l:Le Z O){a b:NO NA}(h:OBR Z a b):OBR O a b:=h.imp id λ⟨i,j,e,d,c⟩=>⟨i,j,e,d,c.mono l⟩
def aG.mono(l:Le Z O){f a:NS}(h:aG Q P Z f a):aG Q P O f a :=
 ⟨h.fn,h.same,h.okf,h.tmps.mono l,h.todo.imp λ_ _ k=>k.mono l,h.defers.imp λ_ _ k=>k.mono l,h.mode.mono l,h.kind,h.round.mono l⟩
structure ir[JunkSet](Q P:NR)(Z:Ren)(g g':NF):Prop where
 frame:aG Q P Z g.frame g'.frame
 callers:LsR (aG Q P Z) g.callers g'.callers
 st:g.status=.running
 st':g'.status=.running
 dy:g.dying=Ns
 dy':g'.dying=Ns
def gR(Z:Ren):VR Z NG undef:=AsR.tuple .nil
def aG.eval(e:Gl P Z)(k:P.globals.size=Q.globals.size){f b:NS}(h:aG Q P Z f b){x:OQ}(a:aR Q x):VR Z (f.eval x) (b.eval x):=by
 cases a with
 | tmp t=>exact h.tmps.getD t (gR Z)
 | const c=>exact c.vr Z
 | @global g j=>exact .ptr 0 Ns (e g (by omega))
 | func d=>exact .func (.func _ d) rfl (λi x y a=>by simp at a) rfl (λi x y a=>by simp at a)
def aG.finish{f f':NS}(h:aG Q P Z f f'){v n:Ny}(x:VR Z v n):aG Q P Z (f.finish v) (f'.finish n):=by
 obtain⟨B,p,o,c,q,r,A⟩:=f;obtain⟨z,e,d,b,g,j,t⟩:=f';have s:=h.todo;dsimp only at s;unfold Wt;dsimp only;cases s with
 | nil=>exact h
 | cons w k=>
  cases w with
  | @inRegion u l a=>
   cases l with
   | nil=>exact h
   | cons i l=>
    dsimp only;refine⟨h.fn,h.same,h.okf,?_,.cons (.inRegion l a) k,h.defers,h.mode,h.kind,h.round⟩;dsimp only;split
    ·exact h.tmps.set _ x
    ·exact h.tmps
  | inRangeFunc y=>exact⟨h.fn,h.same,h.okf,h.tmps,.cons (.endRangeFunc y) k,h.defers,h.mode,h.kind,h.round⟩
  | beginRound=>exact⟨h.fn,h.same,h.okf,h.tmps,k,h.defers,h.mode,h.kind,h.round⟩
  | _=>exact h
def aG.raise{f j:NS}(h:aG Q P Z f j){l p:Nu Tu}(i:LsR (ot Z) l p):aG Q P Z (f.raise l) (j.raise p):=by
 obtain⟨v,n,k,b,o,q,u⟩:=f;obtain⟨t,d,c,a,e,g,r⟩:=j;have hm:=h.mode;dsimp only at hm;unfold WZ;cases hm with
 | run=>exact⟨h.fn,h.same,h.okf,h.tmps,h.todo,h.defers,.panicking i,h.kind,h.round⟩
 | returning=>exact⟨h.fn,h.same,h.okf,h.tmps,h.todo,h.defers,.panicking i,h.kind,h.round⟩
 | panicking s=>exact⟨h.fn,h.same,h.okf,h.tmps,h.todo,h.defers,.panicking (i.append s),h.kind,h.round⟩
def AT{id:NA}:∀{l a:Nu Si},LsR (bR Q Z) l a->(TU id l=Ns/\TU id a=Ns)\/∃k b,TU id l=Nq k/\TU id a=Nq b/\LsR (bR Q Z) k b:=by
 intro l a h;induction h with
 | nil=>exact .inl ⟨rfl,rfl⟩
 | cons d e c=>
  cases d with
  | inBlock j=>
   simp only[TU];split
   ·exact .inr ⟨_,_,rfl,rfl,e⟩
   ·exact c
  | _=>exact c
def wH{l:NA}:∀{c r:Qs},aK Q c->findLabel c l=Nq r->aK Q r:=by
 intro c;induction c with
 | seq a b g f=>
  intro r h d;cases h with
  | seq n k=>
   simp only[findLabel] at d;split at d
   ·rename_i i e
    cases d;exact .seq (g n e) k
   ·exact f k d
 | label j=>
  intro r h d;simp only[findLabel] at d;split at d
  ·cases d;exact .skip
  ·cases d
 | _=>intro r h d;cases d
def AM{j:NA}:∀{l a:Nu Si},LsR (bR Q Z) l a->(Uw j l=Ns/\Uw j a=Ns)\/∃k b,Uw j l=Nq k/\Uw j a=Nq b/\LsR (bR Q Z) k b:=by
 intro l a h;induction h with
 | nil=>exact .inl ⟨rfl,rfl⟩
 | cons f g d=>
  cases f with
  | @inScope c e=>
   simp only[Uw];cases hf:findLabel c j with
   | none=>exact d
   | some r=>exact .inr ⟨_,_,rfl,rfl,.cons (.code (wH e hf)) (.cons (.inScope e) g)⟩
  | _=>exact d
def zK(a:NJ PE){t c:NJ Ny}(h:AsR Z t c)(j:NA):PH a c j=PH a t j:=by
 unfold PH;cases((a[j]?).bind (·.dst)) with
 | none=>rfl
 | some d=>
  simp only[Ud];cases ht:t[d]? with
  | none=>rw[h.get_none ht]
  | some v=>
   have⟨e,b,f⟩:=h.get ht;rw[b];cases f<;>first | rfl | (rename_i h;cases e<;>first | rfl | cases h)
def gV(P:NR)(i:Pl)(d:NJ Pz):∀e∈Wa P i d,e∈d:=by
 have g:∀(l:Nu Pz) (x:OI × NJ Pz) (all:Nu Pz),(∀e∈x.2,e∈all)->(∀e∈l,e∈all) ->
   ∀e∈(l.foldl (λ(y:OI × NJ Pz) (e:Pz)=>match e.loc with
    | .mark (.extern f)=>((P.funcs[f]?).any (·.norace),y.2)
    | _=>(y.1,if y.1 && !e.sync then y.2 else y.2.push e)) x).2,e∈all:=by
  intro l;induction l with
  | nil=>intro x all c _;exact c
  | cons a l j=>
   intro x all c h;rw[PN];refine j _ all ?_ λe b=>h e (Vn _ b);intro e b;split at b
   ·exact c e b
   ·dsimp only at b;split at b
    ·exact c e b
    ·rcases Array.mem_push.1 b with b | rfl
     ·exact c e b
     ·exact h _ (VI ..)
 intro e b;have:=g d.toList ((P.funcs[i]?).any (·.norace),#[]) d.toList (by simp) (λe b=>b) e;rw[QC] at this;apply this;unfold Wa at b;dsimp only at b;rw[<- Ut] at b;exact b
end
end
section
section
variable[JunkSet]{Q P:NR}{Z:Ren}{Y M:Type}{R:Rel Y M}
def SM(Q P:NR)[JunkSet]{Y M:Type}(R:Rel Y M)(s:Rw Y)(Z:Ren)(d:Rw M):Prop :=
 ∀{base D:NA} {wq w:Nt},base<=Z.length->WR Q base Z wq w->cj D wq w->(rwR (s.run Q wq)).drawn<=D->jC (s.run Q wq) ->
  ∃O a c b,Bi R O (s.run Q wq) a (d.run P w) c/\d.events P w #[]=b/\(∀e∈b,iy base O e)/\WR Q base O a c/\Eff base Z O w c
def SR.sm{s:Rw Y}{c:Rw M}(h:SR Q P R s Z c):SM Q P R s Z c:=λj e f i g=>by
 have⟨O,b,d,a,p,o,n,l,_,k,_⟩:=SR.runs (es:=#[]) h j e f i g;exact⟨O,b,d,a,p,by show(c.runT P _ #[]).2=a;rw[o];simp,n,l,k⟩
def wk:Qe:=.extern "map.whichKeyStays" 2
def Nf(kt:NZ)(k v:Ny)(r:NA)(c:NJ Rz)(a:NA)(b:NA->Rw Ny):Rw Unit:=do
 Sf NC 10000 kt k
 match <- Td kt k c.toList with
 | some (i,_)=>do
  let key <- b i
  setObj r (.map (c.modify i λe=>{ e with key,val:=v }) a)
 | none=>setObj r (.map (c.push { key:=k,val:=v,born:=a }) (a+1))
def bE(a:NJ Rz)(i:NA)(k:Ny):Ny:=((a[i]?).map (·.key)).getD k
def ig(kt:NZ)(k:Ny)(a:NJ Rz):Rw (NO (NA × Ny)):=do
 Sf NC 10000 kt k
 Td kt k a.toList
def dW(k v:Ny)(r:NA)(c:NJ Rz)(a:NA)(b:NA->Rw Ny):NO (NA × Ny)->Rw Unit
 | some (i,_)=>do
  let key <- b i
  setObj r (.map (c.modify i λe=>{ e with key,val:=v }) a)
 | none=>setObj r (.map (c.push { key:=k,val:=v,born:=a }) (a+1))
def fD{t:NZ}{k v:Ny}{w:Nt}{kt g:NZ}(j:P.underlying t=Nq (.map kt g)){r:NA}{b:NJ Rz}{a:NA}(l:w.heap[r]?=Nq (.map b a)) :(PO t (.map (Nq r)) k v).run P w=(ig kt k b>>=dW k v r b a (λi=>Pu (bE b i k) k)).run P w /\(PO t (.map (Nq r)) k v).events P w #[]=(ig kt k b>>=dW k v r b a (λi=>Pu (bE b i k) k)).events P w #[⟨.obj r,NC,NC⟩]:=by
 have e:PO t (.map (Nq r)) k v=(Rr t).bind λd=>(match d with
   | .map kt _=>(getObj r).bind λo=>(match o with
    | .map b a=>(ig kt k b>>=dW k v r b a (λi=>Pu (bE b i k) k))
    | _=>stuck "MapUpdate: map expected")
   | _=>stuck "MapUpdate: map type expected"):=by
  unfold PO;show(Rr t).bind _=_
  congr 1
  funext d
  cases d<;>try rfl
  show(getObj r).bind _=(getObj r).bind _
  congr 1
  funext o
  cases o<;>try rfl
  exact(Sem.bind_assoc' _ _ _).symm
 have h:∀b,(Rr t).runT P w b=(.ok (.map kt g) w,b):=λb=>by
  show(match P.underlying t with | some i=>(pure i:Rw Vm) | none=>stuck "no such type").runT P w b=_;rw[j];rfl
 have n:∀c,(getObj r).runT P w c=(.ok (.map b a) w,c.push ⟨.obj r,NC,NC⟩):=λc=>by
  simp only[getObj,Tj,l];rfl
 have f:∀c,(PO t (.map (Nq r)) k v).runT P w c=(ig kt k b>>=dW k v r b a (λi=>Pu (bE b i k) k)).runT P w (c.push ⟨.obj r,NC,NC⟩):=λc=>by
  rw[e,YY,h];dsimp only;rw[YY,n]
 refine⟨?_,?_⟩
 ·rw[<- Sem.runT_fst P _ w #[],f,Sem.runT_fst]
 ·show((PO t (.map (Nq r)) k v).runT P w #[]).2=_;rw[f];rfl
omit [JunkSet] in
def Kn(a b:ByteArray)(h:(a == b)=NB):a=b:=by
 obtain⟨a⟩:=a;obtain⟨b⟩:=b;have c:(a == b)=NB:=h;rw[eq_of_beq c]
omit [JunkSet] in
def Cv:∀(n:NA) {x y:Ny},QJ n x y=NB->x=y:=by
 intro n;induction n with
 | zero=>
  intro x y h;cases x<;>cases y<;>first | (cases h;done) | rfl | (rw[Kn _ _ h];done) | (simp only[QJ,Of,beq_iff_eq] at h;simp[h];done) | (simp only[QJ,Of,beq_iff_eq] at h;obtain⟨d,c⟩:=h;subst d c;rfl)
 | succ n e=>
  intro x y h;cases x<;>cases y<;>first | (cases h;done) | rfl | (rw[Kn _ _ h];done) | skip
  all_goals simp only[QJ,Of,beq_iff_eq] at h
  case agg.agg a b=>
   obtain⟨d,c⟩:=h
   congr 1
   refine Array.ext d λi g f=>?_;rw[OF] at c;have:(a[i],b[i])∈a.toList.zip b.toList:=by
    rw[Sj];refine⟨i,by simp;omega,by simp⟩
   exact e (c _ this)
  case iface.iface t v u w=>
   rw[h.1,e h.2]
  all_goals first | (simp[h];done) | (obtain⟨d,c⟩:=h;subst d c;rfl) | (obtain⟨⟨d,c⟩,j⟩:=h;subst d c j;rfl)
def gX(s:OI)(c:NA)(b a:Ny):Rw Ny :=
 if s then pure (if QJ 10000 b a then a else if c=0 then a else b)
 else choose wk>>=λn=>pure (if QJ 10000 b a then a else if n=0 then a else b)
def IP{x e y d:Ny}(f:VR Z x e)(c:VR Z y d)(g:NA):SR Q P VR (Pu x y) Z (gX (QJ 10000 x y) g e d):=by
 unfold Pu gX;by_cases b:QJ 10000 x y=NB
 ·rw[if_pos b,if_pos b];refine ak ?_;split
  ·exact c
  ·split
   ·exact c
   ·rw[<- Cv _ b];exact f
 ·rw[if_neg b,if_neg b];refine .bndE jc λO n l=>?_;refine ak ?_;by_cases a:QJ 10000 e d=NB
  ·rw[if_pos a];split
   ·exact c.mono l
   ·rw[<- Cv _ a];exact f.mono l
  ·rw[if_neg a];split
   ·exact c.mono l
   ·exact f.mono l
def But(d:NA):SK Y->SK Y
 | .ok a u=>.ok a { u with drawn:=d }
 | .halt h u=>.halt h { u with drawn:=d }
omit [JunkSet] in
def sF(r:SK Y):But (rwR r).drawn r=r:=by cases r<;>rfl
omit [JunkSet] in
def rf(r:NA)(o:Obj)(u:Nt)(d:NA):(setObj r o).run P { u with drawn:=d }=But d ((setObj r o).run P u)/\∀a,(setObj r o).events P { u with drawn:=d } a=(setObj r o).events P u a:=by
 have e:setObj r o=YS r o (.pure ()):=rfl;rw[e];refine⟨?_,λa=>?_⟩
 ·simp only[Pr];show(match u.heap[r]? with | some (.cells ..)=>_ | some _=>_ | none=>_)=But d (match u.heap[r]? with | some (.cells ..)=>_ | some _=>_ | none=>_);cases u.heap[r]? with
  | none=>rfl
  | some x=>cases x<;>rfl
 ·unfold Sem.events;simp only[Tj];cases hh:u.heap[r]? with
  | none=>rfl
  | some x=>cases x<;>rfl
omit [JunkSet] in
def FS{k v:Ny}{r:NA}{es:NJ Rz}{clock:NA}{s:NA->OI}{u:Nt}(x:NO (NA × Ny)) :∃d,(dW k v r es clock (λi=>Pu (bE es i k) k) x).run P u=But d ((dW k v r es clock (λi=>gX (s i) (wk.cut (u.tape u.drawn wk)) (bE es i k) k) x).run P u) /\∀a,(dW k v r es clock (λi=>Pu (bE es i k) k) x).events P u a=(dW k v r es clock (λi=>gX (s i) (wk.cut (u.tape u.drawn wk)) (bE es i k) k) x).events P u a:=by
 cases x with
 | none=>exact⟨_,(sF _).symm,λ_=>rfl⟩
 | some x=>
  obtain⟨i,y⟩:=x;simp only[dW,PF,TB];have b:(choose wk).run P u=.ok (wk.cut (u.tape u.drawn wk)) { u with drawn:=u.drawn+1 }:=rfl;have h:∀a,(choose wk).events P u a=a:=λa=>rfl;by_cases c:QJ 10000 (bE es i k) k=NB
  ·have l:(Pu (bE es i k) k).run P u=.ok k u:=by unfold Pu;rw[if_pos c];rfl
   have j:∀a,(Pu (bE es i k) k).events P u a=a:=λa=>by unfold Pu;rw[if_pos c];rfl
   rw[l];simp only[j];cases hs:s i with
   | true=>
    have g:(gX NB (wk.cut (u.tape u.drawn wk)) (bE es i k) k).run P u=.ok k u:=by unfold gX;rw[if_pos rfl,if_pos c];rfl
    have f:∀a,(gX NB (wk.cut (u.tape u.drawn wk)) (bE es i k) k).events P u a=a:=λa=>by unfold gX;rw[if_pos rfl];rfl
    rw[g];refine⟨_,(sF _).symm,λa=>?_⟩;rw[f]
   | false=>
    have g:(gX NC (wk.cut (u.tape u.drawn wk)) (bE es i k) k).run P u=.ok k { u with drawn:=u.drawn+1 }:=by
     unfold gX;rw[if_neg (by simp),PF,b];simp only[PC,if_pos c];rfl
    have f:∀a,(gX NC (wk.cut (u.tape u.drawn wk)) (bE es i k) k).events P u a=a:=λa=>by
     unfold gX;rw[if_neg (by simp),TB,b,h];rfl
    rw[g];simp only[f,PC,Wh];have:=rf (P:=P) r (.map (es.modify i λe=>{ e with key:=k,val:=v }) clock) { u with drawn:=u.drawn+1 } u.drawn;exact⟨u.drawn,this.1,λa=>this.2 a⟩
  ·have l:(Pu (bE es i k) k).run P u=.ok (if wk.cut (u.tape u.drawn wk)=0 then k else bE es i k) { u with drawn:=u.drawn+1 }:=by
    unfold Pu;rw[if_neg c,PF];show((choose wk).run P u).andThen _=_;rw[b];rfl
   have j:∀a,(Pu (bE es i k) k).events P u a=a:=λa=>by
    unfold Pu;rw[if_neg c,TB];show((choose wk).run P u).evThen _ _=_;rw[b,show(choose (.extern "map.whichKeyStays" 2)).events P u a=a from rfl];rfl
   rw[l];simp only[j];cases hs:s i with
   | true=>
    have g:(gX NB (wk.cut (u.tape u.drawn wk)) (bE es i k) k).run P u=.ok (if wk.cut (u.tape u.drawn wk)=0 then k else bE es i k) u:=by unfold gX;rw[if_pos rfl,if_neg c];rfl
    have f:∀a,(gX NB (wk.cut (u.tape u.drawn wk)) (bE es i k) k).events P u a=a:=λa=>by unfold gX;rw[if_pos rfl];rfl
    rw[g];simp only[f,PC,Wh];have:=rf (P:=P) r (.map (es.modify i λe=>{ e with key:=if wk.cut (u.tape u.drawn wk)=0 then k else bE es i k,val:=v }) clock) u (u.drawn+1);exact⟨u.drawn+1,this.1,λa=>this.2 a⟩
   | false=>
    have g:(gX NC (wk.cut (u.tape u.drawn wk)) (bE es i k) k).run P u=.ok (if wk.cut (u.tape u.drawn wk)=0 then k else bE es i k) { u with drawn:=u.drawn+1 }:=by
     unfold gX;rw[if_neg (by simp),PF,b];simp only[PC,if_neg c];rfl
    have f:∀a,(gX NC (wk.cut (u.tape u.drawn wk)) (bE es i k) k).events P u a=a:=λa=>by
     unfold gX;rw[if_neg (by simp),TB,b,h];rfl
    rw[g];refine⟨_,(sF _).symm,λa=>?_⟩;rw[f]
def tZ(I:P.toTables=Q.toTables)(V:Gl P Z){kt:NZ}(L:eqB Q 6 kt=NB){k g v B:Ny}(q:VR Z k g)(F:VR Z v B){r j:NA}(H:BR Z r j){l c:NJ Rz}(G:LsR (gI Z) l.toList c.toList)(d C:NA) :SR Q P (λ_ _ _=>TL) (ig kt k l>>=dW k v r l d (λi=>Pu (bE l i k) k)) Z (ig kt g c>>=dW g B j c d (λi=>gX (QJ 10000 (bE l i k) k) C (bE c i g) g)):=by
 have n:SR Q P xe (ig kt k l) Z (ig kt g c) :=
  .bnd (px I _ 6 _ L q) λU _ _ t _=>qV I L (q.mono t) (V.mono t) (G.imp λ_ _ x=>x.mono t)
 refine .bnd n λX x x' f S=>?_;have h:=G.imp λ_ _ x=>gI.mono f x;rcases S with⟨rfl,rfl⟩ | ⟨i,y,W,rfl,rfl,O⟩
 ·refine ea (H.mono f) (.map _ ?_);simp only[Array.toList_push];exact h.append (.cons ⟨q.mono f,F.mono f,rfl⟩ .nil)
 ·have o:VR X (bE l i k) (bE c i g):=by
   have:=h.get i;simp only[UX] at this;unfold bE;rcases this with⟨A,z⟩ | ⟨a,b,A,z,w⟩
   ·rw[A,z];exact q.mono f
   ·rw[A,z];exact w.key
  refine .bnd (IP o (q.mono f) C) λT N D s p=>?_;exact ea (H.mono (f.trans s)) (.map _ (zm (h.imp λ_ _ x=>x.mono s) i λe e' u=>⟨p,F.mono (f.trans s),u.born⟩))
def yB(F:P.toTables=Q.toTables)(N:Gl P Z){t:NZ}{base:NA}{a w:Nt}(H:WR Q base Z a w){m C k k' v v':Ny}(hm:VR Z m C)(u:jC ((PO t m k v).run Q a)) :SR Q P (λ_ _ _=>TL) (PO t m k v) Z (PO t C k' v') \/∃r j kt n f p b,m=.map (Nq r)/\C=.map (Nq j)/\BR Z r j/\Q.underlying t=Nq (.map kt n)/\a.heap[r]?=Nq (.map f b)/\w.heap[j]?=Nq (.map p b)/\LsR (gI Z) f.toList p.toList:=by
 by_cases q:∃r j,m=.map (Nq r)/\C=.map (Nq j)/\BR Z r j
 ·obtain⟨r,j,rfl,rfl,B⟩:=q;by_cases z:∃kt n,Q.underlying t=Nq (.map kt n)
  ·obtain⟨kt,n,z⟩:=z;right;have I:r<a.heap.size:=by rw[<- H.len];exact(NT.1 B).1
   have A:∀o,a.heap[r]?=Nq o->(∀f c,o≠.map f c)->RI:=λo x D=>by
    have T:(Rr t).run Q a=.ok (.map kt n) a:=by
     show(match Q.underlying t with | some i=>(pure i:Rw Vm) | none=>stuck "no such type").run Q a=_;rw[z];rfl
    unfold PO at u;rw[PF,T] at u;simp only[PC,PF] at u;have g:(getObj r).run Q a=.ok o a\/∃s,(getObj r).run Q a=.halt (.stuck s) a:=by
     simp only[getObj,Pr,x];cases o<;>first | exact .inl rfl | exact .inr ⟨_,rfl⟩
    rcases g with g | ⟨s,g⟩
    ·rw[g] at u;simp only[PC] at u;cases o<;>first | exact D _ _ rfl | exact absurd u (by intro h;cases h)
    ·rw[g] at u;exact absurd u (by intro h;cases h)
   cases x:a.heap[r]? with
   | none=>rw[VH] at x;omega
   | some o=>
    by_cases D:∃f c,o=.map f c
    ·obtain⟨f,c,rfl⟩:=D;rcases H.obj r j _ B x with⟨_,g,_⟩ | ⟨_,U,g,S⟩
     ·cases g
     ·cases S with
      | @map _ p _ L=>exact⟨r,j,kt,n,f,p,c,rfl,rfl,B,z,x,g,L⟩
    ·exact(A o x λf c e=>D ⟨f,c,e⟩).elim
  ·left;refine .bnd (bh F t) λO d G l y=>?_;obtain⟨rfl,y⟩:=y;cases G with
   | map kt n=>exact absurd ⟨kt,n,y⟩ z
   | _=>exact au
 ·left;refine .bnd (bh F t) λO d G l y=>?_;obtain⟨rfl,y⟩:=y;cases G with
  | map kt n=>
   cases hm with
   | mapNil=>exact aH F (N.mono l) _
   | map B=>exact absurd ⟨_,_,rfl,rfl,B⟩ q
   | _=>exact au
  | _=>exact au
def yD{t kt c:NZ}(a:rF Q t=NB)(b:Q.underlying t=Nq (.map kt c)):eqB Q 6 kt=NB:=by
 unfold rF at a;rw[b] at a;simp only[Of] at a;exact a.1
def nt(U:P.toTables=Q.toTables)(hG:Gl P Z){t:NZ}(hB:rF Q t=NB){m W k b v l:Ny}(hm:VR Z m W)(hk:VR Z k b)(hv:VR Z v l) :SM Q P (λ_ _ _=>TL) (PO t m k v) Z (PO t W b l):=by
 intro base D wq w hb C X T F;rcases yB U hG C hm F with h | ⟨r,j,kt,et,es,a,clock,rfl,rfl,A,I,hq,hp,n⟩
 ·exact h.sm hb C X T F
 ·have H:P.underlying t=Nq (.map kt et):=by rw[gQ U];exact I
  have⟨r1,_⟩:=fD (P:=Q) (t:=t) (k:=k) (v:=v) I hq;have⟨r2,e2⟩:=fD (P:=P) (t:=t) (k:=b) (v:=l) H hp;rw[r1] at T F ⊢;rw[r2,e2]
  let B:NA:=match (ig kt b a).run P w with | .ok _ u=>wk.cut (u.tape u.drawn wk) | .halt _ _=>0
  have⟨O,G,w1,ev,V,h2,h3,o,_,g,_⟩:=SR.runs (es:=#[⟨.obj j,NC,NC⟩]) (tZ U hG (yD hB I) hk hv A n clock B) hb C X T F;have p:∃d,(ig kt b a>>=dW b l j a clock (λi=>Pu (bE a i b) b)).run P w=But d ((ig kt b a>>=dW b l j a clock (λi=>gX (QJ 10000 (bE es i k) k) B (bE a i b) b)).run P w) /\
    ∀q,(ig kt b a>>=dW b l j a clock (λi=>Pu (bE a i b) b)).events P w q=(ig kt b a>>=dW b l j a clock (λi=>gX (QJ 10000 (bE es i k) k) B (bE a i b) b)).events P w q:=by
   simp only[PF,TB];have z:B=match (ig kt b a).run P w with | .ok _ u=>wk.cut (u.tape u.drawn wk) | .halt _ _=>0:=rfl
   generalize (ig kt b a).run P w=res at z;cases res with
   | ok x u=>
    simp only[PC,Wh];rw[z];have⟨d,g1,g2⟩:=FS (P:=P) (k:=b) (v:=l) (r:=j) (es:=a) (clock:=clock) (s:=λi=>QJ 10000 (bE es i k) k) (u:=u) x;exact⟨d,g1,λq=>g2 _⟩
   | halt x u=>exact⟨u.drawn,rfl,λ_=>rfl⟩
  obtain⟨d,N,L⟩:=p;rw[N,L];refine⟨O,G,{ w1 with drawn:=d },#[⟨.obj j,NC,NC⟩]++ev,?_,by unfold Sem.events;exact h2,?_,?_,?_⟩
  ·generalize Pr Q _ wq=x at V;generalize Pr P _ w=y at V;cases V with
   | ok _ _ h=>exact .ok _ _ h
   | panic _ _ h=>exact .panic _ _ h
  ·intro e n;rcases Rm.1 n with n | n
   ·simp only[Ro,Pk] at n;subst n;refine .obj NC (A.mono g.le) (YA λS=>?_);have⟨c,e,f,h6,_⟩:=C.low r S;rw[hq] at h6;cases h6
   ·exact h3 e n
  ·exact⟨o.len,o.nodup,o.lt,o.obj,o.low,o.env,o.below,o.gar⟩
  ·exact⟨g.le,g.tape,g.os,g.output,g.size,g.keep,g.fresh,g.mine⟩
def SM.u{s i:Rw Unit}(h:SM Q P (λ_ _ _=>TL) s Z i):SM Q P cQ (do s;pure .skip) Z (do i;pure .skip):=by
 intro base D a w o l n f d;have j:∀(p:NR) (x:Rw Unit) (u:Nt),((do x;pure Next.skip:Rw SX)).run p u=match x.run p u with | .ok _ u'=>.ok .skip u' | .halt h u'=>.halt h u':=λp x u=>by
  rw[PF];cases x.run p u<;>rfl
 have A:∀(p:NR) (x:Rw Unit) (u:Nt),((do x;pure Next.skip:Rw SX)).events p u #[]=x.events p u #[]:=λp x u=>by
  rw[TB];cases x.run p u<;>rfl
 rw[j] at f d ⊢;have e:(rwR (s.run Q a)).drawn<=D:=by cases hx:s.run Q a<;>(rw[hx] at f;exact f)
 have c:jC (s.run Q a):=by cases hx:s.run Q a<;>(rw[hx] at d;exact d)
 have⟨O,b,k,z,g,v,t,r,q⟩:=h o l n e c;refine⟨O,b,k,z,?_,by rw[A];exact v,t,r,q⟩;rw[j];generalize Pr Q _ a=x at g;generalize Pr P _ w=y at g;cases g with
 | ok _ _ h=>exact .ok _ _ .skip
 | panic _ _ h=>exact .panic _ _ h
def uj(H:Pair Q P){e i:OQ->Ny}(a:∀x,aR Q x->VR Z (e x) (i x))(c:Gl P Z)(k:Inj Z)(l:∀v,e (.const v)=v){o:PE}(b:aZ Q o.op):SM Q P cQ (QN e o) Z (QN i o):=by
 cases hmu:Gy o.op with
 | false=>exact(ua H a c k l b hmu).sm
 | true=>
  obtain⟨n,q,p,j,after,guard⟩:=o;dsimp only at b hmu;cases b with
  | mapUpdate h g f d=>exact SM.u (nt H.tables c h (a _ g) (a _ f) (a _ d))
  | insert h g f d=>exact SM.u (nt H.tables c h (a _ g) (a _ f) (a _ d))
  | _=>cases hmu
end
end
section
structure Duo[JunkSet](Q P:NR):Prop extends Pair Q P where
 codes:∀c,JunkSet.okc c↔aK Q c
 rfr:Q.follows .rangeFuncRecover=NB
 bodies:∀f g,JunkSet.okf f->Q.funcs[f]?=Nq g->P.funcs[f]?=Nq g->∀c,g.body=Nq c->aK Q c
 inits:∀f,JunkSet.okf f->Q.inits.idxOf? f=Ns
 same:∀f,JunkSet.okg f↔(∃g,Q.funcs[f]?=Nq g/\P.funcs[f]?=Nq g)/\Q.inits.idxOf? f=Ns
def sP[JunkSet](Q P:NR)(Z:Ren)(g d:NF):Prop :=
 (Q.funcs[g.frame.fn]?=P.funcs[g.frame.fn]?/\ir Q P Z g d) \/
 ∃f k a i c h e b,Q.funcs[f]?≠P.funcs[f]?/\JunkSet.okf f/\g={ frame:=OT Q f a k,callers:=c::e,status:=.running,dying:=Ns }/\d={ frame:=OT P f i k,callers:=h::b,status:=.running,dying:=Ns } /\
  AsR Z a i/\aG Q P Z c h/\LsR (aG Q P Z) e b/\(c.mode≠.run\/∀x l,c.todo≠.code x::l)
def sP.k[JunkSet]{Q P:NR}{Z:Ren}{g a:NF}(h:ir Q P Z g a):sP Q P Z g a :=
 .inl ⟨by have⟨x,c,b⟩:=h.frame.same;rw[c,b],h⟩
def iG[JunkSet](Q P:NR)(base D:NA)(Z:Ren)(wq w:Nt)(r h:QE):Prop :=
 ∀b a d,r=.go b a d->a.drawn<=D->b.status=.running->b.dying=Ns ->
  ∃O f c g,h=.go f c g/\sP Q P O b f/\WR Q base O a c/\TL/\Eff base Z O w c/\(∀e∈g,iy base O e)/\TL/\wq.drawn<=a.drawn
section
variable[JunkSet]{Q P:NR}(H:Duo Q P){Z:Ren}{base D:NA}{wq w:Nt}
def Duo.gsize(H:Duo Q P):P.globals.size=Q.globals.size:=by rw[H.tables]
def Hl(H:Duo Q P){f:Pl}(n:JunkSet.okf f)(o:Q.funcs[f]?=P.funcs[f]?){a r:NJ Ny}(p:AsR Z a r)(k:YZ):aG Q P Z (OT Q f a k) (OT P f r k):=by
 have⟨s,h,d,b,q,_⟩:=H.funcs f n;have e:h=s:=by rw[d,b] at o;exact(QQ o).symm
 subst e;refine⟨rfl,⟨h,d,b⟩,H.inits f n,?_,?_,.nil,.run,rfl,.inl ⟨rfl,rfl⟩⟩
 ·unfold OT;dsimp only;rw[d,b,<- p.1];refine p.append ⟨rfl,λi x y g j=>?_⟩;rw[Array.getElem?_replicate] at g j;split at g
  ·rename_i l
   rw[if_pos l] at j;cases g;cases j;exact gR Z
  ·cases g
 ·unfold OT;dsimp only;rw[d,b];cases hb:h.body with
  | none=>rw[hb] at q;cases q
  | some c=>simp only[Ud,hb,NK];exact .cons (.code (H.bodies f h n d b c hb)) .nil
def enterK(H:Duo Q P){f:Pl}(j:JunkSet.okf f){a h:NJ Ny}(o:AsR Z a h){c g:NS}(n:aG Q P Z c g){e b:Nu NS}(d:LsR (aG Q P Z) e b)(hm:c.mode≠.run\/∀x l,c.todo≠.code x::l)(k:YZ):sP Q P Z { frame:=OT Q f a k,callers:=c::e,status:=.running,dying:=Ns } { frame:=OT P f h k,callers:=g::b,status:=.running,dying:=Ns }:=by
 by_cases i:Q.funcs[f]?=P.funcs[f]?
 ·exact .k ⟨Hl H j i o k,.cons n d,rfl,rfl,rfl,rfl⟩
 ·exact .inr ⟨f,k,a,h,c,g,e,b,i,j,rfl,rfl,o,n,d,hm⟩
def FP(H:Duo Q P){l c:NA}{f:Pl}(h:∃g,Q.funcs[f]?=Nq g/\P.funcs[f]?=Nq g)(i:Q.inits.idxOf? f=Ns){t d:NJ Ny}{a b:Qs}(n:BR Z l c)(e:AsR Z t d)(o:aK Q a)(j:aK Q b)(k:YZ) :aG Q P Z (j5 l f t a b k) (j5 c f d a b k) :=
 ⟨rfl,h,i,e,.cons (.code o) (.cons .beginRound (.cons (.code j) .nil)),.nil,.run,rfl,.inr ⟨l,c,rfl,rfl,n⟩⟩
def Bi.world{Y M:Type}{R:Rel Y M}{r:SK Y}{a:Nt}{c:SK M}{b:Nt}(h:Bi R Z r a c b):rwR r=a:=by
 cases h<;>rfl
def bM(c:WR Q base Z wq w)(l:cj D wq w){g a:NF}(h:g.status=.running->g.dying=Ns->ir Q P Z g a):iG Q P base D Z wq w (.go g wq) (.go a w):=by
 intro i b j e n d f;cases e;exact⟨Z,a,w,#[],rfl,.k (h d f),c,trivial,.refl base w,by simp,trivial,Nv _⟩
def cq{o:Wu}{u:Nt}{b:NJ Pz}{a:QE}:iG Q P base D Z wq w (.ended o u b) a:=by
 intro _ _ _ e;cases e
def kK{f i:NS}(L:aG Q P Z f i):∀{e b:Nu NS},LsR (aG Q P Z) e b ->(Ou f e=Ns/\Ou i b=Ns)\/∃v d k j,Ou f e=Nq (v,k)/\Ou i b=Nq (d,j)/\VR Z v d/\LsR (aG Q P Z) k j:=by
 intro e b h;induction h generalizing f i with
 | nil=>exact .inl ⟨by unfold Ou;split<;>simp_all,by unfold Ou;split<;>simp_all⟩
 | @cons c x e b a q F=>
  unfold Ou;rw[L.kind];cases hk:f.kind with
  | deferred=>
   dsimp only;have hm:=a.mode;cases hmc:c.mode with
   | run=>rw[hmc] at hm;cases hm':x.mode<;>rw[hm'] at hm<;>cases hm;exact .inl ⟨rfl,rfl⟩
   | returning=>rw[hmc] at hm;cases hm':x.mode<;>rw[hm'] at hm<;>cases hm;exact .inl ⟨rfl,rfl⟩
   | panicking l=>
    rw[hmc] at hm;cases hm':x.mode with
    | run=>rw[hm'] at hm;cases hm
    | returning=>rw[hm'] at hm;cases hm
    | panicking C=>
     rw[hm'] at hm;cases hm with
     | panicking n=>
      cases n with
      | nil=>exact .inl ⟨rfl,rfl⟩
      | @cons p B l C I n=>
       obtain⟨v,r,g⟩:=p;obtain⟨d,A,M⟩:=B;obtain⟨s,z,y⟩:=I;dsimp only at s z y;subst z;subst y;cases A<;>cases M<;>first
        | exact .inl ⟨rfl,rfl⟩
        | exact .inr ⟨v,d,_,_,rfl,rfl,s,.cons ⟨a.fn,a.same,a.okf,a.tmps,a.todo,a.defers,.panicking (.cons ⟨s,rfl,rfl⟩ n),a.kind,a.round⟩ q⟩
  | wrapped=>
   dsimp only;rcases F a with⟨u,t⟩ | ⟨v,d,k,j,u,t,G,o⟩
   ·rw[u,t];exact .inl ⟨rfl,rfl⟩
   ·rw[u,t];exact .inr ⟨v,d,_,_,rfl,rfl,G,.cons a o⟩
  | _=>exact .inl ⟨rfl,rfl⟩
def bD{p:NR}{e:NS}{i:Nu NS}{m:String}{u d:Nt}{g:NF}{f:NJ Pz}(h:Vo p e i Ns m u=.go g d f):g.dying≠Ns:=by
 unfold Vo at h;dsimp only at h;generalize (Pr p _ u:SK (Nu (ByteArray × String) × Nu ByteArray))=r at h;cases r with
 | ok a c=>
  obtain⟨t,b⟩:=a;simp only[j6,Sk] at h;rw[<- h.1];simp
 | halt x c=>cases x<;>simp at h
def dc{a:NJ Pz}{s:QE}{g:NF}{u:Nt}{e:NJ Pz}(h:Pm a s=.go g u e):∃b,s=.go g u b/\e=a++b:=by
 cases s<;>simp only[Pm,Sk] at h<;>first | (obtain⟨rfl,rfl,rfl⟩:=h;exact⟨_,rfl,rfl⟩) | cases h
def SR.ends{Y M:Type}{R:Rel Y M}{s:Rw Y}{e:Rw M}(g:SR Q P R s Z e)(i:base<=Z.length)(c:WR Q base Z wq w)(h:jC (s.run Q wq)) :(∃a u,s.run Q wq=.ok a u)\/∃v u,s.run Q wq=.halt (.panic v) u:=by
 have d:WR Q base Z wq { w with tape:=λn q=>wq.tape (n - w.drawn+wq.drawn) q }:=⟨c.len,c.nodup,c.lt,c.obj,c.low,c.env,c.below,c.gar⟩;have⟨O,f,k,j,b,_⟩:=SR.runs (es:=#[]) (D:=(rwR (s.run Q wq)).drawn) g i d (λn q _=>by
  show wq.tape (wq.drawn+n) q=wq.tape (w.drawn+n - w.drawn+wq.drawn) q;rw[show w.drawn+n - w.drawn+wq.drawn=wq.drawn+n by omega]) (Nv _) h
 generalize s.run Q wq=r at b;generalize (Pr P e _)=r' at b;cases b with
 | ok _ _ _=>exact .inl ⟨_,_,rfl⟩
 | panic _ _ _=>exact .inr ⟨_,_,rfl⟩
def SM.ends{Y M:Type}{R:Rel Y M}{s:Rw Y}{e:Rw M}(g:SM Q P R s Z e)(i:base<=Z.length)(c:WR Q base Z wq w)(h:jC (s.run Q wq)) :(∃a u,s.run Q wq=.ok a u)\/∃v u,s.run Q wq=.halt (.panic v) u:=by
 have d:WR Q base Z wq { w with tape:=λn q=>wq.tape (n - w.drawn+wq.drawn) q }:=⟨c.len,c.nodup,c.lt,c.obj,c.low,c.env,c.below,c.gar⟩;have⟨O,f,k,j,b,_⟩:=g (D:=(rwR (s.run Q wq)).drawn) i d (λn q _=>by
  show wq.tape (wq.drawn+n) q=wq.tape (w.drawn+n - w.drawn+wq.drawn) q;rw[show w.drawn+n - w.drawn+wq.drawn=wq.drawn+n by omega]) (Nv _) h
 generalize s.run Q wq=r at b;generalize (Pr P e _)=r' at b;cases b with
 | ok _ _ _=>exact .inl ⟨_,_,rfl⟩
 | panic _ _ _=>exact .inr ⟨_,_,rfl⟩
def lK(H:Duo Q P)(hb:base<=Z.length)(hw:WR Q base Z wq w)(ht:cj D wq w){f f':NS}(hf:aG Q P Z f f'){W M:Nu NS}(g9:LsR (aG Q P Z) W M)(U:∀x l,f.todo≠.code x::l){s s':Rw SX}(hs:SM Q P cQ s Z s'):iG Q P base D Z wq w (Pw Q NB f W Ns s wq) (Pw P NB f' M Ns s' w):=by
 intro B y m9 o hD C G;have e7:(∀d r s k,f.todo≠.call d NB r s::k)/\∀d r s k,f'.todo≠.call d NB r s::k:=by
  have:=hf.todo;generalize f.todo=l at this;generalize f'.todo=l' at this;cases this with
  | nil=>exact⟨by simp,by simp⟩
  | cons hx _=>cases hx<;>exact⟨by simp,by simp⟩
 obtain⟨k9,k8⟩:=e7;unfold Pw at o;simp only[if_true,OL] at o;have F:jC (s.run Q wq):=by
  cases T:s.run Q wq with
  | ok a w1=>trivial
  | halt h w1=>
   rw[T] at o;cases h with
   | panic v=>rfl
   | goexit=>rfl
   | unsupported u=>cases u<;>first | rfl | (simp[Pm] at o;done)
   | blocked=>simp only[Pm,Sk] at o;rw[<- o.1] at C;cases C
   | waiting=>simp only[Pm,Sk] at o;rw[<- o.1] at C;cases C
   | throw m=>simp only[Pm,UL,j6,Sk] at o;rw[<- o.1] at G;cases G
   | fatal m=>
    have⟨e0,c,_⟩:=dc o;exact absurd G (bD c)
   | _=>(simp[Pm] at o;done)
 have⟨e0,c,_⟩:=dc o;have m7:∀{fr:NS} {u:Nt},(Xa { frame:=fr,callers:=W,status:=.running,dying:=Ns } u:QE)=.go B y e0->u=y:=λh=>by cases h;rfl
 have k0:(rwR (s.run Q wq)).drawn<=D:=by
  cases T:s.run Q wq with
  | ok a w1=>
   rw[T] at c;have:w1=y:=by
    cases a with
    | recover=>
     dsimp only at c
     repeat' split at c
     all_goals(cases c;rfl)
    | callThen d r v b=>
     dsimp only at c
     repeat' split at c
     all_goals(cases c;rfl)
    | row r a=>
     dsimp only at c
     repeat' split at c
     all_goals(cases c;rfl)
    | stack r a=>
     dsimp only at c
     repeat' split at c
     all_goals(cases c;rfl)
    | spawn d=>
     exfalso;dsimp only at c
     repeat' split at c
     all_goals first
      | (simp only[UL,j6,Sk] at c;rw[<- c.1] at G;cases G;done)
      | (cases c;done)
    | _=>first | (cases c;rfl) | cases c
   subst this;exact hD
  | halt h w1=>
   rcases hs.ends hb hw F with⟨a,u,e⟩ | ⟨v,u,e⟩
   ·rw[T] at e;cases e
   ·rw[T] at e;cases e;rw[T] at c;cases c;exact hD
 have⟨O,A,V,p,z,g7,g6,e4,b0⟩:=hs hb hw ht k0 F;have hL:=b0.le;have e8:wq.drawn<=A.drawn:=z.world ▸ jf Q s wq;have t:LsR (aG Q P O) W M:=g9.imp λ_ _ k=>k.mono hL;have n:=hf.mono hL;have a8:s'.events P w #[]=p:=g7;have c8:(f'.kind == CallKind.early)=(f.kind == CallKind.early):=by rw[hf.kind]
 have q:∀(N:NJ Pz),(N=#[]\/N=p)->∀e∈Wa P f'.fn (if(f'.kind == CallKind.early)=NB then #[] else N),e∈p:=by
  intro N he e hx;have:=gV _ _ _ e hx;split at this
  ·simp at this
  ·rcases he with rfl | rfl
   ·simp at this
   ·exact this
 have fin:∀{g g':NF} {N:NJ Pz} {r':QE},r'=.go g' V N->(∀e∈N,e∈p)->g=B->A=y->(B.status=.running->sP Q P O g g') ->
   ∃O I S L,r'=.go I S L/\sP Q P O B I/\WR Q base O y S/\TL/\Eff base Z O w S/\(∀e∈L,iy base O e)/\TL/\wq.drawn<=y.drawn:=by
  intro g g' N r' e0 a9 e1 e2 hg;subst e1;subst e2;exact⟨O,g',V,N,e0,hg C,e4,trivial,b0,λe he=>g6 e (a9 e he),trivial,e8⟩
 unfold Pw;simp only[if_true,OL];rw[a8];generalize T:s.run Q wq=r at c z;generalize l9:s'.run P w=r' at z;cases z with
 | ok A V hN=>
  cases hN with
  | value hv=>
   cases c;exact fin rfl (by simpa using q p (.inr rfl)) rfl rfl λ_=>.k ⟨n.finish hv,t,rfl,rfl,rfl,rfl⟩
  | skip=>
   cases c;exact fin rfl (by simpa using q p (.inr rfl)) rfl rfl λ_=>.k ⟨n.finish (gR O),t,rfl,rfl,rfl,rfl⟩
  | @enter fn a a' e6 ha=>
   cases c;refine fin rfl (by simpa using q p (.inr rfl)) rfl rfl λ_=>enterK H e6 ha n t (.inr U) _
  | round fn h8 e5 a7 ha hc=>
   cases c;refine fin rfl (by simpa using q p (.inr rfl)) rfl rfl λ_=>.k ⟨?_,.cons n t,rfl,rfl,rfl,rfl⟩;exact FP H ((H.same _).1 a7).1 ((H.same _).1 a7).2 h8 e5 ((H.codes _).1 ha) ((H.codes _).1 hc) _
  | defer hd=>
   cases c;exact fin rfl (by simpa using q p (.inr rfl)) rfl rfl λ_=>.k ⟨aG.finish (f:={ f with defers:=_::f.defers }) (f':={ f' with defers:=_::f'.defers }) ⟨n.fn,n.same,n.okf,n.tmps,n.todo,.cons hd n.defers,n.mode,n.kind,n.round⟩ (gR O),t,rfl,rfl,rfl,rfl⟩
  | recover=>
   have hrf:P.follows .rangeFuncRecover=NB:=by
    have:P.toTables.follows .rangeFuncRecover=Q.toTables.follows .rangeFuncRecover:=by rw[H.tables]
    exact this.trans H.rfr
   have Y:∀{X X':NO (Ny × Nu NS)},X=Ou f W->X'=Ou f' M ->
     (match X with
      | some (v,callers)=>Xa { frame:=f.finish v,callers,status:=.running,dying:=Ns } A
      | none=>.go { frame:=f.finish .nilIface,callers:=W,status:=.running,dying:=Ns } A)=.go B y e0 ->
     ∃O I S L,Pm (Wa P f'.fn (if(f'.kind == CallKind.early)=NB then #[] else p)) (match X' with
      | some (v,callers)=>Xa { frame:=f'.finish v,callers,status:=.running,dying:=Ns } V
      | none=>.go { frame:=f'.finish .nilIface,callers:=M,status:=.running,dying:=Ns } V)=.go I S L/\sP Q P O B I/\WR Q base O y S/\TL/\Eff base Z O w S/\(∀e∈L,iy base O e)/\TL/\wq.drawn<=y.drawn:=by
    intro X X' hX b6 c;rcases kK n t with⟨t1,t2⟩ | ⟨v,v',k,k',t1,t2,hv,e9⟩
    ·rw[hX,t1] at c;rw[b6,t2];cases c;exact fin rfl (by simpa using q p (.inr rfl)) rfl rfl λ_=>.k ⟨n.finish .nilIface,t,rfl,rfl,rfl,rfl⟩
    ·rw[hX,t1] at c;rw[b6,t2];cases c;exact fin rfl (by simpa using q p (.inr rfl)) rfl rfl λ_=>.k ⟨n.finish hv,e9,rfl,rfl,rfl,rfl⟩
   dsimp only at c ⊢;rcases n.round with⟨r1,r2⟩ | ⟨i,j,r1,r2,_⟩
   ·rw[r1] at c;rw[r2];exact Y rfl rfl c
   ·rw[r1] at c;rw[r2];exact Y (by simp[H.rfr]) (by simp[hrf]) c
 | panic A V hv=>
  cases c;exact fin rfl (by simpa using q p (.inr rfl)) rfl rfl λ_=>.k ⟨n.raise (.cons ⟨hv,rfl,rfl⟩ .nil),t,rfl,rfl,rfl,rfl⟩
end
end
section
section
variable[JunkSet]{Q P:NR}{Z:Ren}{base D:NA}{wq w:Nt}
def hU:Target->OI
 | .nil=>NB
 | _=>NC
def gZ:FrameMode->OI
 | .panicking _=>NB
 | _=>NC
def vG(H:Duo Q P)(hb:base<=Z.length)(hw:WR Q base Z wq w)(hG:Gl P Z)(ht:cj D wq w){f I:NS}(hf:aG Q P Z f I){cs G:Nu NS}(e8:LsR (aG Q P Z) cs G)(a7:f.mode≠.run){d M:Qa}(hd:fU Z d M):iG Q P base D Z wq w (Qd Q f cs Ns d wq) (Qd P I G Ns M w):=by
 intro B p m3 o hD S U;have hs:SR Q P cQ (invoke d.target d.args) Z (invoke M.target M.args):=ja H.toPair hG hd;unfold Qd at o ⊢;have V:(hU M.target && gZ I.mode)=(hU d.target && gZ f.mode):=by
  have h2:=hf.mode;rcases hd with⟨h1,_⟩ | ⟨h1,_,n,c,h3⟩
  case bound=>rw[h1,h3];rfl
  generalize d.target=t at h1;generalize M.target=t' at h1;generalize f.mode=m at h2;generalize I.mode=m' at h2;cases h1<;>cases h2<;>rfl
 generalize invoke d.target d.args=s at hs o;generalize invoke M.target M.args=s' at hs ⊢;change (if(hU d.target && gZ f.mode)=NB then _ else _)=_ at o;show ∃O W L es,(if(hU M.target && gZ I.mode)=NB then _ else _)=Xa W L es/\_;by_cases hc:(hU d.target && gZ f.mode)=NB
 ·rw[if_pos hc] at o;cases o
 ·rw[if_neg hc] at o;rw[if_neg (by rw[V];exact hc)];simp only[OL] at o ⊢;have⟨e0,b,_⟩:=dc o;have A:jC (s.run Q wq):=by
   cases T:s.run Q wq with
   | ok a w1=>trivial
   | halt h w1=>
    rw[T] at b;cases h with
    | panic v=>rfl
    | goexit=>rfl
    | unsupported u=>cases u<;>first | rfl | (cases b;done)
    | blocked=>cases b;cases S
    | waiting=>cases b;cases S
    | throw m=>simp only[UL,j6,Sk] at b;rw[<- b.1] at U;cases U
    | fatal m=>exact absurd U (bD b)
    | _=>(cases b;done)
  have g6:(rwR (s.run Q wq)).drawn<=D:=by
   cases T:s.run Q wq with
   | ok a w1=>
    rw[T] at b;have:w1=p:=by
     cases a with
     | recover=>
      dsimp only at b
      repeat' split at b
      all_goals(cases b;rfl)
     | coroswitch c e=>cases e<;>cases b
     | alone on v=>cases on<;>cases b
     | _=>first | (cases b;rfl) | cases b
    subst this;exact hD
   | halt h w1=>
    rcases hs.ends hb hw A with⟨a,u,e⟩ | ⟨v,u,e⟩
    ·rw[T] at e;cases e
    ·rw[T] at e;cases e;rw[T] at b;cases b;exact hD
  have⟨O,z,Y,y,x,e5,e4,c9,k7,b6,l5⟩:=SR.runs (es:=#[]) hs hb hw ht g6 A;have hL:=b6.le;have d8:wq.drawn<=z.drawn:=x.world ▸ jf Q s wq;have j:LsR (aG Q P O) cs G:=e8.imp λ_ _ k=>k.mono hL;have l:=hf.mono hL;have a9:s'.events P w #[]=y:=by
   show(s'.runT P w #[]).2=y;rw[e5];simp
  have i:∀e∈Wa P I.fn y,e∈y:=λe he=>gV _ _ _ e he;have fin:∀{g W:NF} {es:NJ Pz} {N:QE},N=.go W Y es->(∀e∈es,e∈y)->g=B->z=p->(B.status=.running->sP Q P O g W) ->
    ∃O C L F,N=.go C L F/\sP Q P O B C/\WR Q base O p L/\TL/\Eff base Z O w L/\(∀e∈F,iy base O e)/\TL/\wq.drawn<=p.drawn:=by
   intro g W es N e0 b0 e1 e2 hg;subst e1;subst e2;exact⟨O,W,Y,es,e0,hg S,c9,trivial,b6,λe he=>e4 e (b0 e he),trivial,d8⟩
  rw[a9];generalize T:s.run Q wq=r at b x;generalize a8:s'.run P w=N at x;cases x with
  | ok z Y hN=>
   cases hN with
   | value hv=>
    cases b;exact fin rfl (by simpa using i) rfl rfl λ_=>.k ⟨l,j,rfl,rfl,rfl,rfl⟩
   | skip=>
    cases b;exact fin rfl (by simpa using i) rfl rfl λ_=>.k ⟨l,j,rfl,rfl,rfl,rfl⟩
   | @enter fn a a' d7 ha=>
    cases b;exact fin rfl (by simpa using i) rfl rfl λ_=>enterK H d7 ha l j (.inl a7) _
   | round fn e9 d6 a6 ha hc=>
    cases b;exact fin rfl (by simpa using i) rfl rfl λ_=>.k ⟨FP H ((H.same _).1 a6).1 ((H.same _).1 a6).2 e9 d6 ((H.codes _).1 ha) ((H.codes _).1 hc) _,.cons l j,rfl,rfl,rfl,rfl⟩
   | defer hd=>
    cases b;exact fin rfl (by simpa using i) rfl rfl λ_=>.k ⟨l,j,rfl,rfl,rfl,rfl⟩
   | recover=>
    have hm:=l.mode;have R:=kK l j;dsimp only at b ⊢;generalize Ou f cs=X at b R;generalize Ou I G=X' at R ⊢;generalize k9:f.mode=m at b hm;generalize h8:I.mode=m' at hm ⊢;have q:Xa { frame:=f,callers:=cs,status:=.running,dying:=Ns } z=.go B p e0->∀{N:QE},N=Pm (Wa P I.fn y) (.go { frame:=I,callers:=G,status:=.running,dying:=Ns } Y) ->
      ∃O C L F,N=.go C L F/\sP Q P O B C/\WR Q base O p L/\TL/\Eff base Z O w L/\(∀e∈F,iy base O e)/\TL/\wq.drawn<=p.drawn:=by
     intro h N a8;cases h;exact fin a8 (by simpa using i) rfl rfl λ_=>.k ⟨l,j,rfl,rfl,rfl,rfl⟩
    cases hm with
    | returning=>
     rcases R with⟨rfl,rfl⟩ | ⟨v,v',k,k',rfl,rfl,hv,d9⟩
     ·exact q b rfl
     ·cases b;exact fin rfl (by simpa using i) rfl rfl λ_=>.k ⟨l,d9,rfl,rfl,rfl,rfl⟩
    | run=>exact q b rfl
    | panicking hl=>exact q b rfl
  | panic z Y hv=>
   cases b;exact fin rfl (by simpa using i) rfl rfl λ_=>.k ⟨l.raise (.cons ⟨hv,rfl,rfl⟩ .nil),j,rfl,rfl,rfl,rfl⟩
def nz{Y M:Type}{R:Rel Y M}(L:base<=Z.length)(hw:WR Q base Z wq w)(ht:cj D wq w)(N:wq.drawn<=D){s:Rw Y}{l:Rw M}(hs:SR Q P R s Z l)(o:(rwR (s.run Q wq)).drawn=wq.drawn){K:SK Y->QE}{K':SK M->QE}{fn z:Pl}(y:∀h u g u' e,odd h=NC->K (.halt h u)=.go g u' e->g.status=.running->g.dying=Ns->RI)(hK:∀O r b W f,Bi R O r b W f->Le Z O->base<=O.length->WR Q base O b f->cj D b f->b.drawn<=D->iG Q P base D O b f (K r) (K' W)) :iG Q P base D Z wq w (Pm (Wa Q fn (s.events Q wq #[])) (K (s.run Q wq))) (Pm (Wa P z (l.events P w #[])) (K' (l.run P w))):=by
 intro T A d9 G hD n x;have⟨e0,S,_⟩:=dc G;have i:jC (s.run Q wq):=by
  cases hr:s.run Q wq with
  | ok a f=>trivial
  | halt h f=>
   rw[hr] at S;cases ho:odd h with
   | true=>exact ho
   | false=>exact(y h f _ _ _ ho S n x).elim
 have⟨O,k,w2,j,c,I,H,C,F,t,c9⟩:=SR.runs (es:=#[]) hs L hw ht (by rw[o];exact N) i;have hL:=t.le;have b6:k.drawn=wq.drawn:=by rw[<- c.world];exact o
 have q:l.events P w #[]=j:=by
  show(l.runT P w #[]).2=j;rw[I];simp
 have⟨V,g',w',U,e1,hg,B,b8,d,p,a6,X⟩:=hK O _ k _ w2 c hL (NM L hL.len) C F (by omega) T A e0 S hD n x;refine⟨V,g',w',Wa P z j++U,?_,hg,B,trivial,t.trans L d,?_,trivial,by omega⟩
 ·rw[q,e1];rfl
 ·intro e v;rcases Rm.1 v with v | v
  ·exact(H e (gV _ _ _ e v)).mono d.le
  ·exact p e v
def nC(z:WR Q base Z wq w)(A:cj D wq w){f L:NS}(I:aG Q P Z f L){B s:Nu NS}(n:LsR (aG Q P Z) B s){v u:Ny}(N:VR Z v u)(b:OI) :iG Q P base D Z wq w (Qg Q NB f B Ns v wq) (Qg P b L s Ns u w):=by
 cases n with
 | nil=>
  intro S M U q V O R;unfold Qg at q;simp only[I.okf] at q;cases hk:f.kind<;>rw[hk] at q<;>cases q
 | @cons c t B s a n=>
  unfold Qg;dsimp only;rw[I.kind];have o:iG Q P base D Z wq w (.go { frame:=c.finish v,callers:=B,status:=.running,dying:=Ns } wq) (.go { frame:=t.finish u,callers:=s,status:=.running,dying:=Ns } w) :=
   bM z A λ_ _=>⟨a.finish N,n,rfl,rfl,rfl,rfl⟩
  cases f.kind with
  | normal=>exact o
  | wrapped=>exact o
  | early=>exact bM z A λ_ _=>⟨a,n,rfl,rfl,rfl,rfl⟩
  | deferred=>
   refine bM z A λ_ _=>⟨?_,n,rfl,rfl,rfl,rfl⟩;dsimp only;have hm:=a.mode;have i:∀{l d:Nu Tu},LsR (ot Z) l d->LsR (ot Z) (l.dropWhile (!·.goexit)) (d.dropWhile (!·.goexit)):=by
    intro l d h;induction h with
    | nil=>exact .nil
    | @cons p x l d j e F=>
     simp only[Xr];rw[j.goexit];split
     ·exact F
     ·exact .cons j e
   cases hmc:c.mode with
   | run=>rw[hmc] at hm;cases hm':t.mode<;>rw[hm'] at hm<;>cases hm;exact a
   | returning=>rw[hmc] at hm;cases hm':t.mode<;>rw[hm'] at hm<;>cases hm;exact a
   | panicking l=>
    rw[hmc] at hm;cases hm':t.mode with
    | run=>rw[hm'] at hm;cases hm
    | returning=>rw[hm'] at hm;cases hm
    | panicking d=>
     rw[hm'] at hm;cases hm with
     | panicking e=>
      cases e with
      | nil=>exact a
      | @cons p x l d j e=>
       obtain⟨v,r,g⟩:=p;obtain⟨u,C,T⟩:=x;obtain⟨H,y,G⟩:=j;dsimp only at H y G;subst y;cases C with
       | false=>exact a
       | true=>
        dsimp only;have:=i e;generalize l.dropWhile (!·.goexit)=k at this;generalize d.dropWhile (!·.goexit)=k' at this;cases this with
        | nil=>exact⟨a.fn,a.same,a.okf,a.tmps,a.todo,a.defers,.returning,a.kind,a.round⟩
        | cons j e=>exact⟨a.fn,a.same,a.okf,a.tmps,a.todo,a.defers,.panicking (.cons j e),a.kind,a.round⟩
  | report=>
   refine bM z A λ_ _=>⟨?_,n,rfl,rfl,rfl,rfl⟩;dsimp only;have hm:=a.mode;have i:∀{l d:Nu Tu},LsR (ot Z) l d->LsR (ot Z) (l.dropWhile (!·.goexit)) (d.dropWhile (!·.goexit)):=by
    intro l d h;induction h with
    | nil=>exact .nil
    | @cons p x l d j e F=>
     simp only[Xr];rw[j.goexit];split
     ·exact F
     ·exact .cons j e
   cases hmc:c.mode with
   | run=>rw[hmc] at hm;cases hm':t.mode<;>rw[hm'] at hm<;>cases hm;exact a
   | returning=>rw[hmc] at hm;cases hm':t.mode<;>rw[hm'] at hm<;>cases hm;exact a
   | panicking l=>
    rw[hmc] at hm;cases hm':t.mode with
    | run=>rw[hm'] at hm;cases hm
    | returning=>rw[hm'] at hm;cases hm
    | panicking d=>
     rw[hm'] at hm;cases hm with
     | panicking e=>
      cases e with
      | nil=>exact a
      | @cons p x l d j e=>
       obtain⟨v,r,g⟩:=p;obtain⟨u,C,T⟩:=x;obtain⟨H,y,G⟩:=j;dsimp only at H y G;subst y;cases C with
       | false=>exact a
       | true=>
        dsimp only;have:=i e;generalize l.dropWhile (!·.goexit)=k at this;generalize d.dropWhile (!·.goexit)=k' at this;cases this with
        | nil=>exact⟨a.fn,a.same,a.okf,a.tmps,a.todo,a.defers,.returning,a.kind,a.round⟩
        | cons j e=>exact⟨a.fn,a.same,a.okf,a.tmps,a.todo,a.defers,.panicking (.cons j e),a.kind,a.round⟩
def mD(H:Duo Q P)(A:Gl P Z)(p:Func){t k:NJ Ny}(h:AsR Z t k):SR Q P VR (Qo p t) Z (Qo p k):=by
 unfold Qo;refine .bnd (R:=AsR) ?_ λO a b l c=>?_
 ·rw[RU,RU];have n:∀(e:Nu ResultVar) (O:Ren),Le Z O->SR Q P (λV=>LsR (VR V)) (e.mapM fun
    | .tmp x=>pure (t.getD x NG)
    | .cell a g=>do XW g (<- Yu (t.getD a NG))) O (e.mapM fun
    | .tmp x=>pure (k.getD x NG)
    | .cell a g=>do XW g (<- Yu (k.getD a NG))):=by
   intro e;induction e with
   | nil=>intro O l;exact ak .nil
   | cons r e v=>
    intro O l;rw[UH,UH];refine .bnd (R:=VR) ?_ λV x y u d=>.bnd (v V (l.trans u)) λU a b q c=>ak (.cons (d.mono q) c);cases r with
    | tmp x=>exact ak ((h.mono l).getD x (gR O))
    | cell a g=>exact .bnd (ug H.tables (A.mono l) ((h.mono l).getD a (gR O))) λU x y _ d=>by obtain⟨i,j,o,s,rfl,rfl,z⟩:=d;exact qS H.tables z
  exact SR.bnd (S:=AsR) (f:=λl=>pure l.toArray) (f':=λl=>pure l.toArray) (n p.results.toList Z (.refl Z)) λO a b l c=>ak (bP.2 (by simpa using c))
 ·refine ak ?_;have C:=c.1;split
  ·rename_i B
   rw[dif_pos (by omega)];exact c.2 0 _ _ (Om _) (Om _)
  ·rename_i B
   rw[dif_neg (by omega)];exact c.tuple
def Dry{Y:Type}:Rw Y->Prop
 | .pure _=>TL
 | .load _ _ k=>∀v,Dry (k v)
 | .store _ _ _ k=>Dry k
 | .new _ k=>∀r,Dry (k r)
 | .shape _ k=>∀x,Dry (k x)
 | .freeze _ _ k=>Dry k
 | .frozen _ k=>∀b,Dry (k b)
 | .getObj _ k=>∀o,Dry (k o)
 | .setObj _ _ k=>Dry k
 | .choose _ _=>RI
 | .sys _ _=>RI
 | .program k=>∀p,Dry (k p)
 | .mark _ k=>Dry k
 | .halt _=>TL
def Dry.bind{Y W:Type}{s:Rw Y}{f:Y->Rw W}(h:Dry s)(d:∀a,Dry (f a)):Dry (s>>=f):=by
 show Dry (s.bind f);induction s with
 | pure a=>exact d a
 | load m a k b=>exact λv=>b v (h v)
 | store m a v k b=>exact b h
 | new o k b=>exact λv=>b v (h v)
 | shape r k b=>exact λv=>b v (h v)
 | freeze a n k b=>exact b h
 | frozen a k b=>exact λv=>b v (h v)
 | getObj r k b=>exact λv=>b v (h v)
 | setObj r o k b=>exact b h
 | choose q k b=>exact h.elim
 | sys c k b=>exact h.elim
 | program k b=>exact λp=>b p (h p)
 | mark m k b=>exact b h
 | halt x=>trivial
def Dry.run{Y:Type}(p:NR){s:Rw Y}:∀{w:Nt},Dry s->(rwR (s.run p w)).drawn=w.drawn:=by
 induction s with
 | pure a=>intro w h;rfl
 | load m a k b=>
  intro w h;simp only[Pr];split
  ·exact b _ (h _)
  ·split
   ·exact b _ (h _)
   ·rfl
 | store m a v k b=>
  intro w h;have d:(rwR (match w.cell? a with
     | some _=>if w.frozen? a then(.halt (.unsupported (.unsafePointer "a write to bytes that a string shares")) w:SK Y) else k.run p (w.setCell a v)
     | none=>match w.farStore p a v (m == .atomic) with
      | .ok (w,_)=>k.run p w
      | .error h=>.halt h w)).drawn=w.drawn:=by
   split
   ·split
    ·rfl
    ·exact b (w:=w.setCell a v) h
   ·split
    ·rename_i i t e
     rw[b h];unfold TR at e;split at e
     ·split at e
      ·rename_i r g
       cases e;exact kq _ _ _ _ _ _ _ g
      ·cases e
     ·cases e
    ·rfl
  cases v<;>first | exact d | rfl
 | new o k b=>intro w h;exact b _ (w:={ w with heap:=w.heap.push o }) (h _)
 | shape r k b=>intro w h;exact b _ (h _)
 | freeze a n k b=>
  intro w h;refine(b (w:=w.freeze a n) h).trans ?_;unfold XU;split<;>rfl
 | frozen a k b=>intro w h;exact b _ (h _)
 | getObj r k b=>
  intro w h;simp only[Pr];cases ho:w.heap[r]? with
  | none=>rfl
  | some o=>cases o<;>first | exact b _ (h _) | rfl
 | setObj r o k b=>
  intro w h;simp only[Pr];cases ho:w.heap[r]? with
  | none=>rfl
  | some f=>cases f<;>first | exact b (w:={ w with heap:=w.heap.setIfInBounds r o }) h | rfl
 | choose q k b=>intro w h;exact h.elim
 | sys c k b=>intro w h;exact h.elim
 | program k b=>intro w h;exact b _ (h _)
 | mark m k b=>intro w h;exact b h
 | halt x=>intro w h;rfl
end
end
section
section
variable[JunkSet]{Q P:NR}{Z:Ren}{base D:NA}{wq w:Nt}
def sh(t:NZ):Dry (Rr t):=λp=>by
 show Dry (match p.underlying t with | some d=>pure d | none=>stuck "no such type");split<;>trivial
def wL(t:NZ):Dry (RV t):=λp=>by
 show Dry (match p.info? t with | some d=>pure d | none=>stuck "no such type");split<;>trivial
def od(a:OX):∀(n i:NA) (b:NJ Ny),Dry (Vi a i n b):=by
 intro n;induction n with
 | zero=>intro i b;trivial
 | succ n c=>intro i b;exact λv=>c _ _
def zn(t:NZ)(a:OX):Dry (XW t a):=by
 refine Dry.bind (Dry.bind (sh t) λd=>?_) λb=>?_
 ·split<;>trivial
 ·split
  ·exact Dry.bind (Dry.bind (wL t) λi=>trivial) λn=>Dry.bind (od _ _ _ _) λ_=>trivial
  ·exact λv=>trivial
def AW(v:Ny):Dry (Yu v):=by
 unfold Yu;split
 ·trivial
 ·exact λp=>trivial
 ·trivial
def pP(h:Func)(t:NJ Ny):Dry (Qo h t):=by
 unfold Qo;refine Dry.bind ?_ λe=>trivial;rw[RU];have c:∀b:Nu ResultVar,Dry (b.mapM fun
    | .tmp x=>pure (t.getD x NG)
    | .cell a d=>do XW d (<- Yu (t.getD a NG))):=by
  intro b;induction b with
  | nil=>trivial
  | cons r b g=>
   rw[UH];refine Dry.bind ?_ λv=>Dry.bind g λe=>trivial;cases r with
   | tmp x=>trivial
   | cell a d=>exact Dry.bind (AW _) λa=>zn _ _
 exact Dry.bind (f:=λl=>pure l.toArray) (c _) λl=>trivial
def lz(l:NA):Dry (XA l):=λo=>by cases o<;>trivial
def Ho(b:NA):Dry (VJ b):=λo=>by
 cases o with
 | deferred c=>cases c<;>trivial
 | _=>trivial
def wM(l:NA)(j:NO Qs):Dry (QR l j):=Dry.bind (lz l) λr=>trivial
def zo(l:NA):Dry (XC l):=Dry.bind (lz l) λr=>by
 dsimp only;split
 ·exact Dry.bind (s:=RE _) (λp=>trivial) λ_=>trivial
 ·trivial
def tz(f:Pl)(t:NJ Ny)(c:NJ Tmp)(a b:Qs)(r:NO NA):Dry (Uo f t c a b r):=by
 unfold Uo;cases r with
 | none=>exact λ_ _=>trivial
 | some l=>exact Dry.bind (lz l) λr _=>trivial
def BC{i j:NA}(h:BR Z i j):SR Q P (λO=>LsR (fU O)) (VJ i) Z (VJ j):=by
 refine .bnd (ec h) λO o d l b=>?_;cases b with
 | deferred c=>exact .bnd (ea (h.mono l) .deferredNone) λV _ _ a _=>ak (c.imp λ_ _ k=>k.mono a)
 | _=>exact au
def pq{i j:NA}(h:BR Z i j){c:NO Qs}(b:∀x,c=Nq x->JunkSet.okc x):SR Q P VR (QR i c) Z (QR j c):=by
 refine .bnd (ff h) λO r d l a=>.bnd (ea (h.mono l) (.loop ?_)) λV _ _ _ _=>ak (.bool _);exact⟨rfl,rfl,a.fn,a.tmps,a.params,a.assign,a.body,a.defers,a.okF,a.okA,a.okB,b⟩
def mf(H:Duo Q P)(c:Gl P Z){i j:NA}(h:BR Z i j):SR Q P (λ_ _ _=>TL) (Wi i) Z (Wi j):=by
 refine .bnd (ff h) λO r d l a=>.bnd (ea (h.mono l) (.loop ⟨rfl,a.pending,a.fn,a.tmps,a.params,a.assign,a.body,a.defers,a.okF,a.okA,a.okB,a.okP⟩)) λV _ _ b _=>?_;rw[a.state];cases r.state with
 | ready=>exact ak trivial
 | _=>exact aH H.tables (c.mono (l.trans b)) _
def qX(H:Duo Q P)(e:Gl P Z){i j:NA}(h:BR Z i j):SR Q P (λ_ a b=>b=a/\∀x,a=Nq x->JunkSet.okc x) (XC i) Z (XC j):=by
 refine .bnd (ff h) λO r f l c=>?_;dsimp only;rw[c.state];refine aO (λ_=>.bnd (R:=λ_ _ _=>RI) (aH H.tables (e.mono l) _) λ_ _ _ _ d=>d.elim) λ_=>?_;refine .bnd (ea (h.mono l) (.loop ⟨rfl,c.pending,c.fn,c.tmps,c.params,c.assign,c.body,c.defers,c.okF,c.okA,c.okB,c.okP⟩)) λV _ _ g _=>?_;exact ak ⟨c.pending,c.okP⟩
def np(f:Pl)(A:JunkSet.okg f){t g:NJ Ny}(v:AsR Z t g)(e:NJ Tmp){a b:Qs}(C:JunkSet.okc a)(p:JunkSet.okc b){r s:NO NA}(z:OBR Z r s) :SR Q P (λO x y=>BR O x.1 y.1/\LsR (fU O) x.2 y.2) (Uo f t e a b r) Z (Uo f g e a b s):=by
 unfold Uo;have fin:∀(O:Ren) {d q:NA} {m n:Nu Qa},Le Z O->BR O d q->LsR (fU O) m n->SR Q P (λO (x y:NA × Nu Qa)=>BR O x.1 y.1/\LsR (fU O) x.2 y.2)
   (do pure (<- YT (.loop { state:=.ready,pending:=Ns,fn:=f,tmps:=t,params:=e,assign:=a,body:=b,defers:=d }),m)) O
   (do pure (<- YT (.loop { state:=.ready,pending:=Ns,fn:=f,tmps:=g,params:=e,assign:=a,body:=b,defers:=q }),n)):=λO d q m n l B hm=>
  .bnd (qR (.loop ⟨rfl,rfl,rfl,v.mono l,rfl,rfl,rfl,B,A,C,p,λx h=>by cases h⟩)) λV i j u c=>ak ⟨c,hm.imp λ_ _ k=>k.mono u⟩
 rcases z with⟨rfl,rfl⟩ | ⟨i,j,rfl,rfl,p⟩
 ·exact .bnd (qR (.deferred .nil)) λO i j l c=>fin O l c (.cons (.mk (.collected c) .nil) .nil)
 ·exact .bnd (ff p) λO x y l o=>fin O l o.defers .nil
end
end
section
section
variable[JunkSet]{Q P:NR}{Z:Ren}{base D:NA}{wq w:Nt}
def qY(H:Duo Q P)(hb:base<=Z.length)(hw:WR Q base Z wq w)(hG:Gl P Z)(ht:cj D wq w)(a6:wq.drawn<=D){f f':NS}(q:aG Q P Z f f'){cs G:Nu NS}(B:LsR (aG Q P Z) cs G)(U:f.mode≠.run)(b:OI) :iG Q P base D Z wq w (SS Q NB f cs Ns wq) (SS P b f' G Ns w):=by
 have N:=q.defers;unfold SS;generalize h8:f.defers=ds at N;generalize e4:f'.defers=I at N;cases N with
 | @cons d d' ds I hd X=>
  obtain⟨t,a⟩:=d;obtain⟨t',a'⟩:=d';have c8:aG Q P Z { f with defers:=ds } { f' with defers:=I }:=⟨q.fn,q.same,q.okf,q.tmps,q.todo,X,q.mode,q.kind,q.round⟩;have o:iG Q P base D Z wq w (Qd Q { f with defers:=ds } cs Ns ⟨t,a⟩ wq) (Qd P { f' with defers:=I } G Ns ⟨t',a'⟩ w) :=
   vG H hb hw hG ht c8 B U hd
  rcases id hd with⟨T,_⟩ | ⟨h1,_,n,c,h3⟩
  case bound=>
   dsimp only at h1 h3;subst h1;subst h3;exact o
  dsimp only at T;cases T with
  | @collected i j c3=>
   dsimp only;simp only[OL];refine nz hb hw ht a6 (BC c3) (Dry.run Q (Ho i)) (K:=λr=>match r with
    | .ok A w=>.go { frame:={ f with defers:=A++ds },callers:=cs,status:=.running,dying:=Ns } w
    | .halt _ w=>.ended (.stuck "the deferred calls of a range-over-func loop have been taken" (f.pos Q)) w) (K':=λr=>match r with
    | .ok A w=>.go { frame:={ f' with defers:=A++I },callers:=G,status:=.running,dying:=Ns } w
    | .halt _ w=>.ended (.stuck "the deferred calls of a range-over-func loop have been taken" (f'.pos P)) w) (λh u g u' e _ hk _ _=>by cases hk) ?_
   intro O r C r' S hr l d6 L M _;cases hr with
   | ok C S d5=>
    have p:=q.mono l;exact bM L M λ_ _=>⟨⟨p.fn,p.same,p.okf,p.tmps,p.todo,d5.append (X.imp λ_ _ k=>k.mono l),p.mode,p.kind,p.round⟩,B.imp λ_ _ k=>k.mono l,rfl,rfl,rfl,rfl⟩
   | panic C S hv=>exact cq
  | fn h1 h2=>exact o
  | meth n h=>exact o
  | nil=>exact o
  | builtin x y z c h=>exact o
 | nil=>
  dsimp only;have hm:=q.mode;have⟨gf,V,W⟩:=q.same;generalize g8:f.mode=m at hm;generalize d9:f'.mode=m' at hm;cases hm with
  | run=>exact cq
  | panicking hl=>
   dsimp only;have Y:f.catches Q=NC:=by unfold Wc;rw[V]
   have R:f'.catches P=NC:=by unfold Wc;rw[q.fn,W]
   rw[Y,R];simp only[OJ,if_false];cases B with
   | cons hc B=>exact bM hw ht λ_ _=>⟨hc.raise hl,B,rfl,rfl,rfl,rfl⟩
   | nil=>
    intro k0 e9 k5 F hD b7 c9;exfalso;dsimp only at F
    repeat' split at F
    all_goals first
     | (cases F;done)
     | (cases F;cases b7;done)
     | (cases F;cases c9;done)
  | returning=>
   dsimp only;rw[q.fn,V,W];dsimp only;simp only[OL];refine nz hb hw ht a6 (mD H hG gf q.tmps) (Dry.run Q (pP gf _)) (K:=λr=>match r with
    | .ok v w=>Qg Q NB f cs Ns v w
    | .halt (.stuck s) w=>.ended (.stuck s (f.pos Q)) w
    | .halt _ w=>.ended (.stuck "return: the result variables cannot be read" (f.pos Q)) w) (K':=λr=>match r with
    | .ok v w=>Qg P b f' G Ns v w
    | .halt (.stuck s) w=>.ended (.stuck s (f'.pos P)) w
    | .halt _ w=>.ended (.stuck "return: the result variables cannot be read" (f'.pos P)) w) (λh u g u' e _ hk _ _=>by cases h<;>cases hk) ?_
   intro O r C r' S hr l d6 L M _;cases hr with
   | ok C S hv=>exact nC L M (q.mono l) (B.imp λ_ _ k=>k.mono l) hv b
   | panic C S hv=>exact cq
def rJ:NO Qs->OI
 | none | some .ret=>NB
 | _=>NC
def lJ(H:Duo Q P)(U:base<=Z.length)(G:WR Q base Z wq w)(L:cj D wq w)(C:wq.drawn<=D){f f':NS}(a:aG Q P Z f f'){q c:Nu NS}(n:LsR (aG Q P Z) q c)(b:OI){j:NO Qs}(S:∀x,j=Nq x->aK Q x){s o:String} :
  iG Q P base D Z wq w (match f.roundOf with
   | none=>if rJ j=NB then .go { frame:={ f with mode:=.returning },callers:=q,status:=.running,dying:=Ns } wq else .ended (.stuck s (f.pos Q)) wq
   | some l=>
    let (r,es):=(QR l j).runT Q wq #[]
    Pm (Wa Q f.fn es) <| match r with
    | .ok v w=>Qg Q NB f q Ns v w
    | .halt _ w=>.ended (.stuck o (f.pos Q)) w) (match f'.roundOf with
   | none=>if rJ j=NB then .go { frame:={ f' with mode:=.returning },callers:=c,status:=.running,dying:=Ns } w else .ended (.stuck s (f'.pos P)) w
   | some l=>
    let (r,es):=(QR l j).runT P w #[]
    Pm (Wa P f'.fn es) <| match r with
    | .ok v w=>Qg P b f' c Ns v w
    | .halt _ w=>.ended (.stuck o (f'.pos P)) w):=by
 rcases a.round with⟨y,t⟩ | ⟨i,k,y,t,B⟩
 ·rw[y,t];dsimp only;by_cases p:rJ j=NB
  ·rw[if_pos p,if_pos p];exact bM G L λ_ _=>⟨⟨a.fn,a.same,a.okf,a.tmps,a.todo,a.defers,.returning,a.kind,.inl ⟨rfl,rfl⟩⟩,n,rfl,rfl,rfl,rfl⟩
  ·rw[if_neg p,if_neg p];exact cq
 ·rw[y,t];dsimp only;simp only[OL];refine nz U G L C (pq B λx M=>(H.codes x).2 (S x M)) (Dry.run Q (wM i j)) (K:=λr=>match r with
    | .ok v w=>Qg Q NB f q Ns v w
    | .halt _ w=>.ended (.stuck o (f.pos Q)) w) (K':=λr=>match r with
    | .ok v w=>Qg P b f' c Ns v w
    | .halt _ w=>.ended (.stuck o (f'.pos P)) w) (λh u g V e _ R _ _=>by cases R) ?_
  intro O r d W F N l T z A _;cases N with
  | ok d F I=>exact nC z A (a.mono l) (n.imp λ_ _ k=>k.mono l) I b
  | panic d F I=>exact cq
def aG.withTodo{f f':NS}(a:aG Q P Z f f'){k b:Nu Si}(c:LsR (bR Q Z) k b):aG Q P Z { f with todo:=k } { f' with todo:=b } :=
 ⟨a.fn,a.same,a.okf,a.tmps,c,a.defers,a.mode,a.kind,a.round⟩
def ku{i j:NA}(h:BR Z i j){d c:Qa}(g:fU Z d c):SR Q P (λ_ _ _=>TL) (XM i d) Z (XM j c):=by
 refine .bnd (ff h) λO r k l b=>?_;refine .bnd (ec b.defers) λV o n a e=>?_;cases e with
 | deferred f=>exact(ea (b.defers.mono a) (.deferred (.cons (g.mono (l.trans a)) f))).imp λ_ _ _ _ _=>trivial
 | deferredNone=>exact Fp
 | _=>exact au
def oM(p:NR)(u:Nt)(f i:NA):(choose (.order f i)).run p u=.ok (u.tape u.drawn (.order f i)) { u with drawn:=u.drawn+1 }:=rfl
def FH(H:Duo Q P)(hb:base<=Z.length)(L:WR Q base Z wq w)(hG:Gl P Z)(S:cj D wq w)(M:wq.drawn<=D){f f':NS}(B:aG Q P Z f f'){cs N:Nu NS}(s:LsR (aG Q P Z) cs N)(b:OI) :iG Q P base D Z wq w (Re Q NB NB f cs Ns wq) (Re P b NB f' N Ns w):=by
 obtain⟨fn,tmps,e8,defers,mode,kind,ro⟩:=f;obtain⟨p,tmps',c3,defers',mode',kind',C⟩:=f';have g7:=B.todo;have b6:∀x,aR Q x->VR Z (Te ⟨fn,tmps,e8,defers,mode,kind,ro⟩ x) (Te ⟨p,tmps',c3,defers',mode',kind',C⟩ x):=λx hx=>B.eval hG H.gsize hx;have q:∀{k k':Nu Si},LsR (bR Q Z) k k'->iG Q P base D Z wq w (.go { frame:=⟨fn,tmps,k,defers,mode,kind,ro⟩,callers:=cs,status:=.running,dying:=Ns } wq) (.go { frame:=⟨p,tmps',k',defers',mode',kind',C⟩,callers:=N,status:=.running,dying:=Ns } w) :=
  λz=>bM L S λ_ _=>⟨B.withTodo z,s,rfl,rfl,rfl,rfl⟩
 unfold Re;dsimp only;dsimp only at g7;cases g7 with
 | nil=>exact lJ H hb L S M B s b (j:=Ns) (λx h=>by cases h)
 | @cons x x' k k' hx z=>
  cases hx with
  | @code c hc=>
   cases hc with
   | skip=>exact q z
   | label n=>exact q z
   | ret=>exact lJ H hb L S M B s b (j:=Nq .ret) (λx h=>by cases h;exact .ret)
   | seq h1 h2=>exact q (.cons (.code h1) (.cons (.code h2) z))
   | @cond c x y h0 h1 h2=>
    dsimp only;have:=b6 _ h0;revert this;generalize Te _ c=v;generalize Te _ c=v';intro this;cases this with
    | bool t=>cases t<;>exact q (.cons (.code (by assumption)) z)
    | _=>exact cq
   | block h=>exact q (.cons (.code h) (.cons (.inBlock _) z))
   | loop h=>exact q (.cons (.code h) (.cons (.inLoop h) z))
   | scope h=>exact q (.cons (.code h) (.cons (.inScope h) z))
   | exit id=>
    dsimp only;rcases AT (id:=id) z with⟨e1,e2⟩ | ⟨m,m',e1,e2,hm⟩
    ·rw[e1,e2];exact lJ H hb L S M B s b (j:=Nq (.exit id)) (λx h=>by cases h;exact .exit id)
    ·rw[e1,e2];exact q hm
   | goto n=>
    dsimp only;rcases AM (j:=n) z with⟨e1,e2⟩ | ⟨m,m',e1,e2,hm⟩
    ·rw[e1,e2];exact lJ H hb L S M B s b (j:=Nq (.goto n)) (λx h=>by cases h;exact .goto n)
    ·rw[e1,e2];exact q hm
   | @region id F d I=>
    dsimp only;cases d with
    | false=>exact q (.cons (.inRegion _ I) z)
    | true=>
     simp only[Uj,OJ,if_false];rw[oM,oM];dsimp only;intro n8 m6 n9 e hD n3 n6;cases e;have Y:=B.fn;dsimp only at Y hD;subst Y;have e9:=S 0 (.order p id) (by omega);simp only[Nat.add_zero] at e9;have l6:P.follows .mixedOrders=Q.follows .mixedOrders:=by
      show P.toTables.follows .mixedOrders=Q.toTables.follows .mixedOrders;rw[H.tables]
     have⟨l4,l8⟩:=L.draw;refine⟨Z,_,_,#[],rfl,.k ⟨?_,s,rfl,rfl,rfl,rfl⟩,l4,trivial,l8,by simp,trivial,by simp only;omega⟩;rw[l6,e9];exact B.withTodo (.cons (.inRegion _ I) z)
   | @rangeFunc c ps a bd h0 h1 h2=>
    have Y:=B.fn;dsimp only at Y ⊢;subst Y;simp only[OL];refine nz hb L S M (np (Q:=Q) (P:=P) p ((H.same p).2 ⟨B.same,B.okf⟩) B.tmps ps ((H.codes a).2 h1) ((H.codes bd).2 h2) B.round) (Dry.run Q (tz p tmps ps a bd ro)) (K:=λr=>match r with
     | .ok (l,mark) w=>Pw Q NB ⟨p,tmps,.inRangeFunc l::k,mark++defers,mode,kind,ro⟩ cs Ns (do let d <- resolve (Te ⟨p,tmps,.inRangeFunc l::k,mark++defers,mode,kind,ro⟩) { callee:=.value c,args:=#[.const (.func (.yield l) #[] #[])],argTypes:=#[] } 0;invoke d.target d.args) w
     | .halt _ w=>.ended (.stuck "range over a function: no such loop" (YC Q ⟨p,tmps,.code (.rangeFunc c ps a bd)::k,defers,mode,kind,ro⟩)) w) (K':=λr=>match r with
     | .ok (l,mark) w=>Pw P NB ⟨p,tmps',.inRangeFunc l::k',mark++defers',mode',kind',C⟩ N Ns (do let d <- resolve (Te ⟨p,tmps',.inRangeFunc l::k',mark++defers',mode',kind',C⟩) { callee:=.value c,args:=#[.const (.func (.yield l) #[] #[])],argTypes:=#[] } 0;invoke d.target d.args) w
     | .halt _ w=>.ended (.stuck "range over a function: no such loop" (YC P ⟨p,tmps',.code (.rangeFunc c ps a bd)::k',defers',mode',kind',C⟩)) w) (λh u g u' e ho z _ _=>by cases z) ?_
    intro O r T r' w1 hr l g8 a9 b0 _;cases hr with
    | panic T w1 hv=>exact cq
    | @ok x y T w1 hv=>
     obtain⟨i,m⟩:=x;obtain⟨i',m'⟩:=y;obtain⟨d9,hm⟩:=hv;dsimp only at d9 hm ⊢;have A:=B.mono l;have l7:aG Q P O ⟨p,tmps,.inRangeFunc i::k,m++defers,mode,kind,ro⟩ ⟨p,tmps',.inRangeFunc i'::k',m'++defers',mode',kind',C⟩ :=
      ⟨A.fn,A.same,A.okf,A.tmps,.cons (.inRangeFunc d9) (z.imp λ_ _ k=>k.mono l),hm.append A.defers,A.mode,A.kind,A.round⟩
     refine lK H g8 a9 b0 l7 (s.imp λ_ _ k=>k.mono l) (by intro x l h;cases h) (SR.sm ?_);have hy:AsR O #[Value.func (Fn.yield i) #[] #[]] #[Value.func (Fn.yield i') #[] #[]] :=
      AsR.one (.func (a:=#[]) (a':=#[]) (c:=#[]) (c':=#[]) (.yield d9) rfl (λi x y hx=>by simp at hx) rfl (λi x y hx=>by simp at hx))
     have g5:∀(e:OQ->Ny) (v:Ny),#[Operand.const v].map e=#[e (.const v)]:=λe v=>by simp
     refine .bnd (R:=fU) (mF H.toPair ((b6 _ h0).mono l) (by rw[g5,g5];exact hy)) λV d d' l' hd=>ja H.toPair (hG.mono (l.trans l')) hd
  | inBlock id=>exact q z
  | inScope h=>exact q z
  | inLoop h=>exact q (.cons (.code h) (.cons (.inLoop h) z))
  | @inRegion F l I=>
   cases l with
   | nil=>exact q z
   | cons i l=>
    dsimp only;have k9:PH F tmps'=PH F tmps:=funext λj=>zK F B.tmps j;rw[k9];by_cases hc:((F[i]?).map (Oy · (PH F tmps))).getD NC=NB
    ·rw[if_pos hc,if_pos hc];unfold Va Frame.oper?;dsimp only;cases ho:F[i]? with
     | none=>exact cq
     | some o=>
      dsimp only;have d5:=I o (by rw[QC];exact PR ho);have X:=lK H hb L S B s (by intro x l h;cases h) (uj H.toPair b6 hG L.nodup (λv=>rfl) d5);rcases B.round with⟨W,U⟩ | ⟨a,b',W,U,d6⟩
      ·dsimp only at W U;subst W;subst U;exact X
      ·dsimp only at W U;subst W;subst U;by_cases a6:∃c,o.op=.defer c
       ·obtain⟨c,a6⟩:=a6;rw[a6] at d5 ⊢;dsimp only;refine lK H hb L S B s (by intro x l h;cases h) (SR.sm ?_);cases d5 with
        | defer d8=>
         exact .bnd (jK H.toPair b6 d8 _) λO d d' l hd=>.bnd (ku (d6.mono l) hd) λV _ _ _ _=>ak .skip
       ·split
        ·rename_i e1 e2
         exact absurd ⟨_,e2⟩ a6
        ·split
         ·rename_i e1 e2
          exact absurd ⟨_,e2⟩ a6
         ·exact X
    ·rw[if_neg hc,if_neg hc];exact bM L S λ_ _=>⟨B.finish (gR Z),s,rfl,rfl,rfl,rfl⟩
  | inRangeFunc h=>exact cq
  | @endRangeFunc i j h=>
   dsimp only;simp only[OL];refine nz hb L S M (qX H hG h) (Dry.run Q (zo i)) (K:=λr=>match r with
    | .ok G w=>.go { frame:=⟨fn,tmps,(G.map Item.code).toList++k,defers,mode,kind,ro⟩,callers:=cs,status:=.running,dying:=Ns } w
    | .halt (.panic v) w=>.go { frame:=WZ ⟨fn,tmps,.endRangeFunc i::k,defers,mode,kind,ro⟩ [{ v,recovered:=NC }],callers:=cs,status:=.running,dying:=Ns } w
    | .halt _ w=>.ended (.stuck "range over a function: no such loop" (YC Q ⟨fn,tmps,.endRangeFunc i::k,defers,mode,kind,ro⟩)) w) (K':=λr=>match r with
    | .ok G w=>.go { frame:=⟨p,tmps',(G.map Item.code).toList++k',defers',mode',kind',C⟩,callers:=N,status:=.running,dying:=Ns } w
    | .halt (.panic v) w=>.go { frame:=WZ ⟨p,tmps',.endRangeFunc j::k',defers',mode',kind',C⟩ [{ v,recovered:=NC }],callers:=N,status:=.running,dying:=Ns } w
    | .halt _ w=>.ended (.stuck "range over a function: no such loop" (YC P ⟨p,tmps',.endRangeFunc j::k',defers',mode',kind',C⟩)) w) (λh u g u' e ho z _ _=>by cases h<;>first | (cases ho;done) | cases z) ?_
   intro O r T r' w1 hr l g8 a9 b0 _;have A:=B.mono l;have b9:=s.imp λ_ _ k=>aG.mono l k;have g6:=z.imp λ_ _ k=>bR.mono l k;cases hr with
   | @ok G c8 T w1 hv=>
    obtain⟨hj,d7⟩:=hv;subst hj;refine bM a9 b0 λ_ _=>⟨A.withTodo ?_,b9,rfl,rfl,rfl,rfl⟩;cases c8 with
    | none=>exact g6
    | some c=>exact .cons (.code ((H.codes c).1 (d7 c rfl))) g6
   | panic T w1 hv=>exact bM a9 b0 λ_ _=>⟨A.raise (.cons ⟨hv,rfl,rfl⟩ .nil),b9,rfl,rfl,rfl,rfl⟩
  | beginRound=>
   dsimp only;refine lK H hb L S B s (by intro x l h;cases h) (SR.sm ?_);refine .bnd (R:=λ_ _ _=>TL) ?_ λO _ _ _ _=>ak .skip;rcases B.round with⟨W,U⟩ | ⟨i,j,W,U,d6⟩
   ·dsimp only at W U;rw[W,U];exact au
   ·dsimp only at W U;rw[W,U];exact mf H hG d6
def uk(H:Duo Q P)(i:base<=Z.length)(f:WR Q base Z wq w)(j:Gl P Z)(h:cj D wq w)(a:wq.drawn<=D){g k:NF}(t:ir Q P Z g k)(b:OI) :iG Q P base D Z wq w (Pj Q NB g wq NB) (Pj P b k w NB):=by
 obtain⟨x,F,A,C,s⟩:=g;obtain⟨l,z,r,y,n⟩:=k;obtain⟨d,e,v,u,q,p⟩:=t;dsimp only at d e v u q p;subst q;subst p;have hm:=d.mode;unfold Pj;dsimp only;generalize c:x.mode=m at hm;generalize o:l.mode=m' at hm;cases hm with
 | run=>exact FH H i f j h a d e b
 | returning=>exact qY H i f j h a d e (by rw[c];simp) b
 | panicking B=>exact qY H i f j h a d e (by rw[c];simp) b
def FG(H:Duo Q P)(z:base<=Z.length)(t:WR Q base Z wq w)(A:Gl P Z)(u:cj D wq w)(r:wq.drawn<=D){g s:NF}(x:ir Q P Z g s)(b:OI) :∀d i n,Pj Q NB g wq NB=.go d i n->i.drawn<=D->d.status=.running->d.dying=Ns->Q.funcs[d.frame.fn]?=P.funcs[d.frame.fn]? ->∃O j o p,Pj P b s w NB=.go j o p/\ir Q P O d j/\WR Q base O i o/\TL/\Eff base Z O w o/\(∀e∈p,iy base O e)/\TL/\wq.drawn<=i.drawn:=by
 intro d i n e B v y l;have⟨O,j,o,p,G,F,C⟩:=uk H z t A u r x b d i n e B v y;refine⟨O,j,o,p,G,?_,C⟩;rcases F with⟨_,h⟩ | ⟨f,k,a,N,c,M,L,I,q,_,rfl,_⟩
 ·exact h
 ·exact absurd l q
end
end
end Go.Sim
section
namespace Go
def World.tp(w:Nt)(T:NA->Qe->NA):Nt:={ w with tape:=T }
end Go
namespace Go.Sim
def tpR{Y:Type}(T:NA->Qe->NA):SK Y->SK Y
 | .ok a w=>.ok a (w.tp T)
 | .halt h w=>.halt h (w.tp T)
def CC(T:NA->Qe->NA)(w:Nt)(n:NA):Prop:=∀k q,w.drawn<=k->k<n->T k q=w.tape k q
def Knows{Y:Type}(Q:NR)(s:Rw Y)(w:Nt):Prop :=
 (rwR (s.run Q w)).tape=w.tape/\∀T,CC T w (rwR (s.run Q w)).drawn->s.run Q (w.tp T)=tpR T (s.run Q w)
section
variable[JunkSet]{Q P:NR}{base:NA}
def SR.knows{Y M:Type}{R:Rel Y M}{s:Rw Y}:∀{Z:Ren} {C:Rw M} {wq w:Nt},SR Q P R s Z C->base<=Z.length->WR Q base Z wq w->jC (s.run Q wq)->Knows Q s wq:=by
 induction s with
 | pure a=>intro Z C wq w h t g b;exact⟨rfl,λT _=>rfl⟩
 | load m a k y=>
  intro Z C wq w h t g b;rcases h with d | ⟨rfl,j,H,rfl,p,z⟩
  ·exact absurd b (Bad.not_fine g.nopend d)
  have e0:∀T,(wq.tp T).cell? a=wq.cell? a:=λT=>rfl;unfold Knows;simp only[Pr,e0] at b ⊢;cases hc:wq.cell? a with
  | none=>
   rw[hc] at b;simp only[Xx] at b;split at b
   ·rename_i G
    split at G
    ·rename_i B
     exact absurd B (g.noview p _ _)
    ·cases G
   ·rename_i G
    split at G
    ·rename_i B
     exact absurd B (g.noview p _ _)
    ·cases G;exact absurd b (eh g.nopend _ _ _)
  | some v=>
   have⟨v',B,U⟩:=g.cell p hc;rw[hc] at b;exact y v (z v v' U) t g b
 | store m a v k y=>
  intro Z C wq w h t g b;rcases h with d | ⟨rfl,j,v',H,rfl,p,G,z⟩
  ·exact absurd b (Bad.not_fine g.nopend (s:=.store m a v k) d)
  have N:(∃x,v=.agg x)\/(∃x,v=.tuple x)\/((∀x,v≠.agg x)/\∀x,v≠.tuple x):=by
   cases v<;>simp
  rcases N with⟨x,rfl⟩ | ⟨x,rfl⟩ | ⟨a6,X⟩
  ·simp only[Pr] at b;exact absurd b (λh=>by cases h)
  ·simp only[Pr] at b;exact absurd b (λh=>by cases h)
  ·have e1:∀u:Nt,(Yt .plain a v k).run Q u=match u.cell? a with
     | some _=>if u.frozen? a then .halt (.unsupported (.unsafePointer "a write to bytes that a string shares")) u else k.run Q (u.setCell a v)
     | none=>match u.farStore Q a v NC with
      | .ok (w,_)=>k.run Q w
      | .error h=>.halt h u:=λu=>by
    cases v<;>first | rfl | exact absurd rfl (a6 _) | exact absurd rfl (X _)
   have e0:∀T,(wq.tp T).cell? a=wq.cell? a:=λT=>rfl;have e2:∀T,(wq.tp T).frozen? a=wq.frozen? a:=λT=>rfl;unfold Knows;simp only[e1,e0,e2] at b ⊢;cases hc:wq.cell? a with
   | none=>
    rw[hc] at b;simp only[TR] at b;split at b
    ·rename_i G
     split at G
     ·rename_i B
      exact absurd B (g.noview p _ _)
     ·cases G
    ·rename_i G
     split at G
     ·rename_i B
      exact absurd B (g.noview p _ _)
     ·cases G;exact absurd b (eh g.nopend _ _ _)
   | some u=>
    rw[hc] at b;cases hfz:wq.frozen? a with
    | true=>
     simp only[hfz,if_true] at b;exact absurd b (λh=>by cases h)
    | false=>
     have⟨O,b7,D,L⟩:=g.set p hc hfz G;simp only[hfz,OJ,if_false] at b ⊢;exact y z t D b
 | new o k y=>
  intro Z C wq w h t g b;rcases h with d | ⟨o',H,rfl,F,z⟩
  ·exact absurd b (Bad.not_fine g.nopend (s:=.new o k) d)
  have⟨D,L⟩:=g.newO t F;have S:=z w.heap.size (λi hi=>TE _ (g.lt i _ hi));rw[g.len] at S;exact y _ S (by simp;omega) D b
 | shape r k y=>
  intro Z C wq w h t g b;rcases h with d | ⟨j,H,rfl,p,z⟩
  ·exact absurd b (Bad.not_fine g.nopend (s:=.shape r k) d)
  exact y _ (z _ _ (g.shape p)) t g b
 | freeze a n k _=>intro Z C wq w h t g b;exact absurd b (Bad.not_fine g.nopend (s:=.freeze a n k) h)
 | frozen a k _=>intro Z C wq w h t g b;exact absurd b (Bad.not_fine g.nopend (s:=.frozen a k) h)
 | getObj r k y=>
  intro Z C wq w h t g b;rcases h with d | ⟨j,H,rfl,p,z⟩
  ·exact absurd b (Bad.not_fine g.nopend (s:=.getObj r k) d)
  cases F:wq.heap[r]? with
  | none=>simp only[Pr,F] at b;exact absurd b (λh=>by cases h)
  | some o=>
   by_cases l:∃c e f,o=.cells c e f
   ·obtain⟨c,e,f,rfl⟩:=l;simp only[Pr,F] at b;exact absurd b (λh=>by cases h)
   ·have A:∀c e f,o≠.cells c e f:=λc e f x=>l ⟨c,e,f,x⟩;rcases g.obj _ _ _ p F with⟨_,hj,_⟩ | ⟨_,o',c3,U⟩
    ·exact absurd hj (A _ _ _)
    ·rw[fh F A] at b;have I:∀T,(wq.tp T).heap[r]?=Nq o:=λT=>F;unfold Knows;simp only[fh F A,fh (I _) A];exact y o (z _ _ U) t g b
 | setObj r o k y=>
  intro Z C wq w h t g b;rcases h with d | ⟨j,o',H,rfl,p,W,z⟩
  ·exact absurd b (Bad.not_fine g.nopend (s:=.setObj r o k) d)
  cases F:wq.heap[r]? with
  | none=>simp only[Pr,F] at b;exact absurd b (λh=>by cases h)
  | some V=>
   by_cases l:∃c e f,V=.cells c e f
   ·obtain⟨c,e,f,rfl⟩:=l;simp only[Pr,F] at b;exact absurd b (λh=>by cases h)
   ·have A:∀c e f,V≠.cells c e f:=λc e f x=>l ⟨c,e,f,x⟩;have⟨O,⟨b9,b6,U⟩,D,L⟩:=g.setO p F A W;rw[fg F A] at b;have I:∀T,(wq.tp T).heap[r]?=Nq V:=λT=>F;unfold Knows;simp only[fg F A,fg (I _) A];exact y z t D b
 | choose q k y=>
  intro Z C wq w h t g b;rcases h with d | ⟨H,rfl,z⟩
  ·exact absurd b (Bad.not_fine g.nopend (s:=.choose q k) d)
  unfold Knows;simp only[Pr] at b ⊢;cases hq:q.forced with
  | true=>
   rw[hq] at b;simp only[if_true] at b ⊢;exact y _ (z _) t g b
  | false=>
   rw[hq] at b;simp only[OJ,if_false] at b ⊢;have⟨D,L⟩:=g.draw;have⟨h1,h2⟩:=y _ (z _) t D b;refine⟨h1,λT hT=>?_⟩;have:=jf Q (k (q.cut (wq.tape wq.drawn q))) { wq with drawn:=wq.drawn+1 };have e:(wq.tp T).tape (wq.tp T).drawn q=wq.tape wq.drawn q:=hT _ q (Nv _) (by simp only at this;exact NX (Uf _) this);rw[e];exact h2 T λn q hn=>hT n q (by simp only at hn;omega)
 | sys c k y=>
  intro Z C wq w h t g b;rcases h with d | ⟨rfl,H,rfl,z⟩
  ·exact absurd b (Bad.not_fine g.nopend (s:=.sys c k) d)
  have e1:∀u:Nt,u.sys .env=(.strings u.os.env,u):=λu=>rfl;unfold Knows;simp only[Pr,e1] at b ⊢;exact y _ (z _) t g b
 | program k y=>
  intro Z C wq w h t g b;rcases h with d | ⟨H,rfl,z⟩
  ·exact absurd b (Bad.not_fine g.nopend (s:=.program k) d)
  exact y _ z t g b
 | mark m k y=>
  intro Z C wq w h t g b;rcases h with d | ⟨rfl,H,rfl,z⟩
  ·exact absurd b (Bad.not_fine g.nopend (s:=.mark m k) d)
  exact y z t g b
 | halt x=>intro Z C wq w h t g b;exact⟨rfl,λT _=>rfl⟩
end
end Go.Sim
end
namespace Go.Sim
section
section
variable[JunkSet]{Q P:NR}{Z:Ren}{base:NA}{wq w:Nt}
def nS(b:P.toTables=Q.toTables)(l:Gl P Z)(i:base<=Z.length)(c:WR Q base Z wq w){t:NZ}(u:rF Q t=NB){m o k k' v v':Ny}(hm:VR Z m o)(q:VR Z k k')(p:VR Z v v')(e:jC ((PO t m k v).run Q wq)):Knows Q (PO t m k v) wq:=by
 rcases yB (k':=k') (v':=v') b l c hm e with h | ⟨r,j,kt,z,A,x,a,rfl,rfl,f,d,g,y,s⟩
 ·exact h.knows i c e
 ·have n:=λT=>(fD (P:=Q) (t:=t) (k:=k) (v:=v) (w:=wq.tp T) d g).1;have r0:=(fD (P:=Q) (t:=t) (k:=k) (v:=v) d g).1;have:=(tZ b l (yD u d) q p f s a 0).knows i c (by rw[<- r0];exact e);unfold Knows at this ⊢;rw[r0];exact⟨this.1,λT b=>by rw[n T];exact this.2 T b⟩
def Mr{s:Rw Unit}(h:Knows Q s wq):Knows Q (do s;pure Next.skip:Rw SX) wq:=by
 have b:∀(u:Nt),((do s;pure Next.skip:Rw SX)).run Q u=match s.run Q u with | .ok _ u'=>.ok .skip u' | .halt h u'=>.halt h u':=λu=>by
  rw[PF];cases s.run Q u<;>rfl
 unfold Knows at h ⊢;rw[b];refine⟨?_,λT a=>?_⟩
 ·have:=h.1;cases hx:s.run Q wq<;>(rw[hx] at this;exact this)
 ·rw[b,h.2 T]
  ·cases hx:s.run Q wq<;>rfl
  ·cases hx:s.run Q wq<;>(rw[hx] at a;exact a)
end
end
section
def Live(g:NF):Prop:=g.status=.running/\g.dying=Ns
def zI(g:NF):Prop:=g.status=.blocked\/g.status=.waiting\/g.status=.finished\/(g.status=.running/\∃d,g.dying=Nq d/\d.calling=NC/\d.fatal.isSome=NB)
def Flat(a:Nu NS):QE->Prop
 | .go g _ _=>Live g\/zI g\/a=[]
 | .ended ..=>TL
 | _=>RI
def flx{p:Prop}(h:p:=by first | exact trivial | exact .inl ⟨rfl,rfl⟩ | exact .inr (.inl (.inl rfl)) | exact .inr (.inl (.inr (.inl rfl))) | exact .inr (.inl (.inr (.inr (.inl rfl)))) | exact .inr (.inl (.inr (.inr (.inr ⟨rfl,_,rfl,rfl,rfl⟩)))) | exact .inr (.inr rfl)):p:=h
structure One(cs:Nu NS)(wq:Nt)(r:Nt->QE):Prop where
 flat:Flat cs (r wq)
 go:∀g' w' es,r wq=.go g' w' es->g'.status=.running->g'.dying=Ns->w'.tape=wq.tape/\wq.drawn<=w'.drawn/\∀T,CC T wq w'.drawn->∃es',r (wq.tp T)=.go g' (w'.tp T) es'
def mV{a:Nu NS}{b:NJ Pz}{s:QE}(h:Flat a s):Flat a (Pm b s):=by
 cases s<;>first | exact h | exact h.elim
def rU{p:NR}{e:NS}{c:Nu NS}{f:NO TC}{m:String}{u:Nt}:Flat c (Vo p e c f m u):=by
 unfold Vo;dsimp only;generalize (Pr p _ u:SK (Nu (ByteArray × String) × Nu ByteArray))=r;cases r with
 | ok a d=>obtain⟨t,b⟩:=a;exact flx
 | halt x d=>cases x<;>exact flx
section
variable[JunkSet]{Q P:NR}{Z:Ren}{base:NA}{wq w:Nt}
def fo{c:Nu NS}{r:Nt->QE}(h:∃o u a,r wq=.ended o u a):One c wq r:=by
 obtain⟨o,u,a,e⟩:=h;exact⟨by rw[e];trivial,λf d b h _ _=>by rw[e] at h;cases h⟩
def SR.tri{Y M:Type}{R:Rel Y M}{s:Rw Y}{j:Rw M}(k:SR Q P R s Z j)(l:base<=Z.length)(d:WR Q base Z wq w) :(Knows Q s wq/\((∃a u,s.run Q wq=.ok a u/\∃O b p,R O a b/\Le Z O/\WR Q base O u p)\/∃v u,s.run Q wq=.halt (.panic v) u))\/∃h u,s.run Q wq=.halt h u/\odd h=NC:=by
 by_cases e:jC (s.run Q wq)
 ·refine .inl ⟨k.knows l d e,?_⟩;have g:WR Q base Z wq { w with tape:=λn q=>wq.tape (n - w.drawn+wq.drawn) q }:=⟨d.len,d.nodup,d.lt,d.obj,d.low,d.env,d.below,d.gar⟩;have⟨O,o,x,t,c,_,_,f,_,i,_⟩:=SR.runs (es:=#[]) (D:=(rwR (s.run Q wq)).drawn) k l g (λn q _=>by
   show wq.tape (wq.drawn+n) q=wq.tape (w.drawn+n - w.drawn+wq.drawn) q;rw[show w.drawn+n - w.drawn+wq.drawn=wq.drawn+n by omega]) (Nv _) e
  generalize s.run Q wq=r at c;generalize (Pr P j _)=r' at c;cases c with
  | ok _ _ h=>exact .inl ⟨_,_,rfl,O,_,_,h,i.le,f⟩
  | panic _ _ _=>exact .inr ⟨_,_,rfl⟩
 ·refine .inr ?_;cases hr:s.run Q wq with
  | ok a u=>rw[hr] at e;exact absurd trivial e
  | halt h u=>
   rw[hr] at e;exact⟨h,u,rfl,by cases ho:odd h with | false=>rfl | true=>exact absurd ho e⟩
def Tri[JunkSet](Q:NR){Y M:Type}(R:Rel Y M)(s:Rw Y)(Z:Ren)(base:NA)(wq:Nt):Prop :=
 (Knows Q s wq/\((∃a u,s.run Q wq=.ok a u/\∃O b c,R O a b/\Le Z O/\WR Q base O u c)\/∃v u,s.run Q wq=.halt (.panic v) u))\/∃h u,s.run Q wq=.halt h u/\odd h=NC
def yw{Y M:Type}{R:Rel Y M}{s:Rw Y}(hs:Tri Q R s Z base wq){F:Nu NS}{K:Nt->SK Y->QE}{r:Nt->QE}(I:∀u x,s.run Q u=x->∃j,r u=Pm j (K u x))(L:∀a u O b G,R O a b->Le Z O/\WR Q base O u G->Flat F (K wq (.ok a u))/\∀d f j,K wq (.ok a u)=.go d f j->d.status=.running->d.dying=Ns->f.tape=u.tape/\u.drawn<=f.drawn/\∀T,CC T u f.drawn->∃t,K (wq.tp T) (.ok a (u.tp T))=.go d (f.tp T) t)(l:∀v u,Flat F (K wq (.halt (.panic v) u))/\∀d f j,K wq (.halt (.panic v) u)=.go d f j->d.status=.running->d.dying=Ns->f=u/\∀T,∃t,K (wq.tp T) (.halt (.panic v) (u.tp T))=.go d (u.tp T) t)(z:∀h u,odd h=NC->Flat F (K wq (.halt h u))/\∀d f j,K wq (.halt h u)=.go d f j->d.status=.running->d.dying=Ns->RI) :One F wq r:=by
 have c:=jf Q s wq;have⟨b8,n⟩:=I wq _ rfl;rcases hs with⟨⟨y,o⟩,⟨a,u,e,O,b,G,hR,hl,H⟩ | ⟨v,u,e⟩⟩ | ⟨h,u,e,ho⟩
 ·rw[e] at n o y c;have⟨C,B⟩:=L a u O b G hR ⟨hl,H⟩;refine⟨by rw[n];exact mV C,λd f j h g i=>?_⟩;rw[n] at h;have⟨e0,A,_⟩:=dc h;have⟨h4,h5,V⟩:=B _ _ _ A g i;have c:wq.drawn<=u.drawn:=c;refine⟨h4.trans y,NM c h5,λT D=>?_⟩;have⟨X,U⟩:=I (wq.tp T) _ rfl;have p:s.run Q (wq.tp T)=.ok a (u.tp T):=o T λk q o N=>D k q o (NX N h5);have⟨W,S⟩:=V T λk q o N=>by rw[show u.tape=wq.tape from y];exact D k q (NM c o) N
  exact⟨_,by rw[U,p,S];rfl⟩
 ·rw[e] at n o y c;have⟨C,B⟩:=l v u;refine⟨by rw[n];exact mV C,λd f j h g i=>?_⟩;rw[n] at h;have⟨e0,A,_⟩:=dc h;obtain⟨rfl,V⟩:=B _ _ _ A g i;refine⟨y,c,λT D=>?_⟩;have⟨X,U⟩:=I (wq.tp T) _ rfl;have p:s.run Q (wq.tp T)=.halt (.panic v) (f.tp T):=o T D;have⟨W,S⟩:=V T;exact⟨_,by rw[U,p,S];rfl⟩
 ·rw[e] at n;have⟨C,B⟩:=z h u ho;refine⟨by rw[n];exact mV C,λd f j h g i=>?_⟩;rw[n] at h;have⟨e0,A,_⟩:=dc h;exact(B _ _ _ A g i).elim
def lL{Y M:Type}{R:Rel Y M}{s:Rw Y}{n:Rw M}(p:SR Q P R s Z n)(t:base<=Z.length)(o:WR Q base Z wq w){j:Nu NS}{K:Nt->SK Y->QE}{r:Nt->QE}(q:∀u x,s.run Q u=x->∃g,r u=Pm g (K u x))(k:∀a u O b l,R O a b->Le Z O/\WR Q base O u l->Flat j (K wq (.ok a u))/\∀c d g,K wq (.ok a u)=.go c d g->c.status=.running->c.dying=Ns->d.tape=u.tape/\u.drawn<=d.drawn/\∀T,CC T u d.drawn->∃f,K (wq.tp T) (.ok a (u.tp T))=.go c (d.tp T) f)(e:∀v u,Flat j (K wq (.halt (.panic v) u))/\∀c d g,K wq (.halt (.panic v) u)=.go c d g->c.status=.running->c.dying=Ns->d=u/\∀T,∃f,K (wq.tp T) (.halt (.panic v) (u.tp T))=.go c (u.tp T) f)(i:∀h u,odd h=NC->Flat j (K wq (.halt h u))/\∀c d g,K wq (.halt h u)=.go c d g->c.status=.running->c.dying=Ns->RI) :One j wq r:=yw (p.tri t o) q k e i
def rz(H:Duo Q P)(A:base<=Z.length)(z:WR Q base Z wq w){f:NS}{cs:Nu NS}(q:∀d r s k,f.todo≠.call d NB r s::k){s:Rw SX}(p:Tri Q (cQ) s Z base wq):One cs wq (λu=>Pw Q NB f cs Ns s u):=by
 apply yw p
 ·intro u x o;apply Exists.intro;unfold Pw;simp only[if_true,OL,o];exact rfl
 ·intro a u O b y t _;cases t with
  | recover=>
   rcases hX:Ou f cs with _ | ⟨v,k⟩<;>cases hro:f.roundOf<;>simp only[hX,hro,H.rfr,if_true] <;>
    exact⟨flx,λi e j h _ _=>by cases h;exact⟨rfl,Nv _,λT _=>⟨_,rfl⟩⟩⟩
  | _=>exact⟨flx,λi e j h _ _=>by cases h;exact⟨rfl,Nv _,λT _=>⟨_,rfl⟩⟩⟩
 ·intro v u;exact⟨flx,λi e j h _ _=>by cases h;exact⟨rfl,λT=>⟨_,rfl⟩⟩⟩
 ·intro h u n;cases h with
  | panic v=>cases n
  | goexit=>cases n
  | unsupported x=>
   cases x with
   | initOrder g=>cases n
   | _=>exact⟨flx,λi e j h _ _=>by cases h⟩
  | blocked=>exact⟨flx,λi e j h l _=>by cases h;cases l⟩
  | waiting=>exact⟨flx,λi e j h l _=>by cases h;cases l⟩
  | throw m=>exact⟨flx,λi e j h _ c=>by simp only[UL,j6,Sk] at h;rw[<- h.1] at c;cases c⟩
  | fatal m=>exact⟨rU,λi e j h _ c=>absurd c (bD h)⟩
  | _=>exact⟨flx,λi e j h _ _=>by cases h⟩
def SM.tri{Y M:Type}{R:Rel Y M}{s:Rw Y}{i:Rw M}(k:SM Q P R s Z i)(l:jC (s.run Q wq)->Knows Q s wq)(o:base<=Z.length)(c:WR Q base Z wq w):Tri Q R s Z base wq:=by
 by_cases d:jC (s.run Q wq)
 ·refine .inl ⟨l d,?_⟩;have f:WR Q base Z wq { w with tape:=λn q=>wq.tape (n - w.drawn+wq.drawn) q }:=⟨c.len,c.nodup,c.lt,c.obj,c.low,c.env,c.below,c.gar⟩;have⟨O,j,t,p,b,_,_,e,g⟩:=k (D:=(rwR (s.run Q wq)).drawn) o f (λn q _=>by
   show wq.tape (wq.drawn+n) q=wq.tape (w.drawn+n - w.drawn+wq.drawn) q;rw[show w.drawn+n - w.drawn+wq.drawn=wq.drawn+n by omega]) (Nv _) d
  generalize s.run Q wq=r at b;generalize (Pr P i _)=r' at b;cases b with
  | ok _ _ h=>exact .inl ⟨_,_,rfl,O,_,_,h,g.le,e⟩
  | panic _ _ _=>exact .inr ⟨_,_,rfl⟩
 ·refine .inr ?_;cases hr:s.run Q wq with
  | ok a u=>rw[hr] at d;exact absurd trivial d
  | halt h u=>
   rw[hr] at d;exact⟨h,u,rfl,by cases ho:odd h with | false=>rfl | true=>exact absurd ho d⟩
def zR(H:Pair Q P)(g:base<=Z.length)(d:WR Q base Z wq w){e t:OQ->Ny}(b:∀x,aR Q x->VR Z (e x) (t x))(i:Gl P Z)(p:Inj Z)(q:∀v,e (.const v)=v){o:PE}(f:aZ Q o.op) :Tri Q (@cQ _) (QN e o) Z base wq:=by
 cases hmu:Gy o.op with
 | false=>exact(ua H b i p q f hmu).tri g d
 | true=>
  refine SM.tri (uj H b i p q f) (λc=>?_) g d;obtain⟨y,A,z,r,after,guard⟩:=o;dsimp only at f hmu;have fin:∀{s:Rw Unit},jC ((do s;pure Next.skip:Rw SX).run Q wq)->jC (s.run Q wq):=λ{s} c=>by
   rw[PF] at c;cases hx:s.run Q wq with
   | ok a u=>trivial
   | halt h u=>rw[hx] at c;exact c
  cases f with
  | mapUpdate n l k j=>exact Mr (nS H.tables i g d n (b _ l) (b _ k) (b _ j) (fin c))
  | insert n l k j=>exact Mr (nS H.tables i g d n (b _ l) (b _ k) (b _ j) (fin c))
  | _=>cases hmu
def oN(H:Duo Q P)(c:base<=Z.length)(b:WR Q base Z wq w){f:NS}{cs:Nu NS}(a:∀d r s k,f.todo≠.call d NB r s::k){s s':Rw SX}(e:SR Q P cQ s Z s'):One cs wq (λu=>Pw Q NB f cs Ns s u):=rz H c b a (e.tri c b)
def mj(f:NS)(a:Nu NS)(v:Ny):(∃g,(Live g\/zI g\/a=[])/\∀u,Qg Q NB f a Ns v u=.go g u #[])\/∃o,∀u,Qg Q NB f a Ns v u=.ended o u #[]:=by
 unfold Qg;cases a with
 | cons c a=>
  dsimp only;split;all_goals exact .inl ⟨_,flx,λu=>rfl⟩
 | nil=>
  dsimp only;split
  ·rename_i h;cases h
  ·exact .inr ⟨_,λu=>rfl⟩
  ·simp only[Uj,OJ,if_false];split
   ·exact .inl ⟨_,flx,λu=>rfl⟩
   ·exact .inr ⟨_,λu=>rfl⟩
def dB{a:Nu NS}{r:Nt->QE}{g:NF}(h:∀u,r u=.go g u #[])(b:Live g\/zI g\/a=[]:=by exact flx):One a wq r :=
 ⟨by rw[h];exact b,λd c f e _ _=>by rw[h] at e;cases e;exact⟨rfl,Nv _,λT _=>⟨_,h _⟩⟩⟩
def eK(y:base<=Z.length)(s:WR Q base Z wq w){f:NS}{n:Nu NS}{d:Qa}{q:Rw SX}(t:SR Q P cQ (invoke d.target d.args) Z q):One n wq (λu=>Qd Q f n Ns d u):=by
 by_cases p:(hU d.target && gZ f.mode)=NB
 ·refine fo ⟨.unsupported (.noEntry "machine/Return: a deferred call of a nil function value, made while the frame is unwinding") (f.pos Q),wq,#[],?_⟩;show Qd Q f n Ns d wq=_;unfold Qd;exact if_pos p
 apply lL t y s
 ·intro u x r;apply Exists.intro;show Qd Q f n Ns d u=_;unfold Qd;refine(if_neg p).trans ?_;simp only[OL,r];exact rfl
 ·intro a u O b A z _;cases z with
  | recover=>
   rcases hX:Ou f n with _ | ⟨v,k⟩<;>cases hm:f.mode<;>simp only[hX,hm] <;>
    exact⟨flx,λi e j h _ _=>by cases h;exact⟨rfl,Nv _,λT _=>⟨_,rfl⟩⟩⟩
  | _=>exact⟨flx,λi e j h _ _=>by cases h;exact⟨rfl,Nv _,λT _=>⟨_,rfl⟩⟩⟩
 ·intro v u;exact⟨flx,λi e j h _ _=>by cases h;exact⟨rfl,λT=>⟨_,rfl⟩⟩⟩
 ·intro h u o;cases h with
  | panic v=>cases o
  | goexit=>cases o
  | unsupported x=>
   cases x with
   | initOrder g=>cases o
   | _=>exact⟨flx,λi e j h _ _=>by cases h⟩
  | blocked=>exact⟨flx,λi e j h l _=>by cases h;cases l⟩
  | waiting=>exact⟨flx,λi e j h l _=>by cases h;cases l⟩
  | throw m=>exact⟨flx,λi e j h _ c=>by simp only[UL,j6,Sk] at h;rw[<- h.1] at c;cases c⟩
  | fatal m=>exact⟨rU,λi e j h _ c=>absurd c (bD h)⟩
  | _=>exact⟨flx,λi e j h _ _=>by cases h⟩
def ry(H:Duo Q P)(C:base<=Z.length)(s:WR Q base Z wq w)(Y:Gl P Z){f f':NS}(R:aG Q P Z f f')(V:Nu NS) :One V wq (λu=>SS Q NB f V Ns u):=by
 have B:=R.defers;unfold SS;generalize b8:f.defers=ds at B;generalize W:f'.defers=U at B;cases B with
 | @cons d d' ds U X b7=>
  obtain⟨t,a⟩:=d;obtain⟨t',a'⟩:=d';have G:SR Q P cQ (invoke t a) Z (invoke t' a'):=ja H.toPair Y X;rcases id X with⟨F,_⟩ | ⟨S,_,n,c,h3⟩
  case bound=>
   dsimp only at S h3;subst S;subst h3;exact eK C s G
  dsimp only at F;cases F with
  | @collected i j N=>
   apply lL (BC (Q:=Q) (P:=P) N) C s
   ·intro u x M;apply Exists.intro;simp only[OL,M];exact rfl
   ·intro l u O b D hR _;exact⟨flx,λq k r h _ _=>by cases h;exact⟨rfl,Nv _,λT _=>⟨_,rfl⟩⟩⟩
   ·intro v u;exact⟨flx,λq k r h _ _=>by cases h⟩
   ·intro h u ho;exact⟨flx,λq k r h _ _=>by cases h⟩
  | fn S h2=>exact eK C s G
  | meth n h=>exact eK C s G
  | nil=>exact eK C s G
  | builtin x y z c h=>exact eK C s G
 | nil=>
  dsimp only;have⟨gf,I,b6⟩:=R.same;cases hm:f.mode with
  | run=>exact fo ⟨_,_,_,rfl⟩
  | panicking l=>
   dsimp only;have L:f.catches Q=NC:=by unfold Wc;rw[I]
   rw[L];simp only[OJ,if_false]
   repeat' split
   all_goals first
    | exact dB λu=>rfl
    | exact fo ⟨_,_,_,rfl⟩
    | exact⟨flx,λq k r h A p=>by cases h;cases A⟩
    | exact⟨flx,λq k r h A p=>by cases h;cases p⟩
    | skip
   constructor
   ·show Flat _ (match (YK l NC).run Q wq with | .ok todo w=>_ | .halt (.unsupported u) w=>_ | .halt h w=>_);cases(YK l NC).run Q wq with
    | ok a D=>exact flx
    | halt x D=>cases x<;>exact flx
   ·intro q k r h A p;exfalso;revert h;cases(YK l NC).run Q wq with
    | ok a D=>intro h;cases h;cases p
    | halt x D=>cases x<;>(intro h;cases h)
  | returning=>
   dsimp only;rw[I];dsimp only;apply lL (mD H Y gf R.tmps) C s
   ·intro u x M;apply Exists.intro;simp only[OL,M];exact rfl
   ·intro v u O b D hR _;rcases mj (Q:=Q) f V v with⟨g,hl,h⟩ | ⟨o,h⟩
    ·refine⟨?_,λq k r e _ _=>?_⟩
     ·dsimp only;rw[h];exact hl
     ·dsimp only at e ⊢;rw[h] at e;cases e;exact⟨rfl,Nv _,λT _=>⟨_,h _⟩⟩
    ·refine⟨?_,λq k r e _ _=>?_⟩
     ·dsimp only;rw[h];trivial
     ·dsimp only at e ⊢;rw[h] at e;cases e
   ·intro v u;exact⟨flx,λq k r h _ _=>by cases h⟩
   ·intro h u ho;cases h<;>exact⟨flx,λq k r h _ _=>by cases h⟩
def lM(G:base<=Z.length)(B:WR Q base Z wq w){f I:NS}(F:aG Q P Z f I)(c:Nu NS)(H:Duo Q P){j:NO Qs}(D:∀x,j=Nq x->aK Q x){s z:String} :
  One c wq (λu=>match f.roundOf with
   | none=>if rJ j=NB then .go { frame:={ f with mode:=.returning },callers:=c,status:=.running,dying:=Ns } u else .ended (.stuck s (f.pos Q)) u
   | some l=>
    let (r,a):=(QR l j).runT Q u #[]
    Pm (Wa Q f.fn a) <| match r with
    | .ok v w=>Qg Q NB f c Ns v w
    | .halt _ w=>.ended (.stuck z (f.pos Q)) w):=by
 rcases F.round with⟨n,A⟩ | ⟨i,k,n,A,q⟩
 ·rw[n];dsimp only;by_cases y:rJ j=NB
  ·simp only[if_pos y];exact dB λu=>rfl
  ·simp only[if_neg y];exact fo ⟨_,_,_,rfl⟩
 ·rw[n];apply lL (pq (Q:=Q) (P:=P) q λx p=>(H.codes x).2 (D x p)) G B
  ·intro u x p;apply Exists.intro;simp only[OL,p];exact rfl
  ·intro v u O b L N _;rcases mj (Q:=Q) f c v with⟨g,C,h⟩ | ⟨o,h⟩
   ·refine⟨?_,λt d a e _ _=>?_⟩
    ·dsimp only;rw[h];exact C
    ·dsimp only at e ⊢;rw[h] at e;cases e;exact⟨rfl,Nv _,λT _=>⟨_,h _⟩⟩
   ·refine⟨?_,λt d a e _ _=>?_⟩
    ·dsimp only;rw[h];trivial
    ·dsimp only at e ⊢;rw[h] at e;cases e
  ·intro v u;exact⟨flx,λt d a h _ _=>by cases h⟩
  ·intro h u M;exact⟨flx,λt d a h _ _=>by cases h⟩
def FX(H:Duo Q P)(S:base<=Z.length)(N:WR Q base Z wq w)(hG:Gl P Z){f f':NS}(B:aG Q P Z f f')(cs:Nu NS) :One cs wq (λu=>Re Q NB NB f cs Ns u):=by
 obtain⟨X,p,b7,g,t,z,ro⟩:=f;obtain⟨d5,C,Y,q,L,M,a6⟩:=f';have b9:=B.todo;have a9:∀x,aR Q x->VR Z (Te ⟨X,p,b7,g,t,z,ro⟩ x) (Te ⟨d5,C,Y,q,L,M,a6⟩ x):=λx A=>B.eval hG H.gsize A;unfold Re;dsimp only at b9 ⊢;cases b9 with
 | nil=>exact lM S N B cs H (j:=Ns) (λx h=>by cases h)
 | @cons x x' k k' A hk=>
  cases A with
  | @code c hc=>
   cases hc with
   | skip=>exact dB λu=>rfl
   | label n=>exact dB λu=>rfl
   | ret=>exact lM S N B cs H (j:=Nq .ret) (λx h=>by cases h;exact .ret)
   | seq h1 h2=>exact dB λu=>rfl
   | @cond c x y h0 h1 h2=>
    dsimp only;split
    ·exact dB λu=>rfl
    ·exact fo ⟨_,_,_,rfl⟩
   | block h=>exact dB λu=>rfl
   | loop h=>exact dB λu=>rfl
   | scope h=>exact dB λu=>rfl
   | exit id=>
    dsimp only;cases TU id k with
    | none=>exact lM S N B cs H (j:=Nq (.exit id)) (λx h=>by cases h;exact .exit id)
    | some m=>exact dB λu=>rfl
   | goto n=>
    dsimp only;cases Uw n k with
    | none=>exact lM S N B cs H (j:=Nq (.goto n)) (λx h=>by cases h;exact .goto n)
    | some m=>exact dB λu=>rfl
   | @region id I d W=>
    dsimp only;cases d with
    | false=>exact dB λu=>rfl
    | true=>
     simp only[Uj,OJ,if_false,oM];refine⟨flx,λg' w' es h _ _=>?_⟩;cases h;refine⟨rfl,YJ _,λT hT=>?_⟩;have e:(wq.tp T).tape (wq.tp T).drawn (.order X id)=wq.tape wq.drawn (.order X id):=hT _ _ (Nv _) (Uf _);rw[e];exact⟨_,rfl⟩
   | @rangeFunc c ps a bd h0 h1 h2=>
    dsimp only;apply lL (np (Q:=Q) (P:=P) X ((H.same X).2 ⟨B.same,B.okf⟩) B.tmps ps ((H.codes a).2 h1) ((H.codes bd).2 h2) B.round) S N
    ·intro u x A;apply Exists.intro;simp only[OL];dsimp only at A;rw[A]
    ·intro x u O y w1 hR ⟨hl,e5⟩;obtain⟨i,m⟩:=x;obtain⟨i',m'⟩:=y;obtain⟨c3,hm⟩:=hR;dsimp only at c3 hm ⊢;have hy:AsR O #[Value.func (Fn.yield i) #[] #[]] #[Value.func (Fn.yield i') #[] #[]] :=
      AsR.one (.func (a:=#[]) (a':=#[]) (c:=#[]) (c':=#[]) (.yield c3) rfl (λi x y A=>by simp at A) rfl (λi x y A=>by simp at A))
     have b8:∀(e:OQ->Ny) (v:Ny),#[Operand.const v].map e=#[e (.const v)]:=λe v=>by simp
     have:=oN (cs:=cs) (f:=⟨X,p,.inRangeFunc i::k,m++g,t,z,ro⟩) H (NM S hl.len) e5 (λd r s k e=>by cases e)
      (s:=do let d <- resolve (Te ⟨X,p,.inRangeFunc i::k,m++g,t,z,ro⟩) { callee:=.value c,args:=#[.const (.func (.yield i) #[] #[])],argTypes:=#[] } 0;invoke d.target d.args)
      (s':=do let d <- resolve (Te ⟨d5,C,.inRangeFunc i'::k',m'++q,L,M,a6⟩) { callee:=.value c,args:=#[.const (.func (.yield i') #[] #[])],argTypes:=#[] } 0;invoke d.target d.args)
      (.bnd (R:=fU) (mF H.toPair ((a9 _ h0).mono hl) (by rw[b8,b8];exact hy)) λV d d' l' hd=>ja H.toPair (hG.mono (hl.trans l')) hd)
     exact⟨this.flat,this.go⟩
    ·intro v u;exact⟨flx,λg' w' es h _ _=>by cases h⟩
    ·intro h u ho;exact⟨flx,λg' w' es h _ _=>by cases h⟩
  | inBlock id=>exact dB λu=>rfl
  | inScope h=>exact dB λu=>rfl
  | inLoop h=>exact dB λu=>rfl
  | @inRegion I l W=>
   cases l with
   | nil=>exact dB λu=>rfl
   | cons i l=>
    dsimp only;by_cases hc:((I[i]?).map (Oy · (PH I p))).getD NC=NB
    ·simp only[if_pos hc];unfold Va Frame.oper?;dsimp only;cases ho:I[i]? with
     | none=>exact fo ⟨_,_,_,rfl⟩
     | some o=>
      dsimp only;have a7:=W o (by rw[QC];exact PR ho);have G:=rz (cs:=cs) H S N (f:=⟨X,p,.inRegion I (i::l)::k,g,t,z,ro⟩) (λd r s k e=>by cases e) (zR H.toPair S N a9 hG N.nodup (λv=>rfl) a7);rcases B.round with⟨F,D⟩ | ⟨a,b',F,D,a8⟩
      ·dsimp only at F D;subst F;subst D;exact G
      ·dsimp only at F D;subst F;subst D;by_cases U:∃c,o.op=.defer c
       ·obtain⟨c,U⟩:=U;rw[U] at a7 ⊢;dsimp only;cases a7 with
        | defer b0=>
         exact oN H S N (λd r s k e=>by cases e) (SR.bnd (jK H.toPair a9 b0 _) λO d d' l hd=>.bnd (ku (a8.mono l) hd) λV _ _ _ _=>ak .skip)
       ·split
        ·rename_i e1 e2
         exact absurd ⟨_,e2⟩ U
        ·exact G
    ·simp only[if_neg hc];exact dB λu=>rfl
  | inRangeFunc h=>exact fo ⟨_,_,_,rfl⟩
  | @endRangeFunc i j h=>
   dsimp only;apply lL (qX H hG h) S N
   ·intro u x A;apply Exists.intro;simp only[OL,A];exact rfl
   ·intro l u O b w1 hR _;exact⟨flx,λg' w' es h _ _=>by cases h;exact⟨rfl,Nv _,λT _=>⟨_,rfl⟩⟩⟩
   ·intro v u;exact⟨flx,λg' w' es h _ _=>by cases h;exact⟨rfl,λT=>⟨_,rfl⟩⟩⟩
   ·intro h u ho;cases h<;>first | (cases ho;done) | exact⟨flx,λg' w' es h _ _=>by cases h⟩
  | beginRound=>
   dsimp only;refine oN (P:=P) (s':=(do a6.elim (stuck "beginRound: no round") Wi;pure .skip)) H S N (λd r s k e=>by cases e) ?_;refine .bnd (R:=λ_ _ _=>TL) ?_ λO _ _ _ _=>ak .skip;rcases B.round with⟨F,D⟩ | ⟨i,j,F,D,a8⟩
   ·dsimp only at F D;rw[F,D];exact au
   ·dsimp only at F D;rw[F,D];exact mf H hG a8
def yu(H:Duo Q P)(c:base<=Z.length)(b:WR Q base Z wq w)(d:Gl P Z){g i:NF}(l:ir Q P Z g i):One g.callers wq (λu=>Pj Q NB g u NB):=by
 obtain⟨r,e,s,v,j⟩:=g;obtain⟨a,q,p,o,h,n⟩:=l;dsimp only at a q p o h n;subst h;have hm:=a.mode;unfold Pj;dsimp only;generalize k:r.mode=m at hm;generalize f:i.frame.mode=m' at hm;cases hm with
 | run=>exact FX H c b d a e
 | returning=>exact ry H c b d a e
 | panicking t=>exact ry H c b d a e
end
end
section
inductive LP (Q:NR) (F:NF->Nt->Prop):NF->Nt->Prop
 | done {g:NF} {u:Nt}:F g u->LP Q F g u
 | step {g g1:NF} {u u1:Nt} {es:NJ Pz}:Pj Q NB g u NB=.go g1 u1 es->g1.status=.running->g1.dying=Ns->LP Q F g1 u1->LP Q F g u
inductive LT (Q:NR) (F:NF->Nt->Prop):NF->Nt->Prop
 | done {g:NF} {u:Nt}:F g u->LT Q F g u
 | step {g:NF} {u:Nt}:¬ F g u->(∀T,∃g1 u1 es,Pj Q NB g (u.tp T) NB=.go g1 u1 es/\g1.status=.running/\g1.dying=Ns) ->
   (∀T g1 u1 es,Pj Q NB g (u.tp T) NB=.go g1 u1 es->LT Q F g1 u1)->LT Q F g u
section
variable[JunkSet]{Q:NR}{base:NA}{F:NF->Nt->Prop}
def ko(Q:NR)(base:NA)(g:NF)(u:Nt):Prop :=
 ∃Z a w,base<=Z.length/\WR Q base Z u w/\Gl Q Z/\ir Q Q Z g a
def WR.tape{Z:Ren}{u w:Nt}(h:WR Q base Z u w)(T a:NA->Qe->NA):WR Q base Z (u.tp T) (w.tp a):=⟨h.len,h.nodup,h.lt,h.obj,h.low,h.env,h.below,h.gar⟩
def ko.tape{g:NF}{u:Nt}(h:ko Q base g u)(T:NA->Qe->NA):ko Q base g (u.tp T) :=
 let ⟨Z,g',w,h1,h2,h3,h4⟩:=h
 ⟨Z,g',w,h1,h2.tape T w.tape,h3,h4⟩
def ko.one(H:Duo Q Q){g:NF}{u:Nt}(h:ko Q base g u):One g.callers u (λu=>Pj Q NB g u NB) :=
 let ⟨_,_,_,h1,h2,h3,h4⟩:=h
 yu H h1 h2 h3 h4
def ko.next(H:Duo Q Q){g a:NF}{u u1:Nt}{y:NJ Pz}(h:ko Q base g u)(e:Pj Q NB g u NB=.go a u1 y)(i:a.status=.running)(j:a.dying=Ns):ko Q base a u1:=by
 have hm:=((h.one H).go _ _ _ e i j).2.1;obtain⟨Z,z,w,l,v,k,t⟩:=h;have b:=v.tape u.tape (λn q=>u.tape (n - w.drawn+u.drawn) q);have s:cj u1.drawn u (w.tp λn q=>u.tape (n - w.drawn+u.drawn) q):=λn q _=>by
  show u.tape (u.drawn+n) q=u.tape (w.drawn+n - w.drawn+u.drawn) q;rw[show w.drawn+n - w.drawn+u.drawn=u.drawn+n by omega]
 have⟨O,c,o,x,_,r,p,_,d,_⟩:=FG H l b k s hm t NB _ _ _ e (Nv _) i j rfl;exact⟨O,c,o,NM l d.le.len,p,k.mono d.le,r⟩
def xz(u:Nt)(T a:NA->Qe->NA):(u.tp T).tp a=u.tp a:=rfl
def qi(u:Nt):u.tp u.tape=u:=rfl
def LP.ext(H:Duo Q Q)(j:∀g u T,F g u->F g (u.tp T)){g:NF}{u:Nt}(h:LP Q F g u)(d:ko Q base g u){T:NA->Qe->NA}(f:∀k q,u.drawn<=k->T k q=u.tape k q):LP Q F g (u.tp T):=by
 induction h with
 | done h=>exact .done (j _ _ _ h)
 | @step g s u u1 t e a c _ i=>
  have⟨o,n,l⟩:=(d.one H).go _ _ _ e a c;have⟨p,r⟩:=l T λk q b _=>f k q b;exact .step r a c (i (d.next H e a c) λk q b=>by rw[o];exact f k q (NM n b))
def LP.inv{g:NF}{u:Nt}(d:¬ F g u)(h:LP Q F g u):∃a u1 f,Pj Q NB g u NB=.go a u1 f/\a.status=.running/\a.dying=Ns/\LP Q F a u1:=by
 cases h with
 | done h=>exact absurd h d
 | step e b c h=>exact⟨_,_,_,e,b,c,h⟩
def LP.rest(H:Duo Q Q)(p:∀g u T,F g u->F g (u.tp T)){g b:NF}{u u1:Nt}{y:NJ Pz}(n:ko Q base g u)(r:¬ F g u)(h:∀T,LP Q F g (u.tp T)){T:NA->Qe->NA}(e:Pj Q NB g (u.tp T) NB=.go b u1 y)(l:b.status=.running)(o:b.dying=Ns)(a:NA->Qe->NA):LP Q F b (u1.tp a):=by
 have d:=(n.tape T).next H e l o
 have⟨B,A,v⟩:=((n.tape T).one H).go _ _ _ e l o
 let c:NA->Qe->NA:=λk q=>if k<u1.drawn then T k q else a k q
 have⟨x,j⟩:=v c λk q _ i=>by show(if k<u1.drawn then T k q else a k q)=T k q;rw[if_pos i]
 rw[xz] at j;have f:¬ F g (u.tp c):=λs=>r (by have:=p _ _ u.tape s;rwa [xz,qi] at this);have⟨C,u2,w,z,_,_,t⟩:=LP.inv f (h c);rw[z] at j;cases j;have:=LP.ext H p t (d.tape c) (T:=a) λk q i=>by
  show a k q=if k<u1.drawn then T k q else a k q;rw[if_neg (by have:u1.drawn<=k:=i;omega)]
 exact this
def LT.of_all(H:Duo Q Q)(X:∀g u T,F g u->F g (u.tp T)){g:NF}{u:Nt}(A:ko Q base g u)(h:∀T,LP Q F g (u.tp T)):LT Q F g u:=by
 classical
 refine OK λp=>?_
 let D:NF × Nt->Prop:=λx=>ko Q base x.1 x.2/\(∀T,LP Q F x.1 (x.2.tp T))/\¬ LT Q F x.1 x.2
 have next:∀x:{x // D x},∃y:(NA->Qe->NA) × {y // D y},∃j,Pj Q NB x.1.1 (x.1.2.tp y.1) NB=.go y.2.1.1 y.2.1.2 j/\y.2.1.1.status=.running/\y.2.1.1.dying=Ns:=by
  rintro⟨⟨g,u⟩,A,t,P⟩;dsimp only at A t P ⊢;have s:¬ F g u:=λs=>P (.done s);have C:∀T,¬ F g (u.tp T):=λT hh=>s (by have:=X _ _ u.tape hh;rwa [xz,qi] at this);refine OK λp=>P (.step s (λT=>?_) λT G u1 j e=>?_)
  ·have⟨G,u1,j,e,l,o,_⟩:=LP.inv (C T) (t T);exact⟨G,u1,j,e,l,o⟩
  ·have⟨g2,u2,Z,I,l,o,_⟩:=LP.inv (C T) (t T);rw[e] at I;cases I;refine OK λr=>p ⟨(T,⟨(G,u1),(A.tape T).next H e l o,λT'=>LP.rest H X A s t e l o T',r⟩),j,e,l,o⟩
 let d:{x // D x}->(NA->Qe->NA) × {y // D y}:=λx=>QY (next x)
 have B:∀x,∃j,Pj Q NB x.1.1 (x.1.2.tp (d x).1) NB=.go (d x).2.1.1 (d x).2.1.2 j/\(d x).2.1.1.status=.running/\(d x).2.1.1.dying=Ns:=λx=>Ry (next x)
 let a:NA->{x // D x}:=λn=>Nat.rec ⟨(g,u),A,h,p⟩ (λ_ x=>(d x).2) n
 have a7:∀n,a (n+1)=(d (a n)).2:=λn=>rfl
 let b:NA->NA:=λn=>(a n).1.2.drawn
 have i:∀n,b n<=b (n+1):=λn=>by
  have⟨j,e,l,o⟩:=B (a n);exact((((a n).2.1.tape _).one H).go _ _ _ e l o).2.1
 have c:∀m n,m<=n->b m<=b n:=λm n R=>by
  induction R with
  | refl=>exact Nv _
  | step _ N=>exact NM N (i _)
 let L:NA->Qe->NA:=λk q=>if f:∃n,b n<=k/\k<b (n+1) then(d (a (QY f))).1 k q else 0
 have W:∀n k q,b n<=k->k<b (n+1)->L k q=(d (a n)).1 k q:=λn k q z w=>by
  have f:∃n,b n<=k/\k<b (n+1):=⟨n,z,w⟩;show(if f:∃n,b n<=k/\k<b (n+1) then(d (a (QY f))).1 k q else 0)=_;rw[dif_pos f];have⟨Y,h4⟩:=Ry f;have:QY f=n:=by
   rcases Nat.lt_trichotomy (QY f) n with r | he | U
   ·exact absurd (NX h4 (NM (c (QY f+1) n r) z)) (TE _)
   ·exact he
   ·exact absurd (NX w (NM (c (n+1) (QY f) U) Y)) (TE _)
  rw[this]
 have M:∀(x:NF) (v:Nt),LP Q F x v->∀n,x=(a n).1.1->v=(a n).1.2.tp L->RI:=by
  intro x v t;induction t with
  | @done g u s=>
   intro n z w;subst z;subst w;exact(a n).2.2.2 (.done (by have:=X _ _ (a n).1.2.tape s;rwa [xz,qi] at this))
  | @step g G u u1 j e l o _ N=>
   intro n z w;subst z;subst w;have⟨Z,I,O,V⟩:=B (a n);have⟨_,_,Y⟩:=(((a n).2.1.tape _).one H).go _ _ _ I O V;have⟨b7,e3⟩:=Y L λk q hk S=>W n k q hk S;rw[xz] at e3;rw[e] at e3;cases e3;exact N (n+1) rfl rfl
 exact M _ _ (h L) 0 rfl rfl
end
end
section
def ay(f:Pl):NS:={ fn:=f,tmps:=#[],todo:=[.code (.exit 0)],defers:=[{ target:=.nil,args:=#[] }],mode:=.run,kind:=.normal }
def Popped(f:Pl)(a:NS):Prop:=a=ay f\/∃l,a={ ay f with mode:=.panicking l }
def Stk(f:Pl)(g:NF):Prop:=(∃pre,g.callers=pre++[ay f])\/(g.callers=[]/\Popped f g.frame)
def dk(f:Pl)(r:QE):Prop:=∀a u1 b,r=.go a u1 b->a.status=.running->a.dying=Ns->Stk f a
section
variable[JunkSet]{Q:NR}{f:Pl}
def ew{s:QE}{g:NJ Pz}(h:dk f s):dk f (Pm g s):=λi u1 d e a b=>by
 have⟨j,c,_⟩:=dc e;exact h _ _ _ c a b
def aP{o:Wu}{u:Nt}{a:NJ Pz}:dk f (.ended o u a):=λ_ _ _ e _ _=>by cases e
def bq{d:NS}{pre b:Nu NS}{c:QS}{i:NO TC}{a:NO (NJ Rf × QK)}{u:Nt}{g:NJ Pz}(h:b=pre++[ay f]):dk f (.go { frame:=d,callers:=b,status:=c,dying:=i,offers:=a } u g):=λ_ _ _ e _ _=>by
 cases e;exact .inl ⟨pre,h⟩
def yO{g:NF}{u:Nt}{b:NJ Pz}(h:g.dying≠Ns):dk f (.go g u b):=λ_ _ _ e _ a=>by cases e;exact absurd a h
def fM{s:QE}(h:∀g u a,s≠.go g u a):dk f s:=λg u a e _ _=>absurd e (h g u a)
def pJ{b:NS}{c:Nu NS}{m:String}{u:Nt}:dk f (Vo Q b c Ns m u):=λd u1 g e _ a=>absurd a (bD e)
def lj{a:NS}{m:String}{u:Nt}:dk f (UL a m u):=yO (by simp)
def jm{c:NS}{a:Nu NS}{pre:Nu NS}(h:c::a=pre++[ay f]){b:NS}{d:QS}{j:NO TC}{u:Nt}{i:NJ Pz}(g:c=ay f->Popped f b) :dk f (.go { frame:=b,callers:=a,status:=d,dying:=j } u i):=λ_ _ _ e _ _=>by
 cases e;cases pre with
 | nil=>
  simp only[On,QT] at h;exact .inr ⟨h.2,g h.1⟩
 | cons p pre=>
  simp only[Oa,QT] at h;exact .inl ⟨pre,h.2⟩
def pB:Popped f (ay f):=.inl rfl
def mh(v:Ny):Popped f ((ay f).finish v):=.inl rfl
def vK(l:Nu Tu):Popped f ((ay f).raise l):=.inr ⟨l,rfl⟩
def mg:∀{b:Nu NS} {d:NS} {pre k:Nu NS} {v:Ny},b=pre++[ay f]->Ou d b=Nq (v,k)->∃a,k=a++[ay f]:=by
 intro b;induction b with
 | nil=>intro d pre k v h;cases pre<;>simp at h
 | cons c b g=>
  intro d pre k v h e;unfold Ou at e;cases hk:d.kind with
  | deferred=>
   rw[hk] at e;dsimp only at e;cases pre with
   | nil=>
    simp only[On,QT] at h;rw[h.1] at e;cases e
   | cons p pre=>
    simp only[Oa,QT] at h;split at e
    ·simp only[OM,Prod.mk.injEq] at e;exact⟨_::pre,by rw[<- e.2,h.2];rfl⟩
    ·cases e
  | wrapped=>
   rw[hk] at e;dsimp only at e;cases pre with
   | nil=>
    simp only[On,QT] at h;rw[h.1,h.2] at e;cases e
   | cons p pre=>
    simp only[Oa,QT] at h;cases ht:Ou c b with
    | none=>rw[ht] at e;cases e
    | some x=>
     obtain⟨j,l⟩:=x;rw[ht] at e;simp only[Pp,OM,Prod.mk.injEq] at e;have⟨a,i⟩:=g h.2 ht;exact⟨c::a,by rw[<- e.2,i];rfl⟩
  | _=>rw[hk] at e;cases e
def jW{d:NS}{a pre:Nu NS}(h:a=pre++[ay f])(v:Ny)(u:Nt):dk f (Qg Q NB d a Ns v u):=by
 unfold Qg;cases a with
 | nil=>cases pre<;>simp at h
 | cons c b=>
  dsimp only;split
  ·exact jm h λe=>e ▸ mh v
  ·exact jm h λe=>e ▸ mh v
  ·exact jm h λe=>e ▸ pB
  ·exact jm h λe=>by subst e;exact pB
def DN{e a:NS}{X pre c:Nu NS}{d:QS}{i:NO TC}{b:NO (NJ Rf × QK)}{u:Nt}{g:NJ Pz}(h:c=pre++[ay f]):dk f (.go { frame:=e,callers:=X++a::c,status:=d,dying:=i,offers:=b } u g) :=
 bq (pre:=X++a::pre) (by rw[h];simp)
def rL{e a:NS}{pre c:Nu NS}{d:QS}{i:NO TC}{b:NO (NJ Rf × QK)}{u:Nt}{g:NJ Pz}(h:c=pre++[ay f]):dk f (.go { frame:=e,callers:=a::c,status:=d,dying:=i,offers:=b } u g) :=
 bq (pre:=a::pre) (by rw[h];simp)
def yN{b:NS}{d pre:Nu NS}(h:d=pre++[ay f])(g:NA)(u:Nt):dk f (early Q b d Ns g u):=by
 unfold early;have e:∀w:Nt,dk f (match w.heap[g]? with
  | some (.pending c a)=>.go { frame:=b,callers:=d,status:=.running,dying:=Ns } { w with heap:=w.heap.setIfInBounds g (.cells c a) }
  | _=>.ended (.stuck "early: the variable does not wait" (b.pos Q)) w):=λw=>by
  split
  ·exact bq h
  ·exact aP
 dsimp only;split
 ·exact e _
 ·split
  ·exact aP
  ·repeat' split
   all_goals first
    | exact e _
    | exact aP
    | exact bq h
    | exact DN h
    | skip
def fN(hrf:Q.follows .rangeFuncRecover=NB){b:NS}{c pre:Nu NS}(h:c=pre++[ay f])(s:Rw SX)(u:Nt):dk f (Pw Q NB b c Ns s u):=by
 unfold Pw;simp only[if_true,OL,hrf];refine ew ?_;cases s.run Q u with
 | ok a w=>
  cases a with
  | recover=>
   have i:∀{v k},Ou b c=Nq (v,k)->dk f (.go { frame:=b.finish v,callers:=k,status:=.running,dying:=Ns } w):=λe=>by
    have⟨g,j⟩:=mg h e;exact bq j
   rcases hX:Ou b c with _ | ⟨v,k⟩<;>cases hro:b.roundOf<;>simp only[hX,hro]<;>first | exact i hX | exact bq h
  | spawn d=>
   dsimp only
   repeat' split
   all_goals first
    | exact lj
    | exact fM (λ_ _ _ e=>by cases e)
  | _=>
   dsimp only
   repeat' split
   all_goals first
    | exact bq h
    | exact rL h
    | exact fM (λ_ _ _ e=>by cases e)
 | halt x w=>
  cases x with
  | fatal m=>exact pJ
  | throw m=>exact lj
  | unsupported x=>cases x<;>first | exact yN h _ _ | exact aP
  | _=>first | exact bq h | exact aP
def rM{g:NS}{n pre:Nu NS}(h:n=pre++[ay f])(d:Qa)(u:Nt):dk f (Qd Q g n Ns d u):=by
 unfold Qd;by_cases k:(hU d.target && gZ g.mode)=NB
 ·have:∀(a b:QE),(∃o u l,a=.ended o u l)->dk f (if(hU d.target && gZ g.mode)=NB then a else b):=λa b ⟨o,u,l,e⟩=>by
   rw[if_pos k,e];exact aP
  exact this _ _ ⟨_,_,_,rfl⟩
 have i:∀(a b:QE),dk f b->dk f (if(hU d.target && gZ g.mode)=NB then a else b):=λa b q=>by rw[if_neg k];exact q
 refine i _ _ ?_;simp only[OL];refine ew ?_;cases Pr Q (invoke d.target d.args) u with
 | ok a w=>
  cases a with
  | recover=>
   dsimp only;split
   ·rename_i e
    have⟨j,p⟩:=mg h e;exact bq p
   ·exact bq h
  | coroswitch c e=>cases e<;>first | exact aP | exact fM (λ_ _ _ e=>by cases e)
  | alone on v=>cases on<;>first | exact aP | exact fM (λ_ _ _ e=>by cases e)
  | _=>
   first
    | exact bq h
    | exact rL h
    | exact aP
    | exact fM (λ_ _ _ e=>by cases e)
 | halt x w=>
  cases x with
  | fatal m=>exact pJ
  | throw m=>exact lj
  | _=>first | exact bq h | exact aP
def nT{d:NS}{a pre:Nu NS}(h:a=pre++[ay f])(u:Nt):dk f (SS Q NB d a Ns u):=by
 unfold SS;split
 ·simp only[OL];refine ew ?_;split
  ·exact bq h
  ·exact aP
 ·exact rM h _ _
 ·split
  ·exact aP
  ·split
   ·exact aP
   ·cases a with
    | nil=>cases pre<;>simp at h
    | cons c b=>exact jm h λe=>e ▸ vK _
  ·split
   ·exact jW h _ _
   ·simp only[OL];refine ew ?_;split
    ·exact jW h _ _
    all_goals exact aP
def AE(hrf:Q.follows .rangeFuncRecover=NB){fr:NS}{b pre:Nu NS}(h:b=pre++[ay f])(u:Nt):dk f (Re Q NB NB fr b Ns u):=by
 have a:∀(j:OI) (d:NO Qs) (s c:String),dk f (match fr.roundOf with
   | none=>if j=NB then .go { frame:={ fr with mode:=.returning },callers:=b,status:=.running,dying:=Ns } u else .ended (.stuck s (fr.pos Q)) u
   | some l=>
    let (r,es):=(QR l d).runT Q u #[]
    Pm (Wa Q fr.fn es) <| match r with
    | .ok v w=>Qg Q NB fr b Ns v w
    | .halt _ w=>.ended (.stuck c (fr.pos Q)) w):=λj d s c=>by
  split
  ·split
   ·exact bq h
   ·exact aP
  ·simp only[OL];refine ew ?_;split
   ·exact jW h _ _
   ·exact aP
 unfold Re;dsimp only;split
 ·exact a NB _ _ _
 ·exact a NB _ _ _
 all_goals first
  | exact bq h
  | exact aP
  | exact fN hrf h _ _
  | (
    generalize TU _ _=X;cases X
    ·exact a NC _ _ _
    ·exact bq h)
  | (
    generalize Uw _ _=X;cases X
    ·exact a NC _ _ _
    ·exact bq h)
  | (
    unfold Va
    repeat' split
    all_goals first
     | exact bq h
     | exact aP
     | exact fN hrf h _ _)
  | (
    simp only[OL];refine ew ?_
    repeat' split
    all_goals first
     | exact bq h
     | exact aP
     | exact fN hrf h _ _)
  | (
    repeat' split
    all_goals first
     | exact bq h
     | exact aP
     | exact fN hrf h _ _)
  | (
    generalize Extern.next _=X
    cases X
    ·exact aP
    ·exact fN hrf h _ _)
def kP(hrf:Q.follows .rangeFuncRecover=NB){g:NF}{pre:Nu NS}(h:g.callers=pre++[ay f])(a:g.dying=Ns)(u:Nt):dk f (Pj Q NB g u NB):=by
 obtain⟨c,i,d,e,b⟩:=g;dsimp only at h a;subst a;unfold Pj;dsimp only;cases c.mode with
 | run=>exact AE hrf h u
 | returning=>exact nT h u
 | panicking l=>exact nT h u
def kU{b:NS}(h:Popped f b)(d:QS)(a:NO (NJ Rf × QK))(u:Nt):∃o c e,Pj Q NB { frame:=b,callers:=[],status:=d,dying:=Ns,offers:=a } u NB=.ended o c e:=by
 rcases h with rfl | ⟨l,rfl⟩
 ·exact⟨_,_,_,rfl⟩
 ·exact⟨_,_,_,rfl⟩
end
end
section
def cH(g:NF)(u:Nt):Machine:={ world:=u,gs:=#[g],rest:={ timers:=#[],alone:=Ns,slice:=Ns } }
section
variable{Q:NR}
def uC{g:NF}{u:Nt}(h:g.status=.running):move Q (cH g u)=.goroutine (cH g u) 0:=by
 simp[move,ask,askOn,cH,Za,runnable.go,due,ahead,Goroutine.canRun,RF,choose,pure,Pr,Question.forced,h]
def nj{g a:NF}{u u1:Nt}{b:NJ Pz}(h:g.status=.running)(e:Pj Q NB g u NB=.go a u1 b):step Q (cH g u)=.next (cH a u1):=by
 rw[step,stepT,uC h];simp[Xb,cH,Zk,e]
def fW{g:NF}{u u1:Nt}{o:Wu}{a:NJ Pz}(h:g.status=.running)(e:Pj Q NB g u NB=.ended o u1 a):step Q (cH g u)=.ended o u1:=by
 rw[step,stepT,uC h];simp[Xb,cH,Zk,e]
def Ei{g:NF}(u:Nt)(h:zI g):(∃o u1,step Q (cH g u)=.ended o u1)\/∃c u1,step Q (cH g u)=.next (cH c u1)/\zI c:=by
 have eD:(g.status=.blocked\/g.status=.waiting\/g.status=.finished)->(∃o u1,step Q (cH g u)=.ended o u1)\/∃c u1,step Q (cH g u)=.next (cH c u1)/\zI c:=by
  intro x;by_cases p:g.status=.waiting
  ·refine .inr ⟨g,u,?_,.inr (.inl p)⟩;rw[step,stepT];simp[move,ask,askOn,cH,Za,runnable.go,due,ahead,Goroutine.canRun,RF,choose,pure,Pr,Question.forced,p]
  ·refine .inl ?_;have j:Za #[g] u.os.mono=[]:=by
    rcases x with h | h | h<;>simp[Za,runnable.go,Goroutine.canRun,h]
   have s:∀b,ahead (cH g u) b=Ns:=by
    intro b;rcases x with h | h | h<;>simp[ahead,cH,h]
   rw[step,stepT];have hm:∃o u1,move Q (cH g u)=.machine (.ended o u1):=by
    have a:=s NC;simp only[cH] at a;simp only[move,ask,askOn,cH,j,due,a];simp[pure,Pr,p];split
    ·rename_i t w
     rw[a] at w;cases w
    ·split
     ·exact⟨_,_,rfl⟩
     ·exact⟨_,_,rfl⟩
   obtain⟨o,u1,e⟩:=hm;rw[e];exact⟨o,u1,rfl⟩
 rcases h with h | h | h | ⟨h,d,z,A,y⟩
 ·exact eD (.inl h)
 ·exact eD (.inr (.inl h))
 ·exact eD (.inr (.inr h))
 ·have q:(∃o u1 k,Pj Q NB g u NB=.ended o u1 k)\/∃c u1 k,Pj Q NB g u NB=.go c u1 k/\zI c:=by
   obtain⟨H,L,D,I,C⟩:=g;obtain⟨v,n,l,i,G,B,fatal⟩:=d;dsimp only at h z A y;subst z;subst A;cases fatal with
   | none=>cases y
   | some f=>
    unfold Pj;dsimp only;unfold die writeOn;dsimp only;split
    ·exact .inl ⟨_,_,_,rfl⟩
    ·split
     ·exact .inr ⟨_,_,_,rfl,.inr (.inr (.inr ⟨rfl,_,rfl,rfl,rfl⟩))⟩
     ·exact .inr ⟨_,_,_,rfl,.inl rfl⟩
     ·exact .inl ⟨_,_,_,rfl⟩
     ·exact .inl ⟨_,_,_,rfl⟩
  rcases q with⟨o,u1,k,e⟩ | ⟨c,u1,k,e,r⟩
  ·exact .inl ⟨o,u1,fW h e⟩
  ·exact .inr ⟨c,u1,nj h e,r⟩
def AY:∀(n:NA) {g c:NF} {u u1:Nt},zI g->runN Q n (cH g u)=.next (cH c u1)->¬ Live c:=by
 intro n;induction n with
 | zero=>
  intro g c u u1 b e k;simp only[runN,Stepped.next.injEq,cH,Machine.mk.injEq] at e;obtain⟨_,e,_⟩:=e;have e:g=c:=by simpa using e
  subst e;obtain⟨a,i⟩:=k;rcases b with h | h | h | ⟨h,d,b,_⟩
  ·rw[h] at a;cases a
  ·rw[h] at a;cases a
  ·rw[h] at a;cases a
  ·rw[b] at i;cases i
 | succ n j=>
  intro g c u u1 b e;rcases Ei (Q:=Q) u b with⟨o,u2,h⟩ | ⟨l,u2,h,f⟩
  ·rw[runN,h] at e;cases e
  ·rw[runN,h] at e;exact j f e
end
section
variable[JunkSet]{Q:NR}{base:NA}{F:NF->Nt->Prop}
def LP.of_runs(H:Duo Q Q){f:Pl}:∀(n:NA) {g g1:NF} {u u1:Nt} {pre:Nu NS},ko Q base g u->Live g->g.callers=pre++[ay f] ->runN Q n (cH g u)=.next (cH g1 u1)->Live g1->(∃b,g1.callers=b++[ay f])->F g1 u1->LP Q F g u:=by
 intro n;induction n with
 | zero=>
  intro g g1 u u1 pre q k t e h _ v;simp only[runN,Stepped.next.injEq,cH,Machine.mk.injEq] at e;obtain⟨O,e,_⟩:=e;have e:g=g1:=by simpa using e
  subst e;subst O;exact .done v
 | succ n G=>
  intro g g1 u u1 pre q k t e h j v;have B:=q.one H;cases hs:Pj Q NB g u NB with
  | go w u2 D=>
   rw[runN,nj k.1 hs] at e;have c:=B.flat;rw[hs] at c;have r:g.callers≠[]:=by rw[t];simp
   rcases c with a | I | s
   ·have p:=q.next H hs a.1 a.2
    rcases kP (f:=f) H.rfr t k.2 u w u2 D hs a.1 a.2 with⟨x,d⟩ | ⟨d,A⟩
    ·exact .step hs a.1 a.2 (G p a d e h j v)
    ·exfalso;cases n with
     | zero=>
      simp only[runN,Stepped.next.injEq,cH,Machine.mk.injEq] at e;obtain⟨_,e,_⟩:=e;have e:w=g1:=by simpa using e
      subst e;obtain⟨b,C⟩:=j;rw[d] at C;cases b<;>simp at C
     | succ n=>
      obtain⟨M,R,l,P,i⟩:=w;obtain⟨z,y⟩:=a;dsimp only at d A z y;subst d;subst y;have⟨o,u3,N,L⟩:=kU (Q:=Q) A l i u2;unfold runN at e;dsimp only at e;rw[fW z L] at e;cases e
   ·exact absurd h (AY n I e)
   ·exact absurd s r
  | ended o u2 D=>
   rw[runN,fW k.1 hs] at e;cases e
  | _=>have c:=B.flat;rw[hs] at c;exact c.elim
def AtRet(Q:NR)(f:Pl)(a:Nu NS)(R:Ending->Nt->Prop)(g:NF)(u:Nt):Prop :=
 Live g/\g.callers=a/\g.frame.fn=f/\∃T e,R e (u.tp T)/\g.frame.leaving Q (u.tp T) e
def AtRet.tape{f:Pl}{a:Nu NS}{R:Ending->Nt->Prop}{g:NF}{u:Nt}(T:NA->Qe->NA)(h:AtRet Q f a R g u):AtRet Q f a R g (u.tp T):=by
 obtain⟨j,i,d,k,e,c,b⟩:=h;exact⟨j,i,d,k,e,c,b⟩
def eP(Q:NR)(f:Pl)(a:NJ Ny)(b:Nu NS):NF:={ frame:=OT Q f a .normal,callers:=b,status:=.running,dying:=Ns }
def LT.of_calls(H:Duo Q Q){f:Pl}{a:NJ Ny}{w:Nt}{R:Ending->Nt->Prop}(s:∀T,Oz Q f a (w.tp T) R)(i:∀u,¬ R .outgrown u)(o:ko Q base (eP Q f a [ay f]) w):LT Q (AtRet Q f [ay f] R) (eP Q f a [ay f]) w:=by
 refine LT.of_all H (λg u T h=>h.tape T) o λT=>?_;have⟨e,l,q,p,b,k,j⟩:=s T [ay f];have d:Steps Q (lone (OT Q f a .normal) [ay f] (w.tp T)) (lone q [ay f] l):=by
  cases e with
  | returned v=>exact b
  | panicked c=>exact b
  | outgrown=>exact absurd p (i _)
 obtain⟨n,r⟩:=d;exact LP.of_runs H (f:=f) n (g:=eP Q f a [ay f]) (g1:={ frame:=q,callers:=[ay f],status:=.running,dying:=Ns }) (u:=w.tp T) (pre:=[]) (o.tape T) ⟨rfl,rfl⟩ rfl r ⟨rfl,rfl⟩ ⟨[],rfl⟩ ⟨⟨rfl,rfl⟩,rfl,k,l.tape,e,p,j⟩
end
end
section
section
variable[JunkSet]{Q P:NR}{Z:Ren}{base:NA}{wq w:Nt}{F:NF->Nt->Prop}
def LT.next{g:NF}{u:Nt}(h:LT Q F g u)(d:¬ F g u)(T:NA->Qe->NA):∃a u1 b,Pj Q NB g (u.tp T) NB=.go a u1 b/\a.status=.running/\a.dying=Ns/\LT Q F a u1:=by
 cases h with
 | done h=>exact absurd h d
 | step _ k j=>
  have⟨a,u1,b,e,c,i⟩:=k T;exact⟨a,u1,b,e,c,i,j T a u1 b e⟩
def Below(Q:NR)(F:NF->Nt->Prop)(a b:NF × Nt):Prop :=
 ¬ F b.1 b.2/\∃T c,Pj Q NB b.1 (b.2.tp T) NB=.go a.1 a.2 c
def LT.acc{g:NF}{u:Nt}(h:LT Q F g u):Acc (Below Q F) (g,u):=by
 induction h with
 | done h=>exact .intro _ λy a=>absurd h a.1
 | step _ _ _ b=>exact .intro _ λy a=>let ⟨T,es,e⟩:=a.2;b T y.1 y.2 es e
def rH(H:Duo Q P)(r:base<=Z.length)(c:WR Q base Z wq w)(s:Gl P Z){g x:NF}(v:ir Q P Z g x)(G:LT Q F g wq)(u:¬ F g wq)(b:OI) :∃O f d a h j,Pj P b x w NB=.go a h j/\sP Q P O f a/\WR Q base O d h/\Gl P O/\base<=O.length/\LT Q F f d/\Below Q F (f,d) (g,wq)/\Eff base Z O w h/\(∀e∈j,iy base O e)/\f.status=.running/\f.dying=Ns:=by
 let T:NA->Qe->NA:=λn q=>w.tape (n - wq.drawn+w.drawn) q
 have⟨f,u1,j,e,l,p,o⟩:=G.next u T
 have i:WR Q base Z (wq.tp T) w:=⟨c.len,c.nodup,c.lt,c.obj,c.low,c.env,c.below,c.gar⟩;have D:=yu H r i s v;have hm:=(D.go _ _ _ e l p).2.1;have C:cj u1.drawn (wq.tp T) w:=λn q _=>by
  show w.tape (wq.drawn+n - wq.drawn+w.drawn) q=w.tape (w.drawn+n) q;rw[show wq.drawn+n - wq.drawn+w.drawn=w.drawn+n by omega]
 have⟨O,a,h,t,B,A,z,_,k,y,_⟩:=uk H r i s C hm v b _ _ _ e (Nv _) l p;exact⟨O,f,u1,a,h,t,B,A,z,s.mono k.le,NM r k.le.len,o,⟨u,T,j,e⟩,k,y,l,p⟩
def WR.rely(h:WR Q base Z wq w){a:Nt}(g:w.heap.size<=a.heap.size)(b:a.os.env=w.os.env)(p:∀i j,BR Z i j->¬ JunkSet.jk i->a.heap[j]?=w.heap[j]?)(q:∀i j,BR Z i j->JunkSet.jk i->∃c e f,a.heap[j]?=Nq (.cells c e f)):WR Q base Z wq a where
 len:=h.len
 nodup:=h.nodup
 lt i j hb:=NX (h.lt i j hb) g
 obj i j o hb ho:=by
  rcases h.obj i j o hb ho with⟨d,l,k,_⟩ | ⟨d,n,l,k⟩
  ·exact .inl ⟨d,l,k,q i j hb d⟩
  ·exact .inr ⟨d,n,by rw[p i j hb d];exact l,k⟩
 low:=h.low
 env:=h.env.trans b.symm
 below:=h.below
 gar:=h.gar
end
end
section
def Cz(g:NF):Prop:=∀r a k,g.frame.todo≠.extern r a::k
def swap(real:Nu NS)(g:NF):NF:={ g with callers:=g.callers.dropLast++real }
def cf(real:Nu NS)(r c:QE):Prop:=∀a u1 b,r=.go a u1 b->Live a->a.callers≠[]->Cz a->c=.go (swap real a) u1 b
section
variable[JunkSet]{P:NR}{f:Pl}{real:Nu NS}
def iU{r a:QE}{b:NJ Pz}(h:cf real r a):cf real (Pm b r) (Pm b a):=λk u1 j e d g c=>by
 obtain⟨l,i,rfl⟩:=dc e;rw[h _ _ _ i d g c];rfl
def bx{o:Wu}{u:Nt}{b:NJ Pz}{a:QE}:cf real (.ended o u b) a:=λ_ _ _ e _ _ _=>by cases e
def kN{r b:QE}(h:∀g u a,r≠.go g u a):cf real r b:=λg u a e _ _ _=>absurd e (h g u a)
def IJ{g:NF}{u:Nt}{c:NJ Pz}{a:QE}(h:¬ Live g):cf real (.go g u c) a:=λ_ _ _ e b _ _=>by cases e;exact absurd b h
def xH{c:NS}{d:Nu NS}{m:String}{u:Nt}{a:QE}:cf real (Vo P c d Ns m u) a:=λg u1 h e b _ _=>absurd b.2 (bD e)
def qM{b:NS}{m:String}{u:Nt}{a:QE}:cf real (UL b m u) a:=IJ λh=>by cases h.2
def eW{c:NS}{pre:Nu NS}{b:QS}{g:NO TC}{a:NO (NJ Rf × QK)}{u:Nt}{d:NJ Pz} :cf real (.go { frame:=c,callers:=pre++[ay f],status:=b,dying:=g,offers:=a } u d) (.go { frame:=c,callers:=pre++real,status:=b,dying:=g,offers:=a } u d):=λ_ _ _ e _ _ _=>by
 cases e;simp[swap]
def Bw{d a:NS}{pre:Nu NS}{c:QS}{g:NO TC}{b:NO (NJ Rf × QK)}{u:Nt}{e:NJ Pz} :cf real (.go { frame:=d,callers:=a::(pre++[ay f]),status:=c,dying:=g,offers:=b } u e) (.go { frame:=d,callers:=a::(pre++real),status:=c,dying:=g,offers:=b } u e) :=
 eW (pre:=a::pre)
def KE{d a:NS}{X pre:Nu NS}{c:QS}{h:NO TC}{b:NO (NJ Rf × QK)}{u:Nt}{g:NJ Pz} :cf real (.go { frame:=d,callers:=X++a::(pre++[ay f]),status:=c,dying:=h,offers:=b } u g) (.go { frame:=d,callers:=X++a::(pre++real),status:=c,dying:=h,offers:=b } u g):=λ_ _ _ e _ _ _=>by
 cases e;have:X++a::(pre++[ay f])=(X++a::pre)++[ay f]:=by simp
 simp only[swap,this,Vp];simp
def EZ{d:NS}{a:QS}{h:NO TC}{u:Nt}{g:NJ Pz}{b:QE}:cf real (.go { frame:=d,callers:=[],status:=a,dying:=h } u g) b:=λ_ _ _ e _ c _=>by
 cases e;exact absurd rfl c
def Fa{b:NS}{l:Nu NS}{c:QS}{j:NO TC}{u:Nt}{i:NJ Pz}{d:QE}{x:String}{a:NJ Ny}{k:Nu Si}(h:b.todo=.extern x a::k):cf real (.go { frame:=b,callers:=l,status:=c,dying:=j } u i) d:=λ_ _ _ e _ _ g=>by
 cases e;exact absurd h (g _ _ _)
def eI(a:NS):Ou a [ay f]=Ns:=by
 unfold Ou;cases a.kind<;>rfl
def nG(g:∀b,Ou b real=Ns):∀(pre:Nu NS) (b:NS),(Ou b (pre++[ay f])=Ns/\Ou b (pre++real)=Ns)\/∃v a,Ou b (pre++[ay f])=Nq (v,a++[ay f])/\Ou b (pre++real)=Nq (v,a++real):=by
 intro pre;induction pre with
 | nil=>intro b;exact .inl ⟨eI b,g b⟩
 | cons p pre e=>
  intro b;simp only[Oa];unfold Ou;cases hk:b.kind with
  | deferred=>
   dsimp only;split
   ·exact .inr ⟨_,_::pre,rfl,rfl⟩
   ·exact .inl ⟨rfl,rfl⟩
  | wrapped=>
   dsimp only;rcases e p with⟨d,c⟩ | ⟨v,a,d,c⟩
   ·rw[d,c];exact .inl ⟨rfl,rfl⟩
   ·rw[d,c];exact .inr ⟨v,p::a,rfl,rfl⟩
  | _=>exact .inl ⟨rfl,rfl⟩
def oA{a:NS}{pre:Nu NS}(b c:OI)(v:Ny)(u:Nt):cf real (Qg P b a (pre++[ay f]) Ns v u) (Qg P c a (pre++real) Ns v u):=by
 unfold Qg;cases pre with
 | nil=>
  simp only[On];split<;>exact EZ
 | cons p pre=>
  simp only[Oa];split<;>exact eW
def Fb{a:NS}{pre:Nu NS}(g:NA)(u:Nt):cf real (early P a (pre++[ay f]) Ns g u) (early P a (pre++real) Ns g u):=by
 unfold early;dsimp only
 repeat' split
 all_goals first
  | exact eW
  | exact bx
  | exact KE
def kO(hrf:P.follows .rangeFuncRecover=NB)(i:∀b,Ou b real=Ns){b:NS}{pre:Nu NS}(s:Rw SX)(u:Nt):cf real (Pw P NB b (pre++[ay f]) Ns s u) (Pw P NB b (pre++real) Ns s u):=by
 unfold Pw;simp only[if_true,OL,hrf];refine iU ?_;cases s.run P u with
 | ok a w=>
  cases a with
  | recover=>
   rcases nG (f:=f) i pre b with⟨h,g⟩ | ⟨v,c,h,g⟩<;>cases hro:b.roundOf<;>simp only[h,g,hro]<;>exact eW
  | stack r j=>
   dsimp only;split
   ·exact Fa rfl
   ·exact Fa rfl
  | spawn d=>
   dsimp only
   repeat' split
   all_goals first
    | exact qM
    | exact kN (λ_ _ _ e=>by cases e)
  | _=>
   dsimp only
   repeat' split
   all_goals first
    | exact eW
    | exact Bw
    | exact kN (λ_ _ _ e=>by cases e)
 | halt x w=>
  cases x with
  | fatal m=>exact xH
  | throw m=>exact qM
  | unsupported x=>cases x<;>first | exact Fb _ _ | exact bx
  | _=>first | exact eW | exact bx
def xI(t:∀g,Ou g real=Ns){g:NS}{pre:Nu NS}(d:Qa)(u:Nt):cf real (Qd P g (pre++[ay f]) Ns d u) (Qd P g (pre++real) Ns d u):=by
 unfold Qd;by_cases h:(hU d.target && gZ g.mode)=NB
 ·have:∀(a b k:QE),(∃o u q,a=.ended o u q)->cf real (if(hU d.target && gZ g.mode)=NB then a else b) k:=λa b k ⟨o,u,q,e⟩=>by
   rw[if_pos h,e];exact bx
  exact this _ _ _ ⟨_,_,_,rfl⟩
 have i:∀(a b r j:QE),cf real b j->cf real (if(hU d.target && gZ g.mode)=NB then a else b) (if(hU d.target && gZ g.mode)=NB then r else j):=λa b r j s=>by rw[if_neg h,if_neg h];exact s
 refine i _ _ _ _ ?_;simp only[OL];refine iU ?_;cases Pr P (invoke d.target d.args) u with
 | ok a w=>
  cases a with
  | recover=>
   dsimp only;rcases nG (f:=f) t pre g with⟨p,n⟩ | ⟨v,l,p,n⟩<;>rw[p,n]<;>cases g.mode<;>exact eW
  | coroswitch c e=>cases e<;>first | exact bx | exact kN (λ_ _ _ e=>by cases e)
  | alone on v=>cases on<;>first | exact bx | exact kN (λ_ _ _ e=>by cases e)
  | _=>
   first
    | exact eW
    | exact Bw
    | exact bx
    | exact kN (λ_ _ _ e=>by cases e)
 | halt x w=>
  cases x with
  | fatal m=>exact xH
  | throw m=>exact qM
  | _=>first | exact eW | exact bx
def tS(c:∀a,Ou a real=Ns){a:NS}{pre:Nu NS}(b d:OI)(u:Nt):cf real (SS P b a (pre++[ay f]) Ns u) (SS P d a (pre++real) Ns u):=by
 unfold SS;split
 ·simp only[OL];refine iU ?_;split
  ·exact eW
  ·exact bx
 ·exact xI c _ _
 ·split
  ·exact bx
  ·split
   ·exact bx
   ·cases pre with
    | nil=>exact EZ
    | cons p pre=>exact eW
  ·split
   ·exact oA _ _ _ _
   ·simp only[OL];refine iU ?_;split
    ·exact oA _ _ _ _
    all_goals exact bx
def II(hrf:P.follows .rangeFuncRecover=NB)(c:∀fr,Ou fr real=Ns){fr:NS}{pre:Nu NS}(b g:OI)(u:Nt) :cf real (Re P b NB fr (pre++[ay f]) Ns u) (Re P g NB fr (pre++real) Ns u):=by
 have a:∀(j:OI) (e:NO Qs) (s d:String),cf real (match fr.roundOf with
   | none=>if j=NB then .go { frame:={ fr with mode:=.returning },callers:=pre++[ay f],status:=.running,dying:=Ns } u else .ended (.stuck s (fr.pos P)) u
   | some l=>
    let (r,es):=(QR l e).runT P u #[]
    Pm (Wa P fr.fn es) <| match r with
    | .ok v w=>Qg P b fr (pre++[ay f]) Ns v w
    | .halt _ w=>.ended (.stuck d (fr.pos P)) w) (match fr.roundOf with
   | none=>if j=NB then .go { frame:={ fr with mode:=.returning },callers:=pre++real,status:=.running,dying:=Ns } u else .ended (.stuck s (fr.pos P)) u
   | some l=>
    let (r,es):=(QR l e).runT P u #[]
    Pm (Wa P fr.fn es) <| match r with
    | .ok v w=>Qg P g fr (pre++real) Ns v w
    | .halt _ w=>.ended (.stuck d (fr.pos P)) w):=λj e s d=>by
  split
  ·split
   ·exact eW
   ·exact bx
  ·simp only[OL];refine iU ?_;split
   ·exact oA _ _ _ _
   ·exact bx
 unfold Re;dsimp only;split
 ·exact a NB _ _ _
 ·exact a NB _ _ _
 all_goals first
  | exact eW
  | exact bx
  | exact kO hrf c _ _
  | (
    generalize TU _ _=X;cases X
    ·exact a NC _ _ _
    ·exact eW)
  | (
    generalize Uw _ _=X;cases X
    ·exact a NC _ _ _
    ·exact eW)
  | (
    unfold Va
    repeat' split
    all_goals first
     | exact eW
     | exact bx
     | exact kO hrf c _ _)
  | (
    simp only[OL];refine iU ?_
    repeat' split
    all_goals first
     | exact eW
     | exact bx
     | exact kO hrf c _ _)
  | (
    repeat' split
    all_goals first
     | exact eW
     | exact bx
     | exact kO hrf c _ _)
  | (
    generalize Extern.next _=X
    cases X
    ·exact bx
    ·exact kO hrf c _ _)
def tR(hrf:P.follows .rangeFuncRecover=NB)(c:∀d,Ou d real=Ns){g:NF}{pre:Nu NS}(h:g.callers=pre++[ay f])(e:g.dying=Ns)(b a:OI)(u:Nt) :cf real (Pj P b g u NB) (Pj P a (swap real g) u NB):=by
 obtain⟨d,n,j,k,i⟩:=g;dsimp only at h e;subst e;subst h;unfold Pj;simp only[swap,Vp];cases d.mode with
 | run=>exact II hrf c b a u
 | returning=>exact tS c b a u
 | panicking l=>exact tS c b a u
end
end
section
section
variable[JunkSet]{Q P:NR}{base:NA}{F:NF->Nt->Prop}{f:Pl}{real:Nu NS}
def Be{Z:Ren}{b:NS}(h:aG Q P Z (ay f) b):b=ay f:=by
 obtain⟨D,g,e,c,i,n,x⟩:=b;obtain⟨j,_,_,w,v,u,s,r,q⟩:=h;dsimp only[ay] at j w v u s r q;have C:g=#[]:=by
  have:=w.1;exact Tl (by simpa using this.symm)
 have B:e=[.code (.exit 0)]:=by
  cases v with
  | cons k l=>cases k;cases l;rfl
 have A:c=[{ target:=.nil,args:=#[] }]:=by
  cases u with
  | cons k l=>
   cases l
   rename_i d
   obtain⟨t,a⟩:=d;rcases k with⟨o,p⟩ | ⟨j,_,_⟩
   case bound=>cases j
   dsimp only at o p;cases o;have:a=#[]:=Tl (by simpa using p.1.symm);rw[this]
 have z:i=.run:=by cases s;rfl
 have y:x=Ns:=by
  rcases q with⟨_,h⟩ | ⟨_,_,h,_⟩
  ·exact h
  ·cases h
 subst C B A z y;subst j;subst r;rfl
def iY{Z:Ren}:∀{pre b:Nu NS},LsR (aG Q P Z) (pre++[ay f]) b->∃a,b=a++[ay f]/\LsR (aG Q P Z) pre a:=by
 intro pre;induction pre with
 | nil=>
  intro b h;cases h with
  | cons c d=>cases d;exact⟨[],by rw[Be c];rfl,.nil⟩
 | cons p pre g=>
  intro b h;cases h with
  | cons c d=>
   have⟨a,e,i⟩:=g d;exact⟨_::a,by rw[e];rfl,.cons c i⟩
structure Sub(Q P:NR)(base:NA)(F:NF->Nt->Prop)(f:Pl)(real:Nu NS)(Z:Ren)(g:NF)(wq:Nt)(g':NF)(w:Nt):Prop where
 len:base<=Z.length
 wr:WR Q base Z wq w
 gl:Gl P Z
 tree:LT Q F g wq
 stack:∃pre,g.callers=pre++[ay f]
 rel:∃gv,ir Q P Z g gv/\g'=swap real gv
def rB{Z:Ren}{g b:NF}(h:ir Q P Z g b):Cz b:=λr a k e=>by
 have:=h.frame.todo;rw[e] at this;generalize g.frame.todo=l at this;cases this with
 | cons c _=>cases c
def Sub.ret(H:Duo Q P){c:NS}{Z:Ren}{g:NF}{o:Nt}{g':NF}{w:Nt}(h:Sub Q P base F f (c::real) Z g o g' w)(A:g.callers=[ay f]){T:NA->Qe->NA}{v:Ny}(U:g.frame.leaving Q (o.tp T) (.returned v))(b:OI) :∃O p v' C es,Pj P b g' w NB=.go { frame:=c.finish v',callers:=real,status:=.running,dying:=Ns } C es/\VR O v v'/\WR Q base O p C/\p=o.tp T/\Eff base Z O w C/\(∀e∈es,iy base O e):=by
 obtain⟨gv,hg,rfl⟩:=h.rel;obtain⟨hm,hd,hk,j,x,i⟩:=U;obtain⟨fr,cs,st,dy,c9⟩:=g;obtain⟨a,a9,G,g5,s⟩:=gv;obtain⟨k,h2,h3,h4,h5,h6⟩:=hg;dsimp only at k h2 h3 h4 h5 h6 hm hd hk x i A;subst h6;subst A;have⟨b0,R,U⟩:=iY (pre:=[]) h2;cases U;have R:a9=[ay f]:=R;subst R;have⟨gf,t,W⟩:=k.same;have X:j=gf:=by rw[x] at t;exact QQ t
 subst X;have S:a.mode=.returning:=by
  have:=k.mode;rw[hm] at this;generalize a.mode=m at this;cases this;rfl
 have a8:a.defers=[]:=by
  have:=k.defers;rw[hd] at this;generalize a.defers=m at this;cases this;rfl
 have V:a.kind=.normal:=k.kind.trans hk;have hs:=mD H h.gl j k.tmps (Q:=Q) (P:=P);have z:=Dry.run Q (w:=o.tp T) (pP j fr.tmps);have L:WR Q base Z (o.tp T) w:=⟨h.wr.len,h.wr.nodup,h.wr.lt,h.wr.obj,h.wr.low,h.wr.env,h.wr.below,h.wr.gar⟩;have⟨O,c8,B,l,d,a6,Y,I,_,a7,_⟩:=SR.runs (es:=#[]) (D:=(o.tp T).drawn) hs h.len L (λn q hn=>absurd hn (by omega)) (Sv z) (by rw[i];trivial);rw[i] at d;have M:∀{v'},Pr P (Qo j a.tmps) w=.ok v' B->Pj P b (swap (c::real) { frame:=a,callers:=[ay f],status:=G,dying:=Ns,offers:=s }) w NB =
   .go { frame:=c.finish v',callers:=real,status:=.running,dying:=Ns } B (Wa P a.fn l):=by
  intro v' N;have y:(Qo j a.tmps).events P w #[]=l:=by
   show((Qo j a.tmps).runT P w #[]).2=l;rw[a6];simp
  have u:P.funcs[a.fn]?=Nq j:=by rw[k.fn];exact W
  simp[Pj,swap,S,SS,a8,u,OL,N,y,Qg,V,Pm]
 generalize N:Pr P (Qo j a.tmps) w=r at d;cases d with
 | ok _ _ hv=>exact⟨O,_,_,B,_,M N,hv,I,rfl,a7,λe he=>Y e (gV _ _ _ e he)⟩
def wW{Z:Ren}(c:Q.inits.idxOf? f=Ns)(b:∃g,Q.funcs[f]?=Nq g/\P.funcs[f]?=Nq g):aG Q P Z (ay f) (ay f) :=
 ⟨rfl,b,c,⟨rfl,λi x y a=>by simp[ay] at a⟩,.cons (.code (.exit 0)) .nil,.cons (.mk .nil ⟨rfl,λi x y a=>by simp at a⟩) .nil,.run,rfl,.inl ⟨rfl,rfl⟩⟩
def sf(H:Duo Q P){Z:Ren}(c:JunkSet.okf f)(b:Q.funcs[f]?=P.funcs[f]?){a i:NJ Ny}(j:AsR Z a i):ir Q P Z (eP Q f a [ay f]) (eP P f i [ay f]):=by
 have⟨k,h,g,d,_⟩:=H.funcs f c;have e:h=k:=by rw[g,d] at b;exact(QQ b).symm
 subst e;exact⟨Hl H c b j .normal,.cons (wW (H.inits f c) ⟨h,g,d⟩) .nil,rfl,rfl,rfl,rfl⟩
def Sub.enter(H:Duo Q P){Z:Ren}(h:JunkSet.okf f)(g:Q.funcs[f]?=P.funcs[f]?){a c:NJ Ny}(j:AsR Z a c){b w:Nt}(i:base<=Z.length)(d:WR Q base Z b w)(k:Gl P Z)(e:LT Q F (eP Q f a [ay f]) b) :Sub Q P base F f real Z (eP Q f a [ay f]) b { frame:=OT P f c .normal,callers:=real,status:=.running,dying:=Ns } w :=
 ⟨i,d,k,e,⟨[],rfl⟩,eP P f c [ay f],sf H h g j,rfl⟩
end
end
section
section
variable[JunkSet]{Q:NR}{Z:Ren}{base:NA}{wq w:Nt}
end
end
section
section
variable[JunkSet]{Q P:NR}{base:NA}{F:NF->Nt->Prop}{f:Pl}{real:Nu NS}
structure MQ(Q P:NR)(base:NA)(F:NF->Nt->Prop)(f:Pl)(real:Nu NS)(Z:Ren)(fk:Pl)(k:YZ)(a a':NJ Ny)(c c':NS)(pre pre':Nu NS)(wq w:Nt):Prop where
 len:base<=Z.length
 wr:WR Q base Z wq w
 gl:Gl P Z
 tree:LT Q F { frame:=OT Q fk a k,callers:=c::(pre++[ay f]),status:=.running,dying:=Ns } wq
 diff:Q.funcs[fk]?≠P.funcs[fk]?
 okf:JunkSet.okf fk
 args:AsR Z a a'
 top:aG Q P Z c c'
 rest:LsR (aG Q P Z) pre pre'
def Sub.stepK(H:Duo Q P)(hrf:P.follows .rangeFuncRecover=NB)(hR:∀fr,Ou fr real=Ns){Z:Ren}{g:NF}{U:Nt}{g':NF}{w:Nt}(h:Sub Q P base F f real Z g U g' w)(hn:¬ F g U)(b:OI)(hF:∀g u,F g u->g.callers≠[]) :∃O z i D A N,Pj P b g' w NB=.go D A N/\Below Q F (z,i) (g,U)/\Eff base Z O w A/\(∀e∈N,iy base O e)/\Live D /\(Sub Q P base F f real O z i D A\/∃fk k a a' c S pre t,MQ Q P base F f real O fk k a a' c S pre t i A /\z={ frame:=OT Q fk a k,callers:=c::(pre++[ay f]),status:=.running,dying:=Ns } /\D={ frame:=OT P fk a' k,callers:=S::(t++real),status:=.running,dying:=Ns }):=by
 obtain⟨gv,R,rfl⟩:=h.rel;have⟨pre,y⟩:=h.stack;have a6:=R.callers;rw[y] at a6;have⟨t,v,_⟩:=iY a6;have⟨O,z,i,M,A,N,k0,B,k2,k3,k4,k5,k6,k7,k8,W,C⟩:=rH H h.len h.wr h.gl R h.tree hn b;obtain⟨_,T,G,e1⟩:=k6;dsimp only at e1;have X:Q.follows .rangeFuncRecover=NB:=H.rfr;have s:z.callers≠[]:=λs=>by
  rcases kP (f:=f) X y R.dy (U.tp T) z i G e1 W C with⟨d,I⟩ | ⟨_,hp⟩
  ·rw[s] at I;cases d<;>simp at I
  ·cases k5 with
   | done I=>exact hF _ _ I s
   | step _ h1 _=>
    have⟨g2,u2,l4,e2,_,_⟩:=h1 i.tape;obtain⟨h8,l6,b0,l5,V⟩:=z;dsimp only at s hp C;subst s;subst C;have⟨o,u3,k9,h3⟩:=kU (Q:=Q) hp b0 V (i.tp i.tape);rw[h3] at e2;cases e2
 have b7:∃d,z.callers=d++[ay f]:=by
  rcases kP (f:=f) X y R.dy (U.tp T) z i G e1 W C with I | ⟨I,_⟩
  ·exact I
  ·exact absurd I s
 obtain⟨d,q⟩:=b7;rcases B with⟨_,B⟩ | ⟨fk,k,a,a',c,S,cs,l7,b9,b8,rfl,rfl,ha,hc,n,hm⟩
 ·have n:=B.callers;rw[q] at n;have⟨j,Y,_⟩:=iY n;have L:=tR hrf hR (f:=f) v R.dy' b b w M A N k0 ⟨B.st',B.dy'⟩ (by rw[Y];simp) (rB B);exact⟨O,z,i,swap real M,A,N,L,⟨hn,T,G,e1⟩,k7,k8,⟨B.st',B.dy'⟩,.inl ⟨k4,k2,k3,k5,⟨d,q⟩,M,B,rfl⟩⟩
 ·cases d with
  | nil=>
   exfalso;simp only[On,QT] at q;rw[q.1] at hm;rcases hm with hm | hm
   ·exact hm rfl
   ·exact hm _ _ rfl
  | cons p d=>
   simp only[Oa,QT] at q;obtain⟨rfl,rfl⟩:=q;obtain⟨j,rfl,hl⟩:=iY n;have L:=tR hrf hR (f:=f) v R.dy' b b w _ A N k0 ⟨rfl,rfl⟩ (by simp) (by intro r x l hx;unfold OT at hx;simp at hx);refine⟨O,_,i,_,A,N,L,⟨hn,T,G,e1⟩,k7,k8,⟨rfl,rfl⟩,.inr ⟨fk,k,a,a',c,S,d,j,⟨k4,k2,k3,k5,b9,b8,ha,hc,hl⟩,rfl,?_⟩⟩;have:S::(j++[ay f])=(S::j)++[ay f]:=rfl;simp only[swap,this,Vp];rfl
end
end
end Go.Sim
namespace Go.Co
section
open Go.Conc Go.ConcN
inductive Cl where
 | mine (g:NA)
 | ro (lo:NA)
 | sync
def blk:Loc->NO NA
 | .cell a=>Nq a.block
 | .obj r=>Nq r
 | _=>Ns
def JQ{l:Loc}(h:l.isMemory=NB):∃b,blk l=Nq b:=by
 cases l<;>first | exact⟨_,rfl⟩ | cases h
structure Tr(cl:NA->Cl)(n size:NA)(t:Vx):Prop where
 inb:∀i a b,Ug t i=Nq a->blk a.loc=Nq b->b<size
 sync:∀i a b,Ug t i=Nq a->blk a.loc=Nq b->cl b=.sync->a.kind≠.plain/\(a.kind=.said->t.g? i=Nq 0)
 plain:∀i a b,Ug t i=Nq a->blk a.loc=Nq b->cl b≠.sync->a.kind=.plain
 mine:∀i a b g,Ug t i=Nq a->blk a.loc=Nq b->cl b=.mine g->Knows t g i
 ro:∀i a b lo,Ug t i=Nq a->blk a.loc=Nq b->cl b=.ro lo->a.write=NB->Knows t 0 i/\∀g,lo<=g->g<n->Knows t g i
 nr:∀said,¬ Race said t
 gs:∀(i:NA) (op:WL),t[i]?=Nq op->op.g<n
def MN(cl:NA->Cl)(size g:NA)(x:Touch):Prop:=∀b,blk x.loc=Nq b->b<size /\
 ((cl b=.mine g/\x.kind=.plain)\/(∃a,cl b=.ro a/\(g=0\/a<=g)/\x.write=NC/\x.kind=.plain)\/(cl b=.sync/\x.kind≠.plain/\(x.kind=.said->g=0)))
def Kv(cl:NA->Cl)(size g:NA)(a:WL):Prop:=a.g=g/\∀x,a.act.touch?=Nq x->MN cl size g x
section
variable{cl cl':NA->Cl}{n size size' g:NA}{t u:Vx}
def gK{i:NA}{a:Touch}(h:Ug (t++u) i=Nq a):(i<t.size/\Ug t i=Nq a)\/(t.size<=i/\∃c,(t++u)[i]?=Nq c/\c∈u/\c.act.touch?=Nq a):=by
 have⟨x,j,b⟩:=touch_of h;rcases TM j with⟨f,e⟩ | ⟨f,d⟩
 ·exact .inl ⟨f,by rw[touchAt_of e];exact b⟩
 ·exact .inr ⟨f,x,j,d,b⟩
def uQ{i:NA}{a:WL}(h:t[i]?=Nq a):t.g? i=Nq a.g:=by simp[Trace.g?,h]
def Tr.fresh'(h:Tr cl n size t){m:NA}(hm:∀i a b,Ug t i=Nq a->blk a.loc=Nq b->b<m)(f:∀b,b<m->cl' b=cl b):Tr cl' n size t :=
 ⟨h.inb,λi a b d c e=>h.sync i a b d c (by rw[<- f b (hm i a b d c)];exact e),λi a b d c e=>h.plain i a b d c (by rw[<- f b (hm i a b d c)];exact e),
  λi a b g d c e=>h.mine i a b g d c (by rw[<- f b (hm i a b d c)];exact e),
  λi a b j d c e=>h.ro i a b j d c (by rw[<- f b (hm i a b d c)];exact e),h.nr,h.gs⟩
def Tr.grow(h:Tr cl n size t)(c:size<=size'):Tr cl n size' t :=
 ⟨λi a b e d=>NX (h.inb i a b e d) c,h.sync,h.plain,h.mine,h.ro,h.nr,h.gs⟩
def Tr.step(h:Tr cl n size t)(V:g<n)(o:∀d∈u,Kv cl size g d):Tr cl n size (t++u):=by
 refine⟨λi a b f l=>?_,λi a b f l j=>?_,λi a b f l j=>?_,λi a b U f l j=>?_,λi a b s f l j W=>?_,λB=>?_,λi d R=>?_⟩
 ·rcases gK f with⟨_,f⟩ | ⟨_,d,_,c,q⟩
  ·exact h.inb i a b f l
  ·exact((o d c).2 a q b l).1
 ·rcases gK f with⟨R,f⟩ | ⟨_,d,C,c,q⟩
  ·have⟨p,x⟩:=h.sync i a b f l j;exact⟨p,λe=>by rw[g?_old R];exact x e⟩
  ·rcases((o d c).2 a q b l).2 with⟨k,_⟩ | ⟨s,k,_⟩ | ⟨_,p,x⟩
   ·rw[j] at k;cases k
   ·rw[j] at k;cases k
   ·exact⟨p,λe=>by rw[uQ C,(o d c).1,x e]⟩
 ·rcases gK f with⟨_,f⟩ | ⟨_,d,C,c,q⟩
  ·exact h.plain i a b f l j
  ·rcases((o d c).2 a q b l).2 with⟨_,k⟩ | ⟨s,_,_,_,k⟩ | ⟨k,_⟩
   ·exact k
   ·exact k
   ·exact absurd k j
 ·rcases gK f with⟨_,f⟩ | ⟨_,d,C,c,q⟩
  ·exact(h.mine i a b U f l j).app u
  ·rcases((o d c).2 a q b l).2 with⟨k,_⟩ | ⟨s,k,_⟩ | ⟨k,_⟩
   ·rw[j] at k;cases k;have:=knows_own C
    rwa [(o d c).1] at this
   ·rw[j] at k;cases k
   ·rw[j] at k;cases k
 ·rcases gK f with⟨_,f⟩ | ⟨_,d,C,c,q⟩
  ·have⟨p,x⟩:=h.ro i a b s f l j W;exact⟨p.app u,λU Z Y=>(x U Z Y).app u⟩
  ·rcases((o d c).2 a q b l).2 with⟨k,_⟩ | ⟨s,_,_,k,_⟩ | ⟨k,_⟩
   ·rw[j] at k;cases k
   ·rw[W] at k;cases k
   ·rw[j] at k;cases k
 ·refine XD (h.nr B) (λd c=>(o d c).1) (λi a T d c b hb hc=>?_);obtain⟨F,D,N,y⟩:=hc;have⟨H,r⟩:=JQ D;have G:blk b.loc=Nq H:=by rw[<- F];exact r
  rcases((o d c).2 b hb H G).2 with⟨k,_⟩ | ⟨s,k,A,p,_⟩ | ⟨k,p,x⟩
  ·exact h.mine i a H g T r k
  ·have S:a.write=NB:=N.resolve_right (by simp[p]);have⟨L,I⟩:=h.ro i a H s T r k S;rcases A with rfl | A
   ·exact L
   ·exact I g A V
  ·have⟨L,I⟩:=h.sync i a H T r k;rcases y with y | y | ⟨_,y,O⟩
   ·exact absurd y L
   ·exact absurd y p
   ·have e:=I y;have e':=x O;have⟨z,X,M⟩:=Sw.1 e;have:=knows_own X
    rwa [M,<- e'] at this
 ·rcases TM R with⟨_,Q⟩ | ⟨_,P⟩
  ·exact h.gs i d Q
  ·rw[(o d P).1];exact V
def iT{x y:WL}{k:NA}{p:NA}(e:x.g=p/\x.act=.go k)(d:y.g=k/\y.act=.start){i:NA}{a:Touch}(h:Ug (t++#[x,y]) i=Nq a):i<t.size/\Ug t i=Nq a:=by
 rcases gK h with h | ⟨_,f,_,b,c⟩
 ·exact h
 ·simp only[Ro,ON,PY,or_false] at b;rcases b with rfl | rfl
  ·rw[e.2] at c;cases c
  ·rw[d.2] at c;cases c
def Tr.fork(h:Tr cl n size t)(L:0<n){x y:WL}(k:x.g=0/\x.act=.go n)(j:y.g=n/\y.act=.start)(H:WV t 0=0):Tr cl (n+1) size (t++#[x,y]):=by
 have F:WV t n=0:=Deaf_absent λi d v e=>by have:=h.gs i d v;omega
 refine⟨λi a b f l=>h.inb i a b (iT k j f).2 l,λi a b f l p=>?_,λi a b f l p=>h.plain i a b (iT k j f).2 l p,λi a b g f l p=>(h.mine i a b g (iT k j f).2 l p).app _,
  λi a b C f l p I=>?_,λq=>?_,λi d v=>?_⟩
 ·have⟨v,f⟩:=iT k j f;have⟨w,z⟩:=h.sync i a b f l p;exact⟨w,λe=>by rw[g?_old v];exact z e⟩
 ·have⟨w,z⟩:=h.ro i a b C (iT k j f).2 l p I;refine⟨w.app _,λg D M=>?_⟩;rcases PP g n with A | G
  ·exact(z g D A).app _
  ·obtain rfl:g=n:=by omega
   exact fork_knows k j H F w
 ·have r:∀d∈#[x,y],∀b,d.act.touch?=Nq b->RI:=by
   intro d c b o;simp only[Ro,ON,PY,or_false] at c;rcases c with rfl | rfl
   ·rw[k.2] at o;cases o
   ·rw[j.2] at o;cases o
  have e:t++#[x,y]=(t++#[x])++#[y]:=by apply Array.ext';simp
  rw[e];exact XD (g:=n) (XD (g:=0) (h.nr q) (λd c=>by simp at c;rw[c];exact k.1) (λi a _ d c b o _=>(r d (by simp at c ⊢;exact .inl c) b o).elim))
   (λd c=>by simp at c;rw[c];exact j.1) (λi a _ d c b o _=>(r d (by simp at c ⊢;exact .inr c) b o).elim)
 ·rcases TM v with⟨_,B⟩ | ⟨_,s⟩
  ·exact Nat.lt_succ_of_lt (h.gs i d B)
  ·simp only[Ro,ON,PY,or_false] at s;rcases s with rfl | rfl
   ·rw[k.1];omega
   ·rw[j.1];exact Uf _
def Tr.fork_deaf(h:Tr cl n size t){x y:WL}(d:x.g=0/\x.act=.go n)(c:y.g=n/\y.act=.start)(g:NA):WV (t++#[x,y]) n=0/\WV (t++#[x,y]) g=WV t g:=by
 have f:WV t n=0:=Deaf_absent λi b j e=>by have:=h.gs i b j;omega
 have a:∀g,WV (t++#[x,y]) g=WV t g:=λg=>by
  have:=Deaf_append t g [x,y];simp only[PN,List.foldl_nil] at this;rw[show t++#[x,y]=t++[x,y].toArray from rfl,this];simp only[deafStep,d.2,c.2]
 exact⟨by rw[a,f],a g⟩
def Tr.recl(h:Tr cl n size t)(j:∀b,b<size->cl' b=cl b\/(cl b=.mine 0/\cl' b=.ro n)\/(cl b≠.sync/\cl' b=.mine 0/\∀i a,Ug t i=Nq a->blk a.loc=Nq b->Knows t 0 i)\/(cl' b=.sync/\∀i a,Ug t i=Nq a->blk a.loc≠Nq b)):Tr cl' n size t:=by
 refine⟨h.inb,λi a b f d c=>?_,λi a b f d c=>?_,λi a b g f d c=>?_,λi a b l f d c o=>?_,h.nr,h.gs⟩
 ·rcases j b (h.inb i a b f d) with e | ⟨_,e⟩ | ⟨_,e,_⟩ | ⟨_,e⟩
  ·exact h.sync i a b f d (e ▸ c)
  ·rw[c] at e;cases e
  ·rw[c] at e;cases e
  ·exact absurd d (e i a f)
 ·rcases j b (h.inb i a b f d) with e | ⟨k,_⟩ | ⟨k,_,_⟩ | ⟨e,_⟩
  ·exact h.plain i a b f d (e ▸ c)
  ·exact h.plain i a b f d (by rw[k];simp)
  ·exact h.plain i a b f d k
  ·exact absurd e c
 ·rcases j b (h.inb i a b f d) with e | ⟨_,e⟩ | ⟨_,e,k⟩ | ⟨e,_⟩
  ·exact h.mine i a b g f d (e ▸ c)
  ·rw[c] at e;cases e
  ·rw[c] at e;cases e;exact k i a f d
  ·rw[c] at e;cases e
 ·rcases j b (h.inb i a b f d) with e | ⟨k,e⟩ | ⟨_,e,_⟩ | ⟨e,_⟩
  ·exact h.ro i a b l f d (e ▸ c) o
  ·rw[c] at e;cases e;exact⟨h.mine i a b 0 f d k,λg q p=>by omega⟩
  ·rw[c] at e;cases e
  ·rw[c] at e;cases e
def Hd(a:NA)(t:Vx):Prop:=∀i g,t.g? i=Nq g->g≠0->g<a->t.counts i->Knows t 0 i
def Hd.app{f:NA}(h:Hd f t)(s:∀a∈u,a.g=0\/f<=a.g\/a.act.touch?=Ns):Hd f (t++u):=by
 intro i g w d l q;have⟨a,p,c⟩:=Sw.1 w;rcases TM p with⟨v,k⟩ | ⟨_,j⟩
 ·exact(h i g (by rw[uQ k,c]) d l ((counts_old v).1 q)).app u
 ·rcases s a j with e | e | e
  ·rw[c] at e;exact absurd e d
  ·omega
  ·obtain⟨x,r,_⟩:=q;have⟨y,o,b⟩:=touch_of r;rw[p] at o;cases o;rw[e] at b;cases b
def Hd.join{lo:NA}{a:OX}(h:Hd lo t){q:NA}(all:∀g,lo<=g->g≠0->(∃i,t.g? i=Nq g)->∃r,RelBy a t g r/\r<q)(w:NoRelease a t)(v:t.act? q=Nq (.mark (.acquire a)))(A:t.g? q=Nq 0)(y:t.heard q)(m:NA):Hd m t:=by
 intro i g c e _ p;rcases PP g lo with b | f
 ·exact h i g c e b p
 ·have⟨r,j,o⟩:=all g f e ⟨i,c⟩;have d:HappensBefore t r q:=.single (.inr ⟨.marked o (.inr j.act) v (λk _ _=>w k),j.heard,y⟩);have x:i<=r:=YA λb=>j.after i b c p;have⟨z,s,l⟩:=Sw.1 A;refine⟨q,z,s,l,.inr ?_⟩;rcases PP i r with b | f
  ·exact .trans (.single (.inl ⟨b,g,c,j.g⟩)) d
  ·obtain rfl:i=r:=by omega
   exact d
def Tr.known0(h:Tr cl n size t){m:NA}(k:Hd m t)(hm:n<=m){i:NA}{a:Touch}{b:NA}(f:Ug t i=Nq a)(d:blk a.loc=Nq b)(l:cl b≠.sync):Knows t 0 i:=by
 have⟨x,c,j⟩:=touch_of f;by_cases e:x.g=0
 ·have:=knows_own c
  rwa [e] at this
 ·refine k i x.g (uQ c) e (NX (h.gs i x c) hm) ⟨a,f,?_,.inl ?_⟩
  ·cases hl:a.loc<;>rw[hl] at d<;>first | rfl | cases d
  ·rw[h.plain i a b f d l];decide
def DT{m:NA}(l:Hd m t)(d:∀(i:NA) (c:WL),t[i]?=Nq c->c.g<m):t.HandedOver:=by
 intro i g j b o;have⟨c,h,a⟩:=Sw.1 j;have⟨q,z,f,k,e⟩:=l i g j b (by rw[<- a];exact d i c h) o;refine⟨q,by rw[uQ f,k],?_⟩;rcases e with rfl | e
 ·rw[h] at f;cases f;exact absurd (a.symm.trans k) b
 ·exact e
end
end
end Go.Co
