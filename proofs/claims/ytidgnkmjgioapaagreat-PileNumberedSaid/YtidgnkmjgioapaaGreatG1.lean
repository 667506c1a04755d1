/-
  Part 1 of the proof. gladstonelaw04.PileNumbered answers true for every list of numbers, and leaves its argument as it was. No conditions.
-/
import GoSem.Step
import Derived.StepT
import Derived.Laws.Sem
import Derived.Conc.Events
import Derived.Calls
import Derived.Conc.CrowdTrace
set_option maxRecDepth 100000
set_option maxHeartbeats 8000000
set_option linter.all false
open Array renaming all_eq_true_iff_forall_mem->NG,eq_empty_of_size_eq_zero->QN,foldl_toList->Sj,forIn_toList->Qr,getD_eq_getD_getElem?->No,getElem!_eq_getD->Um,getElem?_append->Pu,getElem?_eq_getElem->Ml,getElem?_eq_none_iff->TF,getElem?_eq_some_iff->Lz,getElem?_map->Sk,getElem?_modify->Pt,getElem?_push->Qf,getElem?_setIfInBounds->My,getElem?_toList->Qu,length_toList->Tx,mapM_eq_mapM_toList->PM,mem_append->Pj,mem_of_getElem?->NN,mem_toList_iff->Oy,range->PU,swapAt!->Xl,toList_zip->Wo
open Bool renaming and_eq_true->Mg,false_eq_true->Mx,not_false->Ry,not_true->Ri,or_eq_true->OH,false->LH,true->LG
open Classical renaming byContradiction->MX,choose->ND,choose_spec->Nk
open Exists renaming intro->QV
open Go renaming Addr->MN,BinOp->UL,BoundsCode->Vy,CallKind->WY,Calls->MH,Code->Og,CommCase->Pg,CommShape->OK,Deferred->NR,Dying->Re,Event->Ns,FieldStep->Wp,Frame->LW,FuncId->Nh,GStep->OA,GoStatus->OS,Goroutine->LD,IntKind->Tf,Item->PW,MapEntry->Pv,MemOp->UC,Next->Qz,Obj->SQ,Oper->NB,Operand->MS,Outcome->Uo,PanicEntry->QU,Program->LV,Question->NU,Result->Qq,Sem->Ps,Trace->Ty,TypeDesc->Tm,TypeId->LZ,TypeInfo->Qg,Value->LA,World->Lt,asAddr->Wj,behindNumber->Oz,boundsPanic->Qj,byteOf->Ul,byteOfCell->Uk,callDeferred->NT,callMethod->WW,cellAtBytes->Sq,cellOfByte->WV,dieOf->Yj,doReturn->NX,endFatal->To,endThrow->SF,execOp->OZ,exitTo->Rz,goPanic->XC,gotoIn->Sl,loadCellsFrom->Tg,loadVar->VL,movedNumber->TS,newObj->WQ,newRow->WT,reportChain->WB,results->Om,runT->UP,runnable->WZ,runtimePanic->Pz,sizeOf->SY,stepG->Nb,storeCells->SZ,tryRecover->Mq,typeHandle->Uj,typeInfo->PT,undef->LI,underlying->Pp,unwind->Qw,yielded->Od,zeroValue->QL
open Go.Builtin renaming append_->PI,cap_->VN,clear_->SD,copy_->TX,firstCells->TH,holdsCells->Vz,lenOf->Vq,len_->VM,max2->XE,max_->VP,mayShare->Wl,min2->VO,min_->TC,unsafeAdd_->NZ,zeroCells->Ol
open Go.Conc renaming Deaf->UG,getElem?_append_cases->Rp,noRace_append->Vt,touchAt->RN
open Go.Frame renaming catches->TZ,enter->MO,eval->QH,finish->Un,pos->Wr,raise->UN,round->Yi
open Go.GStep renaming after->Ni,go->UO
open Go.GStep.go renaming injEq->PX
open Go.Instr renaming alloc->XX,beginRound->Uf,build->XY,buildSlice->Wn,checkKey->PV,deferInRound->VA,endLoop->Vs,endRound->OR,enterLoop->Sf,extract->Vo,field->XZ,fieldAt->Xj,fill->Rw,findAsking->Qk,findKey->QG,findNow->Tj,getLoop->Vr,index->Sr,indexAt->Vp,keyThatStays->Nn,loadAt->XD,lookup->RL,makeInterface->Vh,makeMap->TY,makeSlice->Tu,mapUpdate->NI,panic->Yh,panicnil->SE,sameBits->OJ,sameNow->Ti,slice->UM,sliceAt->Xk,sliceBound->Pk,sliceBounds->TT,storeAt->Xi,sureAddr->WU,takeDeferred->TI,typeAssert->PQ,yield->Yg
open Go.Region renaming wanted->MA
open Go.Result renaming andThen_ok->NC,evThen_ok->Ue,halt->XW
open Go.Sem renaming bind->Ru,events_bind->Rd,run->Nm,runT->QK,runT_bind'->WX,runT_eq->ME,run_bind->NF,setObj->WO,store->Wi
open Go.World renaming cell?->Mz,farLoad->Vn,farStore->Rv,freeze->VK,frozen?->Pw,setCell->NS,viewStore->WH
open Go.stepG renaming apply->Nq,exec->Pf,oper->Ta
open List renaming all_eq_true->MD,cons_append->Mk,dropLast_concat->Tq,dropWhile_cons->Vi,foldlM_cons->Wm,foldl_cons->OI,forIn_cons->WI,getElem?_append_left->Mv,getElem?_eq_some_iff->Md,mapM_cons->SA,mem_cons->MK,mem_cons_of_mem->Rx,mem_cons_self->TG,mem_singleton->Nl,mem_toArray->Pl,nil_append->Mu,not_mem_nil->NQ,range_succ->Qx
open List.cons renaming injEq->OT
open Nat renaming add_assoc->RY,le_of_eq->Py,le_of_not_lt->Wq,le_refl->LC,le_succ->Wz,le_trans->LN,lt_irrefl->Rh,lt_of_lt_of_le->LY,lt_or_ge->NK,lt_succ_self->QM
open Option renaming bind_some->RK,getD_some->LQ,map_eq_some_iff->Qi,map_some->Ng,none->Lw,some->Lq
open Option.some renaming inj->OQ,injEq->MM
open Std.Legacy.Range renaming forIn_eq_forIn_range'->NV
open _root_ renaming Array->LM,Bool->MC,False->PC,Int->LJ,List->Lx,Nat->Ly,Option->LU,True->Ro
namespace Go.Sim
section
abbrev Ren:=Lx (LU Ly)
def BR(Z:Ren)(i j:Ly):Prop:=Z[i]?=Lq (Lq j)
def Inj(Z:Ren):Prop:=∀i c j,BR Z i j->BR Z c j->i=c
def Out(Z:Ren)(j:Ly):Prop:=∀i,¬ BR Z i j
def Le(Z O:Ren):Prop:=(∃V,O=Z++V)/\(Inj Z->Inj O)
def BR.lt{Z:Ren}{i j:Ly}(h:BR Z i j):i<Z.length:=by
 unfold BR at h;exact(Md.1 h).1
def BR.new(Z:Ren)(j:Ly):BR (Z++[Lq j]) Z.length j:=by simp[BR]
def BR.fn{Z:Ren}{i j k:Ly}(h:BR Z i j)(c:BR Z i k):j=k:=by
 unfold BR at h c;rw[h] at c;exact OQ (OQ c)
def Le.refl(Z:Ren):Le Z Z:=⟨⟨[],by simp⟩,id⟩
def Le.trans{a b c:Ren}(h:Le a b)(k:Le b c):Le a c:=by
 obtain⟨⟨x,rfl⟩,e⟩:=h;obtain⟨⟨y,rfl⟩,d⟩:=k;exact⟨⟨x++y,by simp⟩,λn=>d (e n)⟩
def BR.snoc_cases{Z:Ren}{x:LU Ly}{i j:Ly}(h:BR (Z++[x]) i j):(i<Z.length/\BR Z i j)\/(i=Z.length/\x=Lq j):=by
 have d:=h.lt;simp at d;unfold BR at h ⊢;rcases NK i Z.length with c | c
 ·rw[Mv c] at h;exact .inl ⟨c,h⟩
 ·have e:i=Z.length:=by omega
  subst e;simp at h;exact .inr ⟨rfl,h⟩
def Le.snoc(Z:Ren)(j:Ly)(e:Out Z j):Le Z (Z++[Lq j]):=⟨⟨[Lq j],rfl⟩,λn i d k h c=>by
 rcases h.snoc_cases with⟨_,h⟩ | ⟨g,f⟩<;>rcases c.snoc_cases with⟨_,c⟩ | ⟨h1',h2'⟩
 ·exact n i d k h c
 ·cases h2';exact absurd h (e i)
 ·cases f;exact absurd c (e d)
 ·rw[g,h1']⟩
def BR.mono{Z O:Ren}{i j:Ly}(h:BR Z i j)(l:Le Z O):BR O i j:=by
 obtain⟨⟨V,rfl⟩,_⟩:=l;have c:=h.lt;unfold BR at h ⊢;rw[Mv c];exact h
def EI:LA->MC
 | .bool _ | .int _ _ | .string _ | .pointer Lw | .slice Lw _ _ | .map Lw | .nilFunc | .nilIface | .agg _ | .tuple _ | .func (.method _) _ _=>LH
 | _=>LG
class JunkSet where
 jk:Ly->Prop
 okf:Nh->Prop
 okm:String->Prop
 okc:Og->Prop
 okb:Builtin->LM LZ->Prop
 okg:Nh->Prop
section
variable[JunkSet]
inductive FnR (Z:Ren):Fn->Fn->Prop
 | func (f:Nh):JunkSet.okf f->FnR Z (.func f) (.func f)
 | yield {i j:Ly}:BR Z i j->FnR Z (.yield i) (.yield j)
inductive VR (Z:Ren):LA->LA->Prop
 | bool (b:MC):VR Z (.bool b) (.bool b)
 | int (k:Tf) (n:LJ):VR Z (.int k n) (.int k n)
 | string (s:ByteArray):VR Z (.string s) (.string s)
 | ptrNil:VR Z (.pointer Lw) (.pointer Lw)
 | ptr {i j:Ly} (off:Ly) (spot:LU Ly):BR Z i j->VR Z (.pointer (Lq ⟨i,off,spot⟩)) (.pointer (Lq ⟨j,off,spot⟩))
 | sliceNil (n c:Ly):VR Z (.slice Lw n c) (.slice Lw n c)
 | slice {i j:Ly} (off:Ly) (spot:LU Ly) (n c:Ly):BR Z i j->VR Z (.slice (Lq ⟨i,off,spot⟩) n c) (.slice (Lq ⟨j,off,spot⟩) n c)
 | mapNil:VR Z (.map Lw) (.map Lw)
 | map {i j:Ly}:BR Z i j->VR Z (.map (Lq i)) (.map (Lq j))
 | func {f f':Fn} {a a' c c':LM LA}:FnR Z f f'->a.size=a'.size->(∀(i:Ly) (x y:LA),a[i]?=Lq x->a'[i]?=Lq y->VR Z x y) ->
   c.size=c'.size->(∀(i:Ly) (x y:LA),c[i]?=Lq x->c'[i]?=Lq y->VR Z x y)->VR Z (.func f a c) (.func f' a' c')
 | nilFunc:VR Z .nilFunc .nilFunc
 | iface (t:LZ) {v v':LA}:VR Z v v'->VR Z (.iface t v) (.iface t v')
 | nilIface:VR Z .nilIface .nilIface
 | agg {a a':LM LA}:a.size=a'.size->(∀(i:Ly) (x y:LA),a[i]?=Lq x->a'[i]?=Lq y->VR Z x y)->VR Z (.agg a) (.agg a')
 | tuple {a a':LM LA}:a.size=a'.size->(∀(i:Ly) (x y:LA),a[i]?=Lq x->a'[i]?=Lq y->VR Z x y)->VR Z (.tuple a) (.tuple a')
 | wild (y:LA):EI y=LG->VR Z (.chan Lw) y
 | meth (n:String) (a c:LM LA):VR Z (.func (.method "") #[.iface 0 .nilIface] #[]) (.func (.method n) a c)
def FnR.mono{Z O:Ren}(l:Le Z O){f c:Fn}(h:FnR Z f c):FnR O f c:=by
 cases h with
 | func f h=>exact .func f h
 | yield h=>exact .yield (h.mono l)
def VR.mono{Z O:Ren}(l:Le Z O){v j:LA}(h:VR Z v j):VR O v j:=by
 induction h with
 | bool b=>exact .bool b
 | int k n=>exact .int k n
 | string s=>exact .string s
 | ptrNil=>exact .ptrNil
 | ptr e d h=>exact .ptr e d (h.mono l)
 | sliceNil n c=>exact .sliceNil n c
 | slice e d n c h=>exact .slice e d n c (h.mono l)
 | mapNil=>exact .mapNil
 | map h=>exact .map (h.mono l)
 | func o q _ p _ i g=>exact .func (o.mono l) q i p g
 | nilFunc=>exact .nilFunc
 | iface t _ f=>exact .iface t f
 | nilIface=>exact .nilIface
 | agg h _ f=>exact .agg h f
 | tuple h _ f=>exact .tuple h f
 | wild y h=>exact .wild y h
 | meth n a c=>exact .meth n a c
def AsR(Z:Ren)(a b:LM LA):Prop:=a.size=b.size/\∀(i:Ly) (x y:LA),a[i]?=Lq x->b[i]?=Lq y->VR Z x y
inductive LsR {Y M:Type} (R:Y->M->Prop):Lx Y->Lx M->Prop
 | nil:LsR R [] []
 | cons {x:Y} {y:M} {l:Lx Y} {m:Lx M}:R x y->LsR R l m->LsR R (x::l) (y::m)
section
variable{Y M:Type}{R:Y->M->Prop}
def LsR.imp{S:Y->M->Prop}(h:∀x y,R x y->S x y){l:Lx Y}{m:Lx M}(k:LsR R l m):LsR S l m:=by
 induction k with
 | nil=>exact .nil
 | cons a _ c=>exact .cons (h _ _ a) c
def LsR.length{l:Lx Y}{m:Lx M}(h:LsR R l m):l.length=m.length:=by
 induction h with
 | nil=>rfl
 | cons _ _ c=>simp[c]
def LsR.append{l d:Lx Y}{m c:Lx M}(h:LsR R l m)(f:LsR R d c):LsR R (l++d) (m++c):=by
 induction h with
 | nil=>exact f
 | cons a _ e=>exact .cons a e
def Am{l:Lx Y}{m:Lx M}:LsR R l m↔l.length=m.length/\∀(i:Ly) (x:Y) (y:M),l[i]?=Lq x->m[i]?=Lq y->R x y:=by
 constructor
 ·intro h;refine⟨h.length,?_⟩;induction h with
  | nil=>intro i x y c;simp at c
  | cons a _ d=>
   intro i x y c e;cases i with
   | zero=>simp at c e;subst c;subst e;exact a
   | succ i=>exact d i x y (by simpa using c) (by simpa using e)
 ·rintro⟨f,g⟩;induction l generalizing m with
  | nil=>cases m with
   | nil=>exact .nil
   | cons _ _=>simp at f
  | cons x l d=>cases m with
   | nil=>simp at f
   | cons y m=>exact .cons (g 0 x y rfl rfl) (d (by simpa using f) λi a b k j=>g (i+1) a b (by simpa using k) (by simpa using j))
end
section
variable{Z O:Ren}{a b a' b':LM LA}
def bH:AsR Z a b↔LsR (VR Z) a.toList b.toList:=by
 rw[Am];simp[AsR]
def AsR.mono(l:Le Z O)(h:AsR Z a b):AsR O a b:=⟨h.1,λi x y d c=>(h.2 i x y d c).mono l⟩
def AsR.get(h:AsR Z a b){i:Ly}{x:LA}(c:a[i]?=Lq x):∃y,b[i]?=Lq y/\VR Z x y:=by
 have d:i<b.size:=h.1 ▸ (Lz.1 c).1;exact⟨b[i],Ml d,h.2 i x _ c (Ml d)⟩
def AsR.get_none(h:AsR Z a b){i:Ly}(c:a[i]?=Lw):b[i]?=Lw:=by
 rw[TF] at c ⊢;exact h.1 ▸ c
def AsR.getD(h:AsR Z a b)(i:Ly){d c:LA}(g:VR Z d c):VR Z (a.getD i d) (b.getD i c):=by
 rw[No,No];cases ha:a[i]? with
 | none=>rw[h.get_none ha];exact g
 | some x=>have⟨y,e,f⟩:=h.get ha;rw[e];exact f
def AsR.nil:AsR Z #[] #[]:=⟨rfl,λi x y c=>by simp at c⟩
def AsR.append(h:AsR Z a b)(c:AsR Z a' b'):AsR Z (a++a') (b++b'):=by
 rw[bH] at *
 simpa using h.append c
def AsR.push(h:AsR Z a b){x y:LA}(c:VR Z x y):AsR Z (a.push x) (b.push y):=by
 rw[bH] at *
 simpa using h.append (.cons c .nil)
def AsR.one{x y:LA}(c:VR Z x y):AsR Z #[x] #[y]:=by
 rw[bH];exact .cons c .nil
def AsR.set(h:AsR Z a b)(i:Ly){x y:LA}(g:VR Z x y):AsR Z (a.setIfInBounds i x) (b.setIfInBounds i y):=by
 refine⟨by simpa using h.1,λj u v d c=>?_⟩;rw[My] at d c;by_cases e:i=j
 ·subst e;by_cases f:i<a.size
  ·rw[if_pos rfl,if_pos f] at d;rw[if_pos rfl,if_pos (h.1 ▸ f)] at c;cases d;cases c;exact g
  ·rw[if_pos rfl,if_neg f] at d;cases d
 ·rw[if_neg e] at d c;exact h.2 j u v d c
def AsR.extract(h:AsR Z a b)(i j:Ly):AsR Z (a.extract i j) (b.extract i j):=by
 refine⟨by simp[h.1],λk x y d c=>?_⟩;rw[Array.getElem?_extract] at d c;split at d
 ·split at c
  ·exact h.2 _ x y d c
  ·cases c
 ·cases d
end
inductive iG:LA->Prop
 | bool (b:MC):iG (.bool b)
 | int (k:Tf) (n:LJ):iG (.int k n)
 | string (s:ByteArray):iG (.string s)
 | ptrNil:iG (.pointer Lw)
 | sliceNil (n c:Ly):iG (.slice Lw n c)
 | mapNil:iG (.map Lw)
 | nilFunc:iG .nilFunc
 | nilIface:iG .nilIface
 | agg {a:LM LA}:(∀(i:Ly) (x:LA),a[i]?=Lq x->iG x)->iG (.agg a)
 | tuple {a:LM LA}:(∀(i:Ly) (x:LA),a[i]?=Lq x->iG x)->iG (.tuple a)
def iG.vr(Z:Ren){v:LA}(h:iG v):VR Z v v:=by
 induction h with
 | bool b=>exact .bool b
 | int k n=>exact .int k n
 | string s=>exact .string s
 | ptrNil=>exact .ptrNil
 | sliceNil n c=>exact .sliceNil n c
 | mapNil=>exact .mapNil
 | nilFunc=>exact .nilFunc
 | nilIface=>exact .nilIface
 | agg _ f=>exact .agg rfl λi x y e d=>by rw[e] at d;cases d;exact f i x e
 | tuple _ f=>exact .tuple rfl λi x y e d=>by rw[e] at d;cases d;exact f i x e
def rQ:LA->MC
 | .bool _ | .int _ _ | .string _ | .pointer Lw | .slice Lw _ _ | .map Lw | .nilFunc | .nilIface=>LG
 | _=>LH
def Fo:LA->MC
 | .agg a | .tuple a=>a.toList.all λv=>match v with
   | .agg b | .tuple b=>b.toList.all rQ
   | v=>rQ v
 | v=>rQ v
def rP{v:LA}(h:rQ v=LG):iG v:=by
 cases v with
 | bool b=>exact .bool b
 | int k n=>exact .int k n
 | string s=>exact .string s
 | pointer a=>cases a with
  | none=>exact .ptrNil
  | some _=>cases h
 | slice a n c=>cases a with
  | none=>exact .sliceNil n c
  | some _=>cases h
 | map a=>cases a with
  | none=>exact .mapNil
  | some _=>cases h
 | chan a=>cases h
 | float k b=>cases h
 | complex k a b=>cases h
 | func _ _ _=>cases h
 | nilFunc=>exact .nilFunc
 | iface _ _=>cases h
 | nilIface=>exact .nilIface
 | agg _=>cases h
 | tuple _=>cases h
def tW{a:LM LA}(h:a.toList.all rQ=LG)(i:Ly)(x:LA)(c:a[i]?=Lq x):iG x:=by
 rw[MD] at h;exact rP (h x (by rw[Oy];exact NN c))
def vk{v:LA}(h:Fo v=LG):iG v:=by
 have c:∀a:LM LA,(a.toList.all λv=>match v with
   | .agg b | .tuple b=>b.toList.all rQ
   | v=>rQ v)=LG->∀(i:Ly) (x:LA),a[i]?=Lq x->iG x:=by
  intro a d i x e;rw[MD] at d;have:=d x (by rw[Oy];exact NN e);cases x with
  | agg b=>exact .agg (tW this)
  | tuple b=>exact .tuple (tW this)
  | _=>exact rP this
 cases v with
 | agg a=>exact .agg (c a h)
 | tuple a=>exact .tuple (c a h)
 | _=>exact rP h
structure gh(Z:Ren)(e e':Pv):Prop where
 key:VR Z e.key e'.key
 val:VR Z e.val e'.val
 born:e'.born=e.born
inductive eR (Z:Ren):Target->Target->Prop
 | fn {f f':Fn} {c c':LM LA}:FnR Z f f'->AsR Z c c'->eR Z (.fn f c) (.fn f' c')
 | meth (n:String):JunkSet.okm n->eR Z (.fn (.method n) #[]) (.fn (.method n) #[])
 | nil:eR Z .nil .nil
 | builtin (b:Builtin) (a:LM LZ) (t:LZ) (c:LM MC):JunkSet.okb b a->eR Z (.builtin b a t c) (.builtin b a t c)
 | collected {i j:Ly}:BR Z i j->eR Z (.collected i) (.collected j)
inductive fM (Z:Ren) (d d':NR):Prop
 | mk:eR Z d.target d'.target->AsR Z d.args d'.args->fM Z d d'
 | bound:d.target=.fn (.method "") #[]->d.args[0]?=Lq (.iface 0 .nilIface)->(∃n c,d'.target=.fn (.method n) c)->fM Z d d'
structure lO(Z:Ren)(l l':Loop):Prop where
 state:l'.state=l.state
 pending:l'.pending=l.pending
 fn:l'.fn=l.fn
 tmps:AsR Z l.tmps l'.tmps
 params:l'.params=l.params
 assign:l'.assign=l.assign
 body:l'.body=l.body
 defers:BR Z l.defers l'.defers
 okF:JunkSet.okg l.fn
 okA:JunkSet.okc l.assign
 okB:JunkSet.okc l.body
 okP:∀c,l.pending=Lq c->JunkSet.okc c
inductive ObR (Z:Ren):SQ->SQ->Prop
 | cells {c c':LM LA} (e:LZ) {f f':Ly × Ly}:AsR Z c c'->(∀o,f'.1<=o->o<f'.2->f.1<=o/\o<f.2)->ObR Z (.cells c e f) (.cells c' e f')
 | map {es es':LM Pv} (clock:Ly):LsR (gh Z) es.toList es'.toList->ObR Z (.map es clock) (.map es' clock)
 | stringIter (s:ByteArray) (p:Ly):ObR Z (.stringIter s p) (.stringIter s p)
 | mapIterNil (a:Ly) (s:LM Ly) (b:Ly):ObR Z (.mapIter Lw a s b) (.mapIter Lw a s b)
 | mapIter {i j:Ly} (a:Ly) (s:LM Ly) (b:Ly):BR Z i j->ObR Z (.mapIter (Lq i) a s b) (.mapIter (Lq j) a s b)
 | loop {l l':Loop}:lO Z l l'->ObR Z (.loop l) (.loop l')
 | number {i j:Ly} (o:Ly) (s:LU Ly) (lost:MC):BR Z i j->ObR Z (.number ⟨i,o,s⟩ lost) (.number ⟨j,o,s⟩ lost)
 | deferredNone:ObR Z (.deferred Lw) (.deferred Lw)
 | deferred {l l':Lx NR}:LsR (fM Z) l l'->ObR Z (.deferred (Lq l)) (.deferred (Lq l'))
section
variable{Z O:Ren}
def gh.mono(l:Le Z O){a b:Pv}(h:gh Z a b):gh O a b:=⟨h.key.mono l,h.val.mono l,h.born⟩
def eR.mono(l:Le Z O){a b:Target}(h:eR Z a b):eR O a b:=by
 cases h with
 | fn e d=>exact .fn (e.mono l) (d.mono l)
 | meth n h=>exact .meth n h
 | nil=>exact .nil
 | builtin b a t c h=>exact .builtin b a t c h
 | collected h=>exact .collected (h.mono l)
def fM.mono(l:Le Z O){a b:NR}(h:fM Z a b):fM O a b:=by
 cases h with
 | mk d c=>exact .mk (d.mono l) (c.mono l)
 | bound d c e=>exact .bound d c e
def lO.mono(l:Le Z O){a b:Loop}(h:lO Z a b):lO O a b:=⟨h.state,h.pending,h.fn,h.tmps.mono l,h.params,h.assign,h.body,h.defers.mono l,h.okF,h.okA,h.okB,h.okP⟩
def ObR.mono(l:Le Z O){a b:SQ}(h:ObR Z a b):ObR O a b:=by
 cases h with
 | cells e f d=>exact .cells e (f.mono l) d
 | map c h=>exact .map c (h.imp λ_ _ k=>k.mono l)
 | stringIter s p=>exact .stringIter s p
 | mapIterNil a s b=>exact .mapIterNil a s b
 | mapIter a s b h=>exact .mapIter a s b (h.mono l)
 | loop h=>exact .loop (h.mono l)
 | number o s x h=>exact .number o s x (h.mono l)
 | deferredNone=>exact .deferredNone
 | deferred h=>exact .deferred (h.imp λ_ _ k=>k.mono l)
end
end
end
section
abbrev Rel (Y M:Type):=Ren->Y->M->Prop
def odd:Halt->MC
 | .panic _ | .goexit | .unsupported (.initOrder _)=>LG
 | _=>LH
def cJ:SQ->MC
 | .pending ..=>LG
 | _=>LH
def Bad(Q:LV){Y:Type}:Ps Y->Prop
 | .pure _=>PC
 | .load _ _ k=>∀v,Bad Q (k v)
 | .store _ _ _ k=>Bad Q k
 | .new o k=>cJ o=LH/\∀r,Bad Q (k r)
 | .shape _ k=>∀x,Bad Q (k x)
 | .freeze _ _ k=>Bad Q k
 | .frozen _ k=>∀b,Bad Q (k b)
 | .getObj _ k=>∀o,Bad Q (k o)
 | .setObj _ o k=>cJ o=LH/\Bad Q k
 | .choose _ k=>∀n,Bad Q (k n)
 | .sys _ k=>∀r,Bad Q (k r)
 | .program k=>Bad Q (k Q)
 | .mark _ k=>Bad Q k
 | .halt h=>odd h=LH
def fO(Q:LV):LZ:=Q.types.size
def ShR[JunkSet](Q:LV)(r:Ly)(x a:LU (LZ × Ly)):Prop:=(¬ JunkSet.jk r/\a=x)\/(JunkSet.jk r/\Q.globals.size<=r/\x=Lq (fO Q,0)/\∃e n,a=Lq (e,n))
def SR[JunkSet](Q P:LV){Y M:Type}(R:Rel Y M):Ps Y->Ren->Ps M->Prop
 | .pure a=>λZ e=>∃b,e=.pure b/\R Z a b
 | .load m a k=>λZ e=>Bad Q (.load m a k)\/(m=.plain/\∃j d,e=.load .plain ⟨j,a.off,a.spot⟩ d/\BR Z a.block j/\∀v f,VR Z v f->SR Q P R (k v) Z (d f))
 | .store m a v k=>λZ e=>Bad Q (.store m a v k)\/(m=.plain/\∃j f d,e=.store .plain ⟨j,a.off,a.spot⟩ f d/\BR Z a.block j/\VR Z v f/\SR Q P R k Z d)
 | .new o k=>λZ e=>Bad Q (.new o k)\/∃g d,e=.new g d/\ObR Z o g/\∀j,Out Z j->SR Q P R (k Z.length) (Z++[Lq j]) (d j)
 | .shape r k=>λZ e=>Bad Q (.shape r k)\/∃j d,e=.shape j d/\BR Z r j/\∀x i,ShR Q r x i->SR Q P R (k x) Z (d i)
 | .getObj r k=>λZ e=>Bad Q (.getObj r k)\/∃j d,e=.getObj j d/\BR Z r j/\∀o g,ObR Z o g->SR Q P R (k o) Z (d g)
 | .setObj r o k=>λZ e=>Bad Q (.setObj r o k)\/∃j g d,e=.setObj j g d/\BR Z r j/\ObR Z o g/\SR Q P R k Z d
 | .choose q k=>λZ e=>Bad Q (.choose q k)\/∃d,e=.choose q d/\∀n,SR Q P R (k n) Z (d n)
 | .sys c k=>λZ e=>Bad Q (.sys c k)\/(c=.env/\∃d,e=.sys .env d/\∀r,SR Q P R (k r) Z (d r))
 | .program k=>λZ e=>Bad Q (.program k)\/∃d,e=.program d/\SR Q P R (k Q) Z (d P)
 | .mark m k=>λZ e=>Bad Q (.mark m k)\/(m=.noRoom/\∃d,e=.mark .noRoom d/\SR Q P R k Z d)
 | .halt (.panic v)=>λZ e=>∃f,e=.halt (.panic f)/\VR Z v f
 | .halt h=>λ_ _=>odd h=LH
 | .freeze a n k=>λ_ _=>Bad Q (.freeze a n k)
 | .frozen a k=>λ_ _=>Bad Q (.frozen a k)
def Bad.bind{Q:LV}{Y W:Type}{s:Ps Y}(h:Bad Q s)(f:Y->Ps W):Bad Q (s.bind f):=by
 induction s with
 | pure a=>exact h.elim
 | load m a k b=>exact λv=>b v (h v)
 | store m a v k b=>exact b h
 | new o k b=>exact⟨h.1,λv=>b v (h.2 v)⟩
 | shape r k b=>exact λv=>b v (h v)
 | freeze a n k b=>exact b h
 | frozen a k b=>exact λv=>b v (h v)
 | getObj r k b=>exact λv=>b v (h v)
 | setObj r o k b=>exact⟨h.1,b h.2⟩
 | choose q k b=>exact λv=>b v (h v)
 | sys c k b=>exact λv=>b v (h v)
 | program k b=>exact b Q h
 | mark m k b=>exact b h
 | halt x=>exact h
def SR.bad[JunkSet]{Q P:LV}{Y M:Type}{R:Rel Y M}{s:Ps Y}{Z:Ren}{b:Ps M}(h:Bad Q s):SR Q P R s Z b:=by
 cases s with
 | pure a=>exact h.elim
 | load m a k=>exact .inl h
 | store m a v k=>exact .inl h
 | new o k=>exact .inl h
 | shape r k=>exact .inl h
 | freeze a n k=>exact h
 | frozen a k=>exact h
 | getObj r k=>exact .inl h
 | setObj r o k=>exact .inl h
 | choose q k=>exact .inl h
 | sys c k=>exact .inl h
 | program k=>exact .inl h
 | mark m k=>exact .inl h
 | halt x=>
  cases x with
  | panic v=>cases h
  | _=>exact h
section
variable[JunkSet]{Q P:LV}{Y M W X:Type}{R:Rel Y M}{S:Rel W X}
def SR.bind{s:Ps Y}{Z:Ren}{z:Ps M}{f:Y->Ps W}{B:M->Ps X}(h:SR Q P R s Z z)(i:∀O a b,Le Z O->R O a b->SR Q P S (f a) O (B b)):SR Q P S (s.bind f) Z (z.bind B):=by
 induction s generalizing Z z with
 | pure a=>
  obtain⟨b,rfl,F⟩:=h;exact i Z a b (.refl Z) F
 | load m a k e=>
  rcases h with d | ⟨hm,j,p,rfl,d,g⟩
  ·exact .bad (d.bind f)
  ·exact .inr ⟨hm,j,_,rfl,d,λv t w=>e v (g v t w) i⟩
 | store m a v k e=>
  rcases h with d | ⟨hm,j,t,p,rfl,d,w,g⟩
  ·exact .bad (Bad.bind (s:=.store m a v k) d f)
  ·exact .inr ⟨hm,j,t,_,rfl,d,w,e g i⟩
 | new o k e=>
  rcases h with d | ⟨u,p,rfl,y,g⟩
  ·exact .bad (d.bind f)
  ·exact .inr ⟨u,_,rfl,y,λj A=>e _ (g j A) λO a b l=>i O a b ((Le.snoc Z j A).trans l)⟩
 | shape r k e=>
  rcases h with d | ⟨j,p,rfl,d,g⟩
  ·exact .bad (d.bind f)
  ·exact .inr ⟨j,_,rfl,d,λx C D=>e x (g x C D) i⟩
 | freeze a n k _=>exact .bad (Bad.bind (s:=.freeze a n k) h f)
 | frozen a k _=>exact .bad (Bad.bind (s:=.frozen a k) h f)
 | getObj r k e=>
  rcases h with d | ⟨j,p,rfl,d,g⟩
  ·exact .bad (d.bind f)
  ·exact .inr ⟨j,_,rfl,d,λo u y=>e o (g o u y) i⟩
 | setObj r o k e=>
  rcases h with d | ⟨j,u,p,rfl,d,y,g⟩
  ·exact .bad (Bad.bind (s:=.setObj r o k) d f)
  ·exact .inr ⟨j,u,_,rfl,d,y,e g i⟩
 | choose q k e=>
  rcases h with d | ⟨p,rfl,g⟩
  ·exact .bad (d.bind f)
  ·exact .inr ⟨_,rfl,λn=>e n (g n) i⟩
 | sys c k e=>
  rcases h with d | ⟨G,p,rfl,g⟩
  ·exact .bad (d.bind f)
  ·exact .inr ⟨G,_,rfl,λr=>e r (g r) i⟩
 | program k e=>
  rcases h with d | ⟨p,rfl,g⟩
  ·exact .bad (d.bind f)
  ·exact .inr ⟨_,rfl,e Q g i⟩
 | mark m k e=>
  rcases h with d | ⟨rfl,p,rfl,g⟩
  ·exact .bad (Bad.bind (s:=.mark m k) d f)
  ·exact .inr ⟨rfl,_,rfl,e g i⟩
 | halt x=>
  cases x with
  | panic v=>
   obtain⟨t,rfl,w⟩:=h;exact⟨t,rfl,w⟩
  | _=>exact h
def SR.imp{i:Rel Y M}{s:Ps Y}{Z:Ren}{f:Ps M}(h:SR Q P R s Z f)(j:∀O a b,Le Z O->R O a b->i O a b):SR Q P i s Z f:=by
 have e:∀{Y:Type} (x:Ps Y),x.bind .pure=x:=by
  intro Y x;induction x with
  | pure a=>rfl
  | load m a k d=>simp only[Ru,d]
  | store m a v k d=>simp only[Ru,d]
  | new o k d=>simp only[Ru,d]
  | shape r k d=>simp only[Ru,d]
  | freeze a n k d=>simp only[Ru,d]
  | frozen a k d=>simp only[Ru,d]
  | getObj r k d=>simp only[Ru,d]
  | setObj r o k d=>simp only[Ru,d]
  | choose q k d=>simp only[Ru,d]
  | sys c k d=>simp only[Ru,d]
  | program k d=>simp only[Ru,d]
  | mark m k d=>simp only[Ru,d]
  | halt h=>rfl
 rw[<- e s,<- e f];exact h.bind λO a b l g=>⟨b,rfl,j O a b l g⟩
end
def BR.inj{Z:Ren}(b:Inj Z){i a j:Ly}(h:BR Z i j)(c:BR Z a j):i=a:=b i a j h c
def IX(Q:LV):SQ:=.cells #[] (fO Q) (0,0)
structure WR[JunkSet](Q:LV)(base:Ly)(Z:Ren)(wq w:Lt):Prop where
 len:Z.length=wq.heap.size
 nodup:Inj Z
 lt:∀(i j:Ly),BR Z i j->j<w.heap.size
 obj:∀(i j:Ly) (o:SQ),BR Z i j->wq.heap[i]?=Lq o->(JunkSet.jk i/\o=IX Q/\Q.globals.size<=i/\∃c e f,w.heap[j]?=Lq (.cells c e f))\/(¬ JunkSet.jk i/\∃o',w.heap[j]?=Lq o'/\ObR Z o o')
 low:∀(i:Ly),i<base->∃c e f,wq.heap[i]?=Lq (.cells c e f)/\∀o,o<c.size->f.1<=o/\o<f.2
 env:wq.os.env=w.os.env
 below:∀(i:Ly),JunkSet.jk i->i<base
 gar:∀(i:Ly) (o:SQ),wq.heap[i]?=Lq o->(∃j,BR Z i j)\/cJ o=LH
def bY(D:Ly)(a w:Lt):Prop:=∀(n:Ly) (q:NU),a.drawn+n<D->a.tape (a.drawn+n) q=w.tape (w.drawn+n) q
def rwR{Y:Type}:Qq Y->Lt
 | .ok _ w=>w
 | .halt _ w=>w
def jQ(p:LV)(w:Lt)(a:MN)(u:LZ)(k:MN)(v:LA)(b:MC){r:Lt × Lx MN}(h:w.viewStore p a u k v b=.ok r):r.1.drawn=w.drawn:=by
 unfold WH at h;simp only[bind,Except.bind,pure,Except.pure] at h
 repeat' (split at h)
 all_goals first | (cases h;rfl) | cases h | (cases h;done)
def Cw{Y:Type}(x:Ask Y):∀w:Lt,w.drawn<=(w.ask x).2.drawn:=by
 induction x with
 | done a=>intro w;exact LC _
 | ask c b k d=>
  intro w;unfold World.ask;dsimp only;split
  ·exact d _ w
  ·refine LN (Wz _) ?_;exact d ((Question.extern c b).cut (w.tape w.drawn (Question.extern c b))) { w with drawn:=w.drawn+1 }
def AR(w:Lt)(c:Sys):w.drawn<=(w.sys c).2.drawn:=by
 unfold World.sys;have:=Cw (Kernel.perform c w.os) w;split
 ·exact LC _
 ·rename_i h
  rw[h] at this;exact this
def iU{Y:Type}(p:LV)(s:Ps Y):∀w:Lt,w.drawn<=(rwR (s.run p w)).drawn:=by
 induction s with
 | pure a=>intro w;exact LC _
 | load m a k b=>
  intro w;simp only[Nm];split
  ·exact b _ w
  ·split
   ·exact b _ w
   ·exact LC _
 | store m a v k b=>
  intro w;have e:w.drawn<=(rwR (match w.cell? a with
     | some _=>if w.frozen? a then(.halt (.unsupported (.unsafePointer "a write to bytes that a string shares")) w:Qq Y) else k.run p (w.setCell a v)
     | none=>match w.farStore p a v (m == .atomic) with
      | .ok (w,_)=>k.run p w
      | .error h=>.halt h w)).drawn:=by
   split
   ·split
    ·exact LC _
    ·exact b (w.setCell a v)
   ·split
    ·rename_i i t d
     refine LN ?_ (b _);unfold Rv at d;split at d
     ·split at d
      ·rename_i r g
       cases d;exact Py (jQ _ _ _ _ _ _ _ g).symm
      ·cases d
     ·cases d
    ·exact LC _
  cases v<;>first | exact e | exact LC _
 | new o k b=>intro w;exact b _ { w with heap:=w.heap.push o }
 | shape r k b=>intro w;exact b _ w
 | freeze a n k b=>
  intro w;refine LN ?_ (b (w.freeze a n));unfold VK;split<;>exact LC _
 | frozen a k b=>intro w;exact b _ w
 | getObj r k b=>
  intro w;simp only[Nm];cases ho:w.heap[r]? with
  | none=>exact LC _
  | some o=>cases o<;>first | exact b _ w | exact LC _
 | setObj r o k b=>
  intro w;simp only[Nm];cases ho:w.heap[r]? with
  | none=>exact LC _
  | some f=>cases f<;>first | exact b { w with heap:=w.heap.setIfInBounds r o } | exact LC _
 | choose q k b=>
  intro w;simp only[Nm];split
  ·exact b _ w
  ·exact LN (Wz _) (b _ { w with drawn:=w.drawn+1 })
 | sys c k b=>intro w;exact LN (AR w c) (b _ _)
 | program k b=>intro w;exact b _ w
 | mark m k b=>intro w;exact b w
 | halt h=>intro w;exact LC _
inductive ig [JunkSet] (base:Ly) (O:Ren):Ns->Prop
 | cell {i j:Ly} (off:Ly) (spot:LU Ly) (wr:MC):BR O i j->¬ JunkSet.jk i->(wr=LG->base<=i)->ig base O ⟨.cell ⟨j,off,spot⟩,wr,LH⟩
 | obj {i j:Ly} (wr:MC):BR O i j->base<=i->ig base O ⟨.obj j,wr,LH⟩
 | noRoom:ig base O ⟨.mark .noRoom,LH,LG⟩
 | env:ig base O ⟨.output,LG,LH⟩
structure Eff(base:Ly)(Z O:Ren)(w w':Lt):Prop where
 le:Le Z O
 tape:w'.tape=w.tape
 os:w'.os=w.os
 output:w'.output=w.output
 size:w.heap.size<=w'.heap.size
 keep:∀j,j<w.heap.size->(∀i,BR Z i j->i<base)->w'.heap[j]?=w.heap[j]?
 fresh:∀i j,BR O i j->Z.length<=i->w.heap.size<=j
 mine:∀j,w.heap.size<=j->j<w'.heap.size->∃i,Z.length<=i/\BR O i j
def ig.mono[JunkSet]{base:Ly}{Z O:Ren}(l:Le Z O){e:Ns}(h:ig base Z e):ig base O e:=by
 cases h with
 | cell b a wr d f c=>exact .cell b a wr (d.mono l) f c
 | obj wr d c=>exact .obj wr (d.mono l) c
 | noRoom=>exact .noRoom
 | env=>exact .env
def Eff.refl(base:Ly){Z:Ren}(w:Lt):Eff base Z Z w w :=
 ⟨.refl Z,rfl,rfl,rfl,LC _,λ_ _ _=>rfl,λi j h a=>absurd h.lt (by omega),λj c b=>by omega⟩
def Le.len{Z O:Ren}(l:Le Z O):Z.length<=O.length:=by
 obtain⟨⟨V,rfl⟩,_⟩:=l;simp
def BR.back{Z O:Ren}(l:Le Z O){i j:Ly}(h:BR O i j)(a:i<Z.length):BR Z i j:=by
 obtain⟨⟨V,rfl⟩,_⟩:=l;unfold BR at h ⊢
 rwa [Mv a] at h
def Eff.trans{base:Ly}{Z O V:Ren}{w w₁ w₂:Lt}(n:base<=Z.length)(h:Eff base Z O w w₁)(k:Eff base O V w₁ w₂):Eff base Z V w w₂:=by
 refine⟨h.le.trans k.le,k.tape.trans h.tape,k.os.trans h.os,k.output.trans h.output,LN h.size k.size,λj f e=>?_,λi j a d=>?_,λj l g=>?_⟩
 ·rw[k.keep j (LY f h.size) λi a=>?_,h.keep j f e];rcases NK i Z.length with c | c
  ·exact e i (a.back h.le c)
  ·have:=h.fresh i j a c;omega
 ·rcases NK i O.length with c | c
  ·exact h.fresh i j (a.back k.le c) d
  ·exact LN h.size (k.fresh i j a c)
 ·rcases NK j w₁.heap.size with c | c
  ·have⟨i,d,a⟩:=h.mine j l c;exact⟨i,d,a.mono k.le⟩
  ·have⟨i,d,a⟩:=k.mine j c g;exact⟨i,LN h.le.len d,a⟩
def ji{Y:Type}:Qq Y->Prop
 | .ok _ _=>Ro
 | .halt h _=>odd h=LG
def cO(w:Lt):Prop:=∀(i:Ly) (o:SQ),w.heap[i]?=Lq o->cJ o=LH
def ec{w:Lt}(b:cO w)(a:MN)(x:String){Y:Type}(u:Lt):¬ ji (.halt (w.noCell a x) u:Qq Y):=by
 unfold World.noCell;split
 ·rename_i h
  have:=b _ _ h;cases this
 ·exact λh=>by cases h
 ·exact λh=>by cases h
def xD{p:LV}{w:Lt}(c:cO w){a:MN}{b:MC}{h:Halt}(e:w.farLoad p a b=.error h):odd h=LH:=by
 unfold Vn at e;split at e
 ·split at e
  ·cases e
  ·cases e;rfl
 ·cases e;have:=ec c a "load: no such cell" (Y:=Unit) w;cases ho:odd (w.noCell a "load: no such cell") with
  | false=>rfl
  | true=>exact absurd ho this
def uT{p:LV}{w:Lt}(c:cO w){a:MN}{v:LA}{b:MC}{h:Halt}(e:w.farStore p a v b=.error h):odd h=LH:=by
 unfold Rv at e;split at e
 ·split at e
  ·cases e
  ·cases e;rfl
 ·cases e;have:=ec c a "store: no such cell" (Y:=Unit) w;cases ho:odd (w.noCell a "store: no such cell") with
  | false=>rfl
  | true=>exact absurd ho this
def fC{Y:Type}{h:Halt}(a:odd h=LH)(w:Lt):¬ ji (.halt h w:Qq Y):=λx=>by
 have x:odd h=LG:=x;rw[a] at x;cases x
def cO.set{w:Lt}(b:cO w){r:Ly}{o:SQ}(c:cJ o=LH):cO { w with heap:=w.heap.setIfInBounds r o }:=λi x a=>by
 simp only[My] at a;split at a
 ·split at a
  ·cases a;exact c
  ·cases a
 ·exact b i x a
def cO.push{w:Lt}(b:cO w){o:SQ}(c:cJ o=LH):cO { w with heap:=w.heap.push o }:=λi x a=>by
 simp only[Qf] at a;split at a
 ·cases a;exact c
 ·exact b i x a
def cO.modify{w:Lt}(b:cO w)(r:Ly){f:SQ->SQ}(c:∀o,cJ o=LH->cJ (f o)=LH):cO { w with heap:=w.heap.modify r f }:=λi x a=>by
 simp only[Pt] at a;split at a
 ·cases h:w.heap[i]? with
  | none=>rw[h] at a;cases a
  | some y=>
   rw[h] at a;cases a;exact c y (b i y h)
 ·exact b i x a
def cO.cell{w:Lt}(b:cO w)(a:MN)(v:LA):cO (w.setCell a v):=b.modify a.block λo c=>by
 cases o<;>first | rfl | exact c
def cO.freeze{w:Lt}(b:cO w)(a:MN)(n:Ly):cO (w.freeze a n):=by
 unfold VK;split
 ·exact b
 ·exact b.modify a.block λo c=>by
   cases o<;>first | rfl | exact c
def rZ{p:LV}{w:Lt}{a:MN}{u:LZ}{k:MN}{v:LA}{b:MC}{r:Lt × Lx MN}(h:w.viewStore p a u k v b=.ok r):∃x o,cJ o=LH/\r.1={ w with heap:=w.heap.setIfInBounds x o }:=by
 unfold WH at h;simp only[bind,Except.bind,pure,Except.pure] at h
 repeat' (split at h)
 all_goals first | (cases h;exact⟨_,_,rfl,rfl⟩) | cases h | (cases h;done)
def CY(w:Lt)(c:Sys):(w.sys c).2.heap=w.heap:=by
 have d:∀{Y:Type} (x:Ask Y) (w:Lt),(w.ask x).2.heap=w.heap:=by
  intro Y x;induction x with
  | done a=>intro w;rfl
  | ask e b k f=>
   intro w;unfold World.ask;dsimp only;split
   ·exact f _ w
   ·exact f _ { w with drawn:=w.drawn+1 }
 unfold World.sys;have:=d (Kernel.perform c w.os) w;split
 ·rfl
 ·rename_i h
  rw[h] at this;exact this
def Bad.not_fine{Y:Type}{p:LV}{s:Ps Y}:∀{w:Lt},cO w->Bad p s->¬ ji (s.run p w):=by
 induction s with
 | pure a=>intro w _ h;exact h.elim
 | load m a k d=>
  intro w b h;simp only[Nm];split
  ·exact d _ b (h _)
  ·split
   ·exact d _ b (h _)
   ·rename_i e
    exact fC (xD b e) w
 | store m a v k d=>
  intro w b h;have g:¬ ji (match w.cell? a with
     | some _=>if w.frozen? a then(.halt (.unsupported (.unsafePointer "a write to bytes that a string shares")) w:Qq Y) else k.run p (w.setCell a v)
     | none=>match w.farStore p a v (m == .atomic) with
      | .ok (w,_)=>k.run p w
      | .error h=>.halt h w):=by
   split
   ·split
    ·exact λh=>by cases h
    ·exact d (b.cell a v) h
   ·split
    ·rename_i l t e
     refine d ?_ h;unfold Rv at e;split at e
     ·split at e
      ·rename_i r y
       cases e;have⟨x,o,f,j⟩:=rZ y;have j:l={ w with heap:=w.heap.setIfInBounds x o }:=j;rw[j];exact b.set f
      ·cases e
     ·cases e
    ·rename_i e
     exact fC (uT b e) w
  cases v<;>first | exact g | exact λh=>by cases h
 | new o k d=>intro w b h;exact d _ (b.push h.1) (h.2 _)
 | shape r k d=>intro w b h;exact d _ b (h _)
 | freeze a n k d=>intro w b h;exact d (w:=w.freeze a n) (b.freeze a n) h
 | frozen a k d=>intro w b h;exact d _ b (h _)
 | getObj r k d=>
  intro w b h;simp only[Nm];cases f:w.heap[r]? with
  | none=>exact λh=>by cases h
  | some o=>cases o<;>first | exact d _ b (h _) | exact λh=>by cases h
 | setObj r o k d=>
  intro w b h;simp only[Nm];cases f:w.heap[r]? with
  | none=>exact λh=>by cases h
  | some u=>cases u<;>first | exact d (b.set h.1) h.2 | exact λh=>by cases h
 | choose q k d=>
  intro w b h;simp only[Nm];split
  ·exact d _ b (h _)
  ·exact d _ (w:={ w with drawn:=w.drawn+1 }) b (h _)
 | sys c k d=>
  intro w b h;refine d _ (w:=(w.sys c).2) (λi o f=>b i o ?_) (h _)
  rwa [CY] at f
 | program k d=>intro w b h;exact d _ b h
 | mark m k d=>intro w b h;exact d b h
 | halt x=>intro w b h;exact fC h w
inductive zM [JunkSet] {Y M:Type} (R:Rel Y M) (O:Ren):Qq Y->Lt->Qq M->Lt->Prop
 | ok {a:Y} {b:M} (wq w:Lt):R O a b->zM R O (.ok a wq) wq (.ok b w) w
 | panic {v v':LA} (wq w:Lt):VR O v v'->zM R O (.halt (.panic v) wq) wq (.halt (.panic v') w) w
section
variable[JunkSet]{Q P:LV}{base:Ly}
def WR.looked{Z:Ren}{d w:Lt}(h:WR Q base Z d w){a:MN}{j:Ly}(n:BR Z a.block j){v:LA}(b:d.cell? a=Lq v):¬ JunkSet.jk a.block:=by
 intro k;unfold Mz at b;split at b
 ·rename_i c e f l
  rcases h.obj _ _ _ n l with⟨_,g,_⟩ | ⟨i,_⟩
  ·cases g;split at b<;>simp at b
  ·exact i k
 ·cases b
def WR.cell{Z:Ren}{o w:Lt}(h:WR Q base Z o w){a:MN}{j:Ly}(u:BR Z a.block j){v:LA}(b:o.cell? a=Lq v) :∃d,w.cell? ⟨j,a.off,a.spot⟩=Lq d/\VR Z v d:=by
 unfold Mz at b;split at b
 ·rename_i c e f t
  split at b
  ·cases b
  ·rename_i q
   rcases h.obj _ _ _ u t with⟨_,s,_⟩ | ⟨_,x,l,r⟩
   ·cases s;simp at b
   ·cases r with
    | cells e n y=>
     have⟨d,k,g⟩:=n.get b;refine⟨d,?_,g⟩;unfold Mz;simp only[l];rw[if_neg q];exact k
 ·cases b
def WR.nopend{Z:Ren}{a w:Lt}(h:WR Q base Z a w):cO a:=λi o b=>by
 rcases h.gar i o b with⟨j,e⟩ | d
 ·rcases h.obj _ _ _ e b with⟨_,rfl,_⟩ | ⟨_,f,_,c⟩
  ·rfl
  ·cases c<;>rfl
 ·exact d
def WR.shape{Z:Ren}{b w:Lt}(h:WR Q base Z b w){i j:Ly}(n:BR Z i j):ShR Q i (b.shape? i) (w.shape? j):=by
 have p:i<b.heap.size:=by rw[<- h.len];exact n.lt
 have d:b.heap[i]?=Lq b.heap[i]:=Ml p;rcases h.obj _ _ _ n d with⟨a,o,k,c,e,f,q⟩ | ⟨a,s,g,l⟩
 ·rw[o] at d;exact .inr ⟨a,k,by simp[World.shape?,d,IX],e,c.size,by simp[World.shape?,q]⟩
 ·refine .inl ⟨a,?_⟩;unfold World.shape?;rw[d,g];generalize b.heap[i]=x at l;cases l with
  | cells e r t=>simp[r.1]
  | _=>rfl
def WR.noview{Z:Ren}{b w:Lt}(h:WR Q base Z b w){i j:Ly}(f:BR Z i j)(a:MN)(t:LZ):b.heap[i]?≠Lq (.view a t):=by
 intro e;rcases h.obj _ _ _ f e with⟨_,d,_⟩ | ⟨_,g,_,c⟩
 ·cases d
 ·cases c
def WR.set{Z:Ren}{l w:Lt}(h:WR Q base Z l w){a:MN}{j:Ly}(D:BR Z a.block j){u v t:LA}(s:l.cell? a=Lq u)(hf:l.frozen? a=LH)(hv:VR Z v t) :base<=a.block/\w.frozen? ⟨j,a.off,a.spot⟩=LH/\WR Q base Z (l.setCell a v) (w.setCell ⟨j,a.off,a.spot⟩ t)/\Eff base Z Z w (w.setCell ⟨j,a.off,a.spot⟩ t):=by
 unfold Mz at s;split at s
 ·rename_i c e f d
  split at s
  ·cases s
  ·rename_i U
   have y:a.spot=Lw:=by
    cases hsp:a.spot with
    | none=>rfl
    | some _=>rw[hsp] at U;exact absurd rfl U
   have A:a.off<c.size:=(Lz.1 s).1;have q:base<=a.block:=by
    rcases NK a.block base with N | N
    ·have⟨c',e',f',G,F⟩:=h.low _ N;rw[d] at G;cases G;have:=F _ A;simp[Pw,d,this.1,this.2] at hf
    ·exact N
   rcases h.obj _ _ _ D d with⟨_,hj,_⟩ | ⟨_,o',n,hr⟩
   ·cases hj;simp at A
   ·cases hr with
    | @cells _ c' _ _ f' T C=>
     have L:w.frozen? ⟨j,a.off,a.spot⟩=LH:=by
      simp only[Pw,n];rw[Bool.eq_false_iff];intro b;simp only[Mg,decide_eq_true_eq] at b;have:=C _ b.1 b.2;simp[Pw,d,this.1,this.2] at hf
     have hi:a.block<l.heap.size:=(Lz.1 d).1;have V:j<w.heap.size:=(Lz.1 n).1;have r:∀i:Ly,(l.setCell a v).heap[i]?=if i=a.block then Lq (.cells (c.setIfInBounds a.off v) e f) else l.heap[i]?:=by
      intro i;simp only[NS,Pt];by_cases b:a.block=i
      ·subst b;simp[d,y]
      ·rw[if_neg b,if_neg (λx=>b x.symm)]
     have H:∀i:Ly,(w.setCell ⟨j,a.off,a.spot⟩ t).heap[i]?=if i=j then Lq (.cells (c'.setIfInBounds a.off t) e f') else w.heap[i]?:=by
      intro i;simp only[NS,Pt];by_cases b:j=i
      ·subst b;simp[n,y]
      ·rw[if_neg b,if_neg (λx=>b x.symm)]
     refine⟨q,L,⟨by rw[h.len];simp[NS],h.nodup,λi k I=>by have:=h.lt i k I;simpa[NS] using this,λi k o g z=>?_,λi B=>?_,h.env,h.below,λi o p=>by
      rw[r] at p;by_cases b:i=a.block
      ·exact .inl ⟨j,b ▸ D⟩
      ·rw[if_neg b] at p;exact h.gar i o p⟩,⟨.refl Z,rfl,rfl,rfl,by simp[NS],λk I hn=>?_,λi k g B=>absurd g.lt (by omega),λk G F=>by simp[NS] at F;omega⟩⟩
     ·rw[r] at z;rw[H];by_cases b:i=a.block
      ·subst b;have:k=j:=g.fn D;subst this;rw[if_pos rfl] at z ⊢;cases z;exact .inr ⟨λI=>by have:=h.below _ I;omega,_,rfl,.cells e (T.set _ hv) C⟩
      ·have O:k≠j:=λx=>by
        subst x;exact b (g.inj h.nodup D)
       rw[if_neg b] at z;rw[if_neg O];exact h.obj i k o g z
     ·have⟨c1,e1,f1,G,F⟩:=h.low i B;refine⟨c1,e1,f1,?_,F⟩;rw[r,if_neg (by omega)];exact G
     ·rw[H];by_cases b:k=j
      ·subst b;have:=hn _ D;omega
      ·rw[if_neg b]
 ·cases s
def WR.setO{Z:Ren}{wq w:Lt}(h:WR Q base Z wq w){r j:Ly}(u:BR Z r j){o z y:SQ}(F:wq.heap[r]?=Lq y)(q:∀c e f,y≠.cells c e f)(H:ObR Z o z) :base<=r/\(∃a,w.heap[j]?=Lq a/\ObR Z y a)/\WR Q base Z { wq with heap:=wq.heap.setIfInBounds r o } { w with heap:=w.heap.setIfInBounds j z }/\Eff base Z Z w { w with heap:=w.heap.setIfInBounds j z }:=by
 have l:base<=r:=by
  rcases NK r base with C | C
  ·have⟨c,e,f,v,_⟩:=h.low _ C;rw[F] at v;cases v;exact absurd rfl (q _ _ _)
  ·exact C
 have hrel:∃a,w.heap[j]?=Lq a/\ObR Z y a:=by
  rcases h.obj _ _ _ u F with⟨_,L,_⟩ | ⟨_,B⟩
  ·exact absurd L (q _ _ _)
  ·exact B
 obtain⟨a,p,B⟩:=hrel;have N:r<wq.heap.size:=(Lz.1 F).1;have s:j<w.heap.size:=(Lz.1 p).1;refine⟨l,⟨a,p,B⟩,⟨by rw[h.len];simp,h.nodup,λi k A=>by have:=h.lt i k A;simpa using this,λi k x b d=>?_,λi t=>?_,h.env,h.below,λi x g=>by
   rw[My] at g;by_cases n:r=i
   ·exact .inl ⟨j,n ▸ u⟩
   ·rw[if_neg n] at g;exact h.gar i x g⟩,⟨.refl Z,rfl,rfl,rfl,by simp,λk A I=>?_,λi k b t=>absurd b.lt (by omega),λk v G=>by simp at G;omega⟩⟩
 ·simp only[My] at d ⊢;by_cases n:r=i
  ·subst n;have:k=j:=b.fn u;subst this;rw[if_pos rfl,if_pos N] at d;cases d;refine .inr ⟨λA=>by have:=h.below _ A;omega,z,?_,H⟩;rw[if_pos rfl,if_pos s]
  ·have D:j≠k:=λx=>by
    subst x;exact n (u.inj h.nodup b)
   rw[if_neg n] at d;rw[if_neg D];exact h.obj i k x b d
 ·have⟨T,O,f1,v,G⟩:=h.low i t;refine⟨T,O,f1,?_,G⟩;simp only[My];rw[if_neg (by omega)];exact v
 ·simp only[My];by_cases d:j=k
  ·subst d;have:=I _ u;omega
  ·rw[if_neg d]
def WR.newO{Z:Ren}{wq w:Lt}(h:WR Q base Z wq w)(F:base<=Z.length){o p:SQ}(v:ObR Z o p) :WR Q base (Z++[Lq w.heap.size]) { wq with heap:=wq.heap.push o } { w with heap:=w.heap.push p }/\Eff base Z (Z++[Lq w.heap.size]) w { w with heap:=w.heap.push p }:=by
 have c:Le Z (Z++[Lq w.heap.size]):=.snoc _ _ λi f=>Rh _ (h.lt i _ f);have b:∀{i j:Ly},BR (Z++[Lq w.heap.size]) i j->(i<Z.length/\BR Z i j)\/(i=Z.length/\j=w.heap.size):=by
  intro i j a;rcases a.snoc_cases with z | ⟨n,l⟩
  ·exact .inl z
  ·exact .inr ⟨n,(OQ l).symm⟩
 refine⟨⟨by simp[h.len],?_,λi j a=>?_,λi j x a g=>?_,λi f=>?_,h.env,h.below,λi o f=>?_⟩,⟨c,rfl,rfl,rfl,by simp,λj r D=>?_,λi j a f=>?_,λj n l=>?_⟩⟩
 ·exact c.2 h.nodup
 ·rcases b a with⟨q,d⟩ | ⟨rfl,rfl⟩
  ·have:=h.lt i j d;simp;omega
  ·simp
 ·simp only[Qf] at g ⊢;rcases b a with⟨q,d⟩ | ⟨rfl,rfl⟩
  ·have n:=h.lt i j d;rw[if_neg (by have:=h.len;omega)] at g;rw[if_neg (by omega)];rcases h.obj i j x d g with⟨k,rfl,A⟩ | ⟨k,y,s,t⟩
   ·exact .inl ⟨k,rfl,A⟩
   ·exact .inr ⟨k,y,s,t.mono c⟩
  ·rw[if_pos h.len] at g;cases g;exact .inr ⟨λk=>by have:=h.below _ k;omega,p,by simp,v.mono c⟩
 ·have⟨C,B,f1,n,l⟩:=h.low i f;refine⟨C,B,f1,?_,l⟩;simp only[Qf];have:=h.len;rw[if_neg (by omega)];exact n
 ·simp only[Qf] at f;split at f
  ·rename_i e
   exact .inl ⟨w.heap.size,by rw[e,<- h.len];exact BR.new _ _⟩
  ·rcases h.gar i o f with⟨j,r⟩ | u
   ·exact .inl ⟨j,r.mono c⟩
   ·exact .inr u
 ·simp only[Qf];rw[if_neg (by omega)]
 ·rcases b a with⟨q,_⟩ | ⟨_,rfl⟩
  ·omega
  ·exact LC _
 ·simp at l;have:j=w.heap.size:=by omega
  subst this;exact⟨Z.length,LC _,BR.new _ _⟩
def WR.draw{Z:Ren}{wq w:Lt}(h:WR Q base Z wq w):WR Q base Z { wq with drawn:=wq.drawn+1 } { w with drawn:=w.drawn+1 }/\Eff base Z Z w { w with drawn:=w.drawn+1 } :=
 ⟨⟨h.len,h.nodup,h.lt,h.obj,h.low,h.env,h.below,h.gar⟩,⟨.refl Z,rfl,rfl,rfl,LC _,λ_ _ _=>rfl,λi k a b=>absurd a.lt (by omega),λk d c=>by simp at c;omega⟩⟩
omit [JunkSet] in
def bY.draw{D:Ly}{wq w:Lt}(h:bY D wq w):bY D { wq with drawn:=wq.drawn+1 } { w with drawn:=w.drawn+1 }:=λn q a=>by
 have:=h (n+1) q (by simp only at a;omega);simpa[RY,Nat.add_comm 1 n] using this
omit [JunkSet] in
def bY.heap{D:Ly}{b w a c:Lt}(h:bY D b w)(i:a.tape=b.tape)(d:a.drawn=b.drawn)(g:c.tape=w.tape)(f:c.drawn=w.drawn):bY D a c:=λn q e=>by
 rw[i,d,g,f];exact h n q (by rw[<- d];exact e)
def eY{Y:Type}{p:LV}{r:Ly}{k:SQ->Ps Y}{w:Lt}{o:SQ}(h:w.heap[r]?=Lq o)(a:∀c e f,o≠.cells c e f):(Sem.getObj r k).run p w=(k o).run p w:=by
 rw[Nm,h];cases o<;>first | exact absurd rfl (a _ _ _) | rfl
def wu{Y:Type}{p:LV}{r:Ly}{k:SQ->Ps Y}{w:Lt}{o:SQ}(a:LM Ns)(h:w.heap[r]?=Lq o)(b:∀c e f,o≠.cells c e f):(Sem.getObj r k).runT p w a=(k o).runT p w (a.push ⟨.obj r,LH,o.isChan⟩):=by
 rw[QK,h];cases o<;>first | exact absurd rfl (b _ _ _) | rfl
def eX{Y:Type}{p:LV}{r:Ly}{x:SQ}{k:Ps Y}{w:Lt}{o:SQ}(h:w.heap[r]?=Lq o)(a:∀c e f,o≠.cells c e f):(WO r x k).run p w=k.run p { w with heap:=w.heap.setIfInBounds r x }:=by
 rw[Nm,h];cases o<;>first | exact absurd rfl (a _ _ _) | rfl
def wj{Y:Type}{p:LV}{r:Ly}{x:SQ}{k:Ps Y}{w:Lt}{o:SQ}(a:LM Ns)(h:w.heap[r]?=Lq o)(b:∀c e f,o≠.cells c e f):(WO r x k).runT p w a=k.runT p { w with heap:=w.heap.setIfInBounds r x } (a.push ⟨.obj r,LG,x.isChan⟩):=by
 rw[QK,h];cases o<;>first | exact absurd rfl (b _ _ _) | rfl
def SR.runs{Y M:Type}{R:Rel Y M}{s:Ps Y}{D:Ly}:∀{Z:Ren} {s':Ps M} {A w:Lt} (es:LM Ns),SR Q P R s Z s'->base<=Z.length->WR Q base Z A w->bY D A w->(rwR (s.run Q A)).drawn<=D->ji (s.run Q A) ->∃O p G t,zM R O (s.run Q A) p (s'.run P w) G/\(s'.runT P w es).2=es++t/\(∀e∈t,ig base O e)/\WR Q base O p G/\bY D p G/\Eff base Z O w G/\p.drawn+w.drawn=A.drawn+G.drawn:=by
 induction s with
 | pure a=>
  intro Z s' A w es h F l H _ _;obtain⟨b,rfl,hr⟩:=h;exact⟨Z,A,w,#[],.ok A w hr,by simp[QK],by simp,l,H,.refl base w,rfl⟩
 | load m a k ih=>
  intro Z s' A w es h F l H z d;rcases h with g | ⟨rfl,j,k',rfl,B,T⟩
  ·exact absurd d (Bad.not_fine l.nopend g)
  simp only[Nm] at z d ⊢;cases hc:A.cell? a with
  | none=>
   rw[hc] at d;simp only[Vn] at d;split at d
   ·rename_i hv
    split at hv
    ·rename_i U
     exact absurd U (l.noview B _ _)
    ·cases hv
   ·rename_i hv
    split at hv
    ·rename_i U
     exact absurd U (l.noview B _ _)
    ·cases hv;exact absurd d (ec l.nopend _ _ _)
  | some v=>
   have⟨v',U,hr⟩:=l.cell B hc;rw[hc] at z d;simp only[U] at z d ⊢;have⟨O,p,G,t,L,h2,h3,h4,h5,I,h7⟩:=ih v (es.push ⟨.cell ⟨j,a.off,a.spot⟩,LH,LH⟩) (T v v' hr) F l H z d;refine⟨O,p,G,#[⟨.cell ⟨j,a.off,a.spot⟩,LH,LH⟩]++t,L,?_,?_,h4,h5,I,h7⟩
   ·simp only[QK,U];rw[show((Mode.plain == Mode.atomic)=LH) from rfl,h2];simp
   ·intro e y;rw[Pj] at y;rcases y with y | y
    ·simp at y;subst y;exact .cell _ _ _ (B.mono I.le) (l.looked B hc) (by simp)
    ·exact h3 e y
 | store m a v k ih=>
  intro Z s' A w es h F l H z d;rcases h with g | ⟨rfl,j,v',k',rfl,B,hv,T⟩
  ·exact absurd d (Bad.not_fine l.nopend (s:=.store m a v k) g)
  have e8:(∃x,v=.agg x)\/(∃x,v=.tuple x)\/((∀x,v≠.agg x)/\∀x,v≠.tuple x):=by
   cases v<;>simp
  rcases e8 with⟨x,rfl⟩ | ⟨x,rfl⟩ | ⟨g8,g7⟩
  ·simp only[Nm] at d;exact absurd d (λh=>by cases h)
  ·simp only[Nm] at d;exact absurd d (λh=>by cases h)
  ·have e6:∀x,v'≠.agg x:=λx e=>by subst e;cases hv<;>first | exact g8 _ rfl | (rename_i h;cases h)
   have e5:∀x,v'≠.tuple x:=λx e=>by subst e;cases hv<;>first | exact g7 _ rfl | (rename_i h;cases h)
   have e1:(Wi .plain a v k).run Q A=match A.cell? a with
     | some _=>if A.frozen? a then .halt (.unsupported (.unsafePointer "a write to bytes that a string shares")) A else k.run Q (A.setCell a v)
     | none=>match A.farStore Q a v LH with
      | .ok (w,_)=>k.run Q w
      | .error h=>.halt h A:=by
    cases v<;>first | rfl | exact absurd rfl (g8 _) | exact absurd rfl (g7 _)
   have e2:(Wi .plain (⟨j,a.off,a.spot⟩:MN) v' k').run P w=match w.cell? ⟨j,a.off,a.spot⟩ with
     | some _=>if w.frozen? ⟨j,a.off,a.spot⟩ then .halt (.unsupported (.unsafePointer "a write to bytes that a string shares")) w else k'.run P (w.setCell ⟨j,a.off,a.spot⟩ v')
     | none=>match w.farStore P ⟨j,a.off,a.spot⟩ v' LH with
      | .ok (w,_)=>k'.run P w
      | .error h=>.halt h w:=by
    cases v'<;>first | rfl | exact absurd rfl (e6 _) | exact absurd rfl (e5 _)
   have e3:((Wi .plain (⟨j,a.off,a.spot⟩:MN) v' k').runT P w es).2=(match w.cell? ⟨j,a.off,a.spot⟩ with
     | some _=>if w.frozen? ⟨j,a.off,a.spot⟩ then((XW (.unsupported (.unsafePointer "a write to bytes that a string shares")) w:Qq M),es) else k'.runT P (w.setCell ⟨j,a.off,a.spot⟩ v') (es.push ⟨.cell ⟨j,a.off,a.spot⟩,LG,LH⟩)
     | none=>match w.farStore P ⟨j,a.off,a.spot⟩ v' LH with
      | .ok (w,d8)=>k'.runT P w (es++d8.toArray.map λx=>(⟨.cell x,LG,LH⟩:Ns))
      | .error h=>((XW h w:Qq M),es)).2:=by
    cases v'<;>first | rfl | exact absurd rfl (e6 _) | exact absurd rfl (e5 _)
   rw[e1] at z d ⊢;rw[e2,e3];cases hc:A.cell? a with
   | none=>
    rw[hc] at d;simp only[Rv] at d;split at d
    ·rename_i hv
     split at hv
     ·rename_i U
      exact absurd U (l.noview B _ _)
     ·cases hv
    ·rename_i hv
     split at hv
     ·rename_i U
      exact absurd U (l.noview B _ _)
     ·cases hv;exact absurd d (ec l.nopend _ _ _)
   | some u=>
    have⟨u',k5,_⟩:=l.cell B hc;rw[hc] at z d;simp only[k5] at z d ⊢;cases hfz:A.frozen? a with
    | true=>
     rw[hfz] at d;exact absurd d (λh=>by cases h)
    | false=>
     have⟨N,h8,c9,d5⟩:=l.set B hc hfz hv;rw[hfz] at z d;simp only[h8,Mx,if_false] at z d ⊢;have⟨O,p,G,t,L,h2,h3,h4,h5,I,h7⟩:=ih (es.push ⟨.cell ⟨j,a.off,a.spot⟩,LG,LH⟩) T F c9 (H.heap rfl rfl rfl rfl) z d;refine⟨O,p,G,#[⟨.cell ⟨j,a.off,a.spot⟩,LG,LH⟩]++t,L,by rw[h2];simp,?_,h4,h5,d5.trans F I,h7⟩;intro e y;rw[Pj] at y;rcases y with y | y
     ·simp at y;subst y;exact .cell _ _ _ (B.mono I.le) (λT=>absurd (l.below _ T) (by omega)) (λ_=>N)
     ·exact h3 e y
 | new o k ih=>
  intro Z s' A w es h F l H z d;rcases h with g | ⟨o',k',rfl,ho,T⟩
  ·exact absurd d (Bad.not_fine l.nopend (s:=.new o k) g)
  simp only[Nm] at z d ⊢;have⟨c9,d5⟩:=l.newO F ho;have g9:=T w.heap.size (λi hi=>Rh _ (l.lt i _ hi));rw[l.len] at g9;have⟨O,p,G,t,L,h2,h3,h4,h5,I,h7⟩:=ih _ es g9 (by simp;omega) c9 (H.heap rfl rfl rfl rfl) z d;exact⟨O,p,G,t,L,by simp only[QK];exact h2,h3,h4,h5,d5.trans F I,by simp only at h7;omega⟩
 | shape r k ih=>
  intro Z s' A w es h F l H z d;rcases h with g | ⟨j,k',rfl,B,T⟩
  ·exact absurd d (Bad.not_fine l.nopend (s:=.shape r k) g)
  simp only[Nm] at z d ⊢;have⟨O,p,G,t,L,h2,h3,h4,h5,I,h7⟩:=ih _ es (T _ _ (l.shape B)) F l H z d;exact⟨O,p,G,t,L,by simp only[QK];exact h2,h3,h4,h5,I,h7⟩
 | freeze a n k _=>intro Z s' A w es h F l H z d;exact absurd d (Bad.not_fine l.nopend (s:=.freeze a n k) h)
 | frozen a k _=>intro Z s' A w es h F l H z d;exact absurd d (Bad.not_fine l.nopend (s:=.frozen a k) h)
 | getObj r k ih=>
  intro Z s' A w es h F l H z d;rcases h with g | ⟨j,k',rfl,B,T⟩
  ·exact absurd d (Bad.not_fine l.nopend (s:=.getObj r k) g)
  cases ho:A.heap[r]? with
  | none=>simp only[Nm,ho] at d;exact absurd d (λh=>by cases h)
  | some o=>
   by_cases C:∃c e f,o=.cells c e f
   ·obtain⟨c,e,f,rfl⟩:=C;simp only[Nm,ho] at d;exact absurd d (λh=>by cases h)
   ·have V:∀c e f,o≠.cells c e f:=λc e f x=>C ⟨c,e,f,x⟩;have N:base<=r:=by
     rcases NK r base with hl | hl
     ·have⟨c,e,f,L,_⟩:=l.low _ hl;rw[ho] at L;cases L;exact absurd rfl (V _ _ _)
     ·exact hl
    rcases l.obj _ _ _ B ho with⟨_,hj,_⟩ | ⟨_,o',g6,hr⟩
    ·exact absurd hj (V _ _ _)
    ·have c3:∀c e f,o'≠.cells c e f:=λc e f x=>by subst x;cases hr;exact V _ _ _ rfl
     have e7:o'.isChan=LH:=by cases hr<;>rfl
     rw[eY ho V] at z d;rw[eY ho V,eY g6 c3,wu es g6 c3,e7];have⟨O,p,G,t,L,h2,h3,h4,h5,I,h7⟩:=ih o (es.push ⟨.obj j,LH,LH⟩) (T _ _ hr) F l H z d;refine⟨O,p,G,#[⟨.obj j,LH,LH⟩]++t,L,by rw[h2];simp,?_,h4,h5,I,h7⟩;intro e y;rw[Pj] at y;rcases y with y | y
     ·simp at y;subst y;exact .obj _ (B.mono I.le) N
     ·exact h3 e y
 | setObj r o k ih=>
  intro Z s' A w es h F l H z d;rcases h with g | ⟨j,o',k',rfl,B,g5,T⟩
  ·exact absurd d (Bad.not_fine l.nopend (s:=.setObj r o k) g)
  cases ho:A.heap[r]? with
  | none=>simp only[Nm,ho] at d;exact absurd d (λh=>by cases h)
  | some ob=>
   by_cases C:∃c e f,ob=.cells c e f
   ·obtain⟨c,e,f,rfl⟩:=C;simp only[Nm,ho] at d;exact absurd d (λh=>by cases h)
   ·have V:∀c e f,ob≠.cells c e f:=λc e f x=>C ⟨c,e,f,x⟩;have⟨N,⟨k0,e4,hr⟩,c9,d5⟩:=l.setO B ho V g5;have c3:∀c e f,k0≠.cells c e f:=λc e f x=>by subst x;cases hr;exact V _ _ _ rfl
    have e7:o'.isChan=LH:=by cases g5<;>rfl
    rw[eX ho V] at z d;rw[eX ho V,eX e4 c3,wj es e4 c3,e7];have⟨O,p,G,t,L,h2,h3,h4,h5,I,h7⟩:=ih (es.push ⟨.obj j,LG,LH⟩) T F c9 (H.heap rfl rfl rfl rfl) z d;refine⟨O,p,G,#[⟨.obj j,LG,LH⟩]++t,L,by rw[h2];simp,?_,h4,h5,d5.trans F I,h7⟩;intro e y;rw[Pj] at y;rcases y with y | y
    ·simp at y;subst y;exact .obj _ (B.mono I.le) N
    ·exact h3 e y
 | choose q k ih=>
  intro Z s' A w es h F l H z d;rcases h with g | ⟨k',rfl,T⟩
  ·exact absurd d (Bad.not_fine l.nopend (s:=.choose q k) g)
  simp only[Nm] at z d ⊢;cases hq:q.forced with
  | true=>
   rw[hq] at z d;simp only[if_true] at z d ⊢;have⟨O,p,G,t,L,h2,h3,h4,h5,I,h7⟩:=ih _ es (T _) F l H z d;exact⟨O,p,G,t,L,by simp only[QK,hq,if_true];exact h2,h3,h4,h5,I,h7⟩
  | false=>
   rw[hq] at z d;simp only[Mx,if_false] at z d ⊢;have k6:A.tape A.drawn q=w.tape w.drawn q:=by
    have:=LN (iU Q _ _) z;simpa using H 0 q (by simp only at this;omega)
   have⟨c9,d5⟩:=l.draw;rw[k6] at z d ⊢;have⟨O,p,G,t,L,h2,h3,h4,h5,I,h7⟩:=ih _ es (T _) F c9 H.draw z d;exact⟨O,p,G,t,L,by simp only[QK,hq,Mx,if_false];exact h2,h3,h4,h5,d5.trans F I,by simp only at h7;omega⟩
 | sys c k ih=>
  intro Z s' A w es h F l H z d;rcases h with g | ⟨rfl,k',rfl,T⟩
  ·exact absurd d (Bad.not_fine l.nopend (s:=.sys c k) g)
  have e1:∀u:Lt,u.sys .env=(.strings u.os.env,u):=λu=>rfl;simp only[Nm,e1] at z d ⊢;rw[l.env] at z d ⊢;have⟨O,p,G,t,L,h2,h3,h4,h5,I,h7⟩:=ih _ (es.push ⟨.output,LG,LH⟩) (T _) F l H z d;refine⟨O,p,G,#[⟨.output,LG,LH⟩]++t,L,by simp only[QK,e1];rw[h2];simp,?_,h4,h5,I,h7⟩;intro e y;rw[Pj] at y;rcases y with y | y
  ·simp at y;subst y;exact .env
  ·exact h3 e y
 | program k ih=>
  intro Z s' A w es h F l H z d;rcases h with g | ⟨k',rfl,T⟩
  ·exact absurd d (Bad.not_fine l.nopend (s:=.program k) g)
  simp only[Nm] at z d ⊢;have⟨O,p,G,t,L,h2,h3,h4,h5,I,h7⟩:=ih _ es T F l H z d;exact⟨O,p,G,t,L,by simp only[QK];exact h2,h3,h4,h5,I,h7⟩
 | mark m k ih=>
  intro Z s' A w es h F l H z d;rcases h with g | ⟨rfl,k',rfl,T⟩
  ·exact absurd d (Bad.not_fine l.nopend (s:=.mark m k) g)
  simp only[Nm] at z d ⊢;have⟨O,p,G,t,L,h2,h3,h4,h5,I,h7⟩:=ih (es.push ⟨.mark .noRoom,LH,LG⟩) T F l H z d;refine⟨O,p,G,#[⟨.mark .noRoom,LH,LG⟩]++t,L,by simp only[QK];rw[h2];simp,?_,h4,h5,I,h7⟩;intro e y;rw[Pj] at y;rcases y with y | y
  ·simp at y;subst y;exact .noRoom
  ·exact h3 e y
 | halt x=>
  intro Z s' A w es h F l H z d;cases x with
  | panic v=>
   obtain⟨v',rfl,hv⟩:=h;exact⟨Z,A,w,#[],.panic A w hv,by simp[QK],by simp,l,H,.refl base w,rfl⟩
  | _=>exact absurd d (fC h A)
end
end
section
def EqR{Y:Type}:Rel Y Y:=λ_ a b=>b=a
def Gl(P:LV)(Z:Ren):Prop:=∀i,i<=P.globals.size->BR Z i i
def Gl.mono{P:LV}{Z O:Ren}(l:Le Z O)(h:Gl P Z):Gl P O:=λi a=>(h i a).mono l
section
variable[JunkSet]{Q P:LV}{Y M W X:Type}{R:Rel Y M}{S:Rel W X}{Z:Ren}
def aj{a:Y}{b:M}(h:R Z a b):SR Q P R (pure a) Z (pure b):=⟨b,rfl,h⟩
def SR.bnd{s:Ps Y}{c:Ps M}{f:Y->Ps W}{f':M->Ps X}(h:SR Q P R s Z c)(d:∀O a b,Le Z O->R O a b->SR Q P S (f a) O (f' b)) :SR Q P S (s>>=f) Z (c>>=f'):=SR.bind h d
def SR.bndE{s c:Ps Y}{f:Y->Ps W}{f':Y->Ps X}(h:SR Q P EqR s Z c)(d:∀O a,Le Z O->SR Q P S (f a) O (f' a)) :SR Q P S (s>>=f) Z (c>>=f'):=SR.bind h λO a b l e=>by cases e;exact d O a l
def au{w:String}{a:Ps M}:SR Q P R (stuck w) Z a:=rfl
def aE{w:Unsupported}{a:Ps M}(h:odd (.unsupported w)=LH:=by rfl):SR Q P R (unsupported w) Z a:=by
 cases w<;>first | rfl | cases h
def bR{w:String}{f:Y->Ps W}{a:Ps X}:SR Q P S ((stuck w:Ps Y)>>=f) Z a:=rfl
def dg{w:Unsupported}{f:Y->Ps W}{a:Ps X}(h:odd (.unsupported w)=LH:=by rfl):SR Q P S ((unsupported w:Ps Y)>>=f) Z a:=by
 cases w<;>first | rfl | cases h
def Dn{w:String}{a:Ps M}:SR Q P R (throw w) Z a:=rfl
def cv{f:LV->Ps Y}{a:LV->Ps M}(h:SR Q P R (f Q) Z (a P)):SR Q P R (program>>=f) Z (program>>=a):=.inr ⟨_,rfl,h⟩
def vV{a:Y}{f:Y->Ps W}{b:Ps X}(h:SR Q P S (f a) Z b):SR Q P S (pure a>>=f) Z b:=h
def iR{q:NU}:SR Q P EqR (choose q) Z (choose q):=.inr ⟨_,rfl,λn=>⟨n,rfl,rfl⟩⟩
def Dq{f:Y->W}{s b:Ps Y}(h:SR Q P EqR s Z b):SR Q P EqR (Functor.map f s) Z (Functor.map f b):=SR.bndE (S:=EqR) (f:=λx=>pure (f x)) (f':=λx=>pure (f x)) h λO a _=>aj rfl
def uq{f:Y->Ps W}{c:Y->Ps W}(h:∀O a,SR Q P EqR (f a) O (c a)):∀(l:Lx Y) (Z:Ren),SR Q P EqR (l.mapM f) Z (l.mapM c):=by
 intro l;induction l with
 | nil=>intro Z;exact aj rfl
 | cons a l d=>
  intro Z;rw[SA,SA];exact .bndE (h Z a) λO b _=>.bndE (d O) λV e _=>aj rfl
def Ga{f:Y->Ps W}{c:Y->Ps W}(h:∀O a,SR Q P EqR (f a) O (c a)){b:LM Y}:SR Q P EqR (b.mapM f) Z (b.mapM c):=by
 rw[PM,PM];exact Dq (uq h b.toList Z)
def zW{i j:Ly}{b:Ly}{a:LU Ly}(h:BR Z i j):SR Q P VR (load ⟨i,b,a⟩) Z (load ⟨j,b,a⟩):=.inr ⟨rfl,j,_,rfl,h,λv c d=>⟨c,rfl,d⟩⟩
def Do{i j:Ly}{b:Ly}{a:LU Ly}{v c:LA}(h:BR Z i j)(d:VR Z v c):SR Q P (λ_ _ _=>Ro) (store ⟨i,b,a⟩ v) Z (store ⟨j,b,a⟩ c):=.inr ⟨rfl,j,c,_,rfl,h,d,(),rfl,trivial⟩
def qn{o a:SQ}(h:ObR Z o a):SR Q P BR (WQ o) Z (WQ a):=.inr ⟨a,_,rfl,h,λj _=>⟨j,rfl,BR.new Z j⟩⟩
def kz{i j:Ly}(h:BR Z i j):SR Q P (λ_=>ShR Q i) (shape i) Z (shape j):=.inr ⟨j,_,rfl,h,λx a b=>⟨a,rfl,b⟩⟩
def dW{i j:Ly}(h:BR Z i j):SR Q P ObR (getObj i) Z (getObj j):=.inr ⟨j,_,rfl,h,λo a b=>⟨a,rfl,b⟩⟩
def dV{i j:Ly}{o a:SQ}(h:BR Z i j)(b:ObR Z o a):SR Q P (λ_ _ _=>Ro) (setObj i o) Z (setObj j a):=.inr ⟨j,a,_,rfl,h,b,(),rfl,trivial⟩
def eB{v a:LA}(h:VR Z v a):SR Q P R (XC v) Z (XC a):=⟨a,rfl,h⟩
def aN{c:Prop}[Decidable c]{a b:Ps Y}{e d:Ps M}(g:c->SR Q P R a Z e)(f:¬ c->SR Q P R b Z d):SR Q P R (if c then a else b) Z (if c then e else d):=by
 by_cases h:c
 ·rw[if_pos h,if_pos h];exact g h
 ·rw[if_neg h,if_neg h];exact f h
end
section
variable[JunkSet]{Q P:LV}(hT:P.toTables=Q.toTables){Z:Ren}{Y M:Type}{R:Rel Y M}
include hT
theorem pW(t:LZ):P.info? t=Q.info? t:=by rw[hT]
theorem gy(t:LZ):P.underlying t=Q.underlying t:=by unfold Program.underlying;rw[hT]
theorem bQ(t:LZ):SR Q P EqR (PT t) Z (PT t):=by
 refine cv ?_;rw[pW hT];cases Q.info? t with
 | some i=>exact aj rfl
 | none=>exact au
theorem aM(t:LZ):SR Q P EqR (Pp t) Z (Pp t):=by
 refine cv ?_;rw[gy hT];cases Q.underlying t with
 | some i=>exact aj rfl
 | none=>exact au
theorem bj(t:LZ):SR Q P EqR (SY t) Z (SY t):=.bndE (bQ hT t) λO i _=>aj rfl
theorem vY(t:LZ):SR Q P EqR (isAgg t) Z (isAgg t):=.bndE (aM hT t) λO i _=>by
 cases i<;>exact aj rfl
def ij(P:LV)(t:LZ):MC :=
 match (P.info? t).bind (·.zero) with
 | some v=>Fo v
 | none=>LG
omit hT in
theorem vT{i:Qg}(h:∀v,i.zero=Lq v->iG v):SR Q P VR (match i.zero with
  | some v=>pure v
  | none=>unsupported (.resourceLimit "a value of more than 2^22 cells")) Z (match i.zero with
  | some v=>pure v
  | none=>unsupported (.resourceLimit "a value of more than 2^22 cells")):=by
 cases hz:i.zero with
 | some v=>exact aj ((h v hz).vr _)
 | none=>exact aE
theorem jm(t:LZ):SR Q P (λ_ a b=>b=a/\Q.info? t=Lq a) (PT t) Z (PT t):=by
 refine cv ?_;rw[pW hT];cases Q.info? t with
 | some i=>exact aj ⟨rfl,rfl⟩
 | none=>exact au
theorem bN{t:LZ}(h:ij Q t=LG):SR Q P VR (QL t) Z (QL t):=by
 refine .bnd (jm hT t) λO i c l a=>?_;obtain⟨rfl,a⟩:=a;refine vT λv b=>?_;unfold ij at h;rw[a] at h;simp only[RK,b] at h;exact vk h
omit hT in
theorem VR.cells{v f:LA}(h:VR Z v f):AsR Z v.cells f.cells:=by
 cases h with
 | agg j i=>exact⟨j,i⟩
 | bool b=>exact .one (.bool b)
 | int k n=>exact .one (.int k n)
 | string s=>exact .one (.string s)
 | ptrNil=>exact .one .ptrNil
 | ptr o s h=>exact .one (.ptr o s h)
 | sliceNil a b=>exact .one (.sliceNil a b)
 | slice o s a b h=>exact .one (.slice o s a b h)
 | mapNil=>exact .one .mapNil
 | map h=>exact .one (.map h)
 | func a b c d e=>exact .one (.func a b c d e)
 | nilFunc=>exact .one .nilFunc
 | iface t h=>exact .one (.iface t h)
 | nilIface=>exact .one .nilIface
 | tuple j i=>exact .one (.tuple j i)
 | meth n a c=>exact .one (.meth n a c)
 | wild _ h=>
  have e:f.cells=#[f]:=by cases f<;>first | rfl | (cases h;done)
  rw[e];exact .one (.wild _ h)
omit hT in
theorem AsR.agg{a b:LM LA}(h:AsR Z a b):VR Z (.agg a) (.agg b):=.agg h.1 h.2
omit hT in
theorem AsR.tuple{a b:LM LA}(h:AsR Z a b):VR Z (.tuple a) (.tuple b):=.tuple h.1 h.2
omit hT in
theorem addr_add(i j b n:Ly)(a:LU Ly):∃o s,(⟨i,b,a⟩:MN).add n=⟨i,o,s⟩/\(⟨j,b,a⟩:MN).add n=⟨j,o,s⟩:=by
 unfold Addr.add;split
 ·exact⟨b,a,rfl,rfl⟩
 ·exact⟨b+n,Lw,rfl,rfl⟩
omit hT in
theorem nT{i j:Ly}{c:Ly}{a:LU Ly}(n:Ly):∀{Z:Ren} (k:Ly) (d b:LM LA),BR Z i j->AsR Z d b ->SR Q P AsR (Tg ⟨i,c,a⟩ k n d) Z (Tg ⟨j,c,a⟩ k n b):=by
 induction n with
 | zero=>intro Z k d b h e;exact aj e
 | succ n f=>
  intro Z k d b h e;have⟨o,s,q,p⟩:=addr_add i j c k a;show SR Q P AsR (load ((⟨i,c,a⟩:MN).add k)>>=λv=>Tg ⟨i,c,a⟩ (k+1) n (d.push v)) Z (load ((⟨j,c,a⟩:MN).add k)>>=λv=>Tg ⟨j,c,a⟩ (k+1) n (b.push v));rw[q,p];exact .bnd (zW h) λO v r l g=>f (k+1) _ _ (h.mono l) ((e.mono l).push g)
omit hT in
theorem mK{i j:Ly}{b:Ly}{a:LU Ly}(n:Ly)(h:BR Z i j):SR Q P AsR (loadCells ⟨i,b,a⟩ n) Z (loadCells ⟨j,b,a⟩ n):=nT n 0 _ _ h .nil
omit hT in
theorem dL{i j:Ly}{b:Ly}{a:LU Ly}{d c:Lx LA}(g:LsR (VR Z) d c):∀(k:Ly),BR Z i j ->SR Q P (λ_ _ _=>Ro) (SZ ⟨i,b,a⟩ d k) Z (SZ ⟨j,b,a⟩ c k):=by
 have n:∀(d c:Lx LA) (Z:Ren) (k:Ly),LsR (VR Z) d c->BR Z i j->SR Q P (λ_ _ _=>Ro) (SZ ⟨i,b,a⟩ d k) Z (SZ ⟨j,b,a⟩ c k):=by
  intro d;induction d with
  | nil=>intro c Z k h e;cases h;exact aj trivial
  | cons v l q=>
   intro c Z k h e;cases h with
   | @cons _ p _ f g r=>
    have⟨o,s,u,t⟩:=addr_add i j b k a;show SR Q P _ (store ((⟨i,b,a⟩:MN).add k) v>>=λ_=>SZ ⟨i,b,a⟩ l (k+1)) Z (store ((⟨j,b,a⟩:MN).add k) p>>=λ_=>SZ ⟨j,b,a⟩ f (k+1));rw[u,t];exact .bnd (Do e g) λO _ _ f _=>q _ O (k+1) (r.imp λ_ _ x=>x.mono f) (e.mono f)
 exact λk e=>n d c Z k g e
theorem qp{t:LZ}{i j:Ly}{d:Ly}{c:LU Ly}(h:BR Z i j):SR Q P VR (VL t ⟨i,d,c⟩) Z (VL t ⟨j,d,c⟩):=by
 refine .bndE (vY hT t) λO b l=>?_;cases b with
 | true=>exact .bndE (bj hT t) λV n g=>.bnd (mK n (h.mono (l.trans g))) λU a b _ e=>aj e.agg
 | false=>exact zW (h.mono l)
theorem vU{t:LZ}{i j:Ly}{b:Ly}{a:LU Ly}{v c:LA}(h:BR Z i j)(d:VR Z v c) :SR Q P (λ_ _ _=>Ro) (storeVar t ⟨i,b,a⟩ v) Z (storeVar t ⟨j,b,a⟩ c):=by
 refine .bndE (bj hT t) λO n l=>?_;dsimp only;rw[<- (d.mono l).cells.1];split
 ·exact bR
 ·refine vV ?_;exact dL (bH.1 (d.mono l).cells) 0 (h.mono l)
omit hT in
theorem iP{e:LZ}{c d:LM LA}(h:AsR Z c d):SR Q P (λO a b=>∃i j,a=⟨i,0,Lw⟩/\b=⟨j,0,Lw⟩/\BR O i j) (WT e c) Z (WT e d) :=
 .bnd (qn (.cells e h λo k g=>absurd g (by simp))) λO i j l f=>aj ⟨i,j,rfl,rfl,f⟩
omit hT in
theorem kU{e:LZ}{v c:LA}(h:VR Z v c):SR Q P (λO a b=>∃i j,a=⟨i,0,Lw⟩/\b=⟨j,0,Lw⟩/\BR O i j) (newVar e v) Z (newVar e c):=iP h.cells
theorem tb(t:LZ):SR Q P EqR (elemOf t) Z (elemOf t):=.bndE (aM hT t) λO d _=>by
 cases d with
 | pointer e=>exact aj rfl
 | _=>exact au
theorem dP{t:LZ}{c e:LM LA}(h:AsR Z c e)(a:Ly):SR Q P VR (part t c a) Z (part t e a):=by
 refine .bndE (vY hT t) λO b l=>?_;cases b with
 | true=>exact .bndE (bj hT t) λV n f=>aj (((h.mono (l.trans f)).extract _ _).agg)
 | false=>
  simp only[Mx,if_false];cases hc:c[a]? with
  | some v=>
   have⟨i,d,g⟩:=h.get hc;simp only[d];exact aj (g.mono l)
  | none=>exact au
theorem aG(p:Gl P Z)(e:RuntimeError):SR Q P R (Pz e) Z (Pz e):=by
 have d:P.rt=Q.rt:=by rw[hT]
 refine cv ?_;dsimp only;rw[d];have k:∀(O:Ren) (l:Le Z O) (t:LZ),VR O (Uj Q t) (Uj P t):=λO l t=>by
  unfold Uj;have:P.globals.size=Q.globals.size:=by rw[hT]
  rw[<- this];exact .ptr _ _ ((p _ (LC _)).mono l)
 cases e with
 | bounds x y s c=>exact eB (iG.vr _ (vk rfl) |> λh=>.iface _ h)
 | error m=>exact eB (.iface _ (.string _))
 | plain m=>exact eB (.iface _ (.string _))
 | nilDeref=>exact eB (.iface _ (.string _))
 | typeAssertion i c a m=>
  refine .bndE (tb hT _) λO q l=>.bnd (kU (AsR.agg ?_)) λV x y n b=>?_
  ·have f:∀o:LU LZ,VR O (match o with | some t=>Uj Q t | none=>.pointer Lw) (match o with | some t=>Uj P t | none=>.pointer Lw):=λo=>by
    cases o with
    | none=>exact .ptrNil
    | some t=>exact k O l t
   rw[bH];exact .cons (f i) (.cons (f c) (.cons (f (Lq a)) (.cons (.string _) .nil)))
  ·obtain⟨i,j,rfl,rfl,g⟩:=b;exact eB (.iface _ (.ptr _ _ g))
 | panicNil=>
  refine .bndE (tb hT _) λO q l=>.bnd (kU (AsR.agg .nil)) λV x y n b=>?_;obtain⟨i,j,rfl,rfl,g⟩:=b;exact eB (.iface _ (.ptr _ _ g))
 | unhashable t=>exact eB (.iface _ (AsR.agg (.one (k Z (.refl Z) t))))
theorem dv(a:Gl P Z)(k:Tf)(x y:LJ)(c:Vy):SR Q P R (Qj k x y c) Z (Qj k x y c):=by
 unfold Qj;dsimp only;refine aN (λ_=>?_) λ_=>?_
 ·exact .bndE (Dq iR) λO n l=>aG hT (a.mono l) _
 ·exact(aG hT a (.bounds (IntKind.i64.wrap x) y (k != IntKind.u64) c):SR Q P R _ Z _)
omit hT in
theorem jr{v a:LA}(h:VR Z v a):SR Q P EqR (asIntOf v) Z (asIntOf a):=by
 cases h<;>first | exact aj rfl | exact au | exact aE
omit hT in
theorem mN{v b:LA}(h:VR Z v b):SR Q P EqR (asInt v) Z (asInt b):=.bndE (jr h) λO a _=>aj rfl
omit hT in
theorem AX{v a:LA}(h:VR Z v a):SR Q P EqR (asBool v) Z (asBool a):=by
 cases h<;>first | exact aj rfl | exact au
omit hT in
theorem Dw{v a:LA}(h:VR Z v a):SR Q P AsR (asAgg v) Z (asAgg a):=by
 cases h with
 | agg c b=>exact aj ⟨c,b⟩
 | _=>exact au
def AdR:Rel MN MN:=λZ a b=>∃i j o s,a=⟨i,o,s⟩/\b=⟨j,o,s⟩/\BR Z i j
theorem tc(b:Gl P Z){v a:LA}(h:VR Z v a):SR Q P AdR (Wj v) Z (Wj a):=by
 cases h with
 | ptr o s h=>exact aj ⟨_,_,o,s,rfl,rfl,h⟩
 | ptrNil=>
  show SR Q P AdR (Pz .nilDeref) Z (Pz .nilDeref);exact aG hT b _
 | _=>exact au
end
section
variable[JunkSet]{Q P:LV}(hT:P.toTables=Q.toTables){Z:Ren}
def fF{v a:LA}(h:VR Z v a):SR Q P AdR (WU v) Z (WU a):=by
 cases h with
 | ptr o s h=>exact aj ⟨_,_,o,s,rfl,rfl,h⟩
 | _=>exact au
include hT
theorem AW(t:LZ){v d:LA}(h:VR Z v d):SR Q P VR (XD t v) Z (XD t d) :=
 .bnd (fF h) λO a b l c=>by obtain⟨i,j,o,s,rfl,rfl,e⟩:=c;exact qp hT e
theorem yx(t:LZ){v e x d:LA}(h:VR Z v e)(f:VR Z x d):SR Q P (λ_ _ _=>Ro) (Xi t v x) Z (Xi t e d) :=
 .bnd (fF h) λO a b l c=>by obtain⟨i,j,o,s,rfl,rfl,g⟩:=c;exact vU hT g (f.mono l)
theorem Dy{t:LZ}(f:ij Q t=LG):SR Q P VR (XX t LG (.tuple #[])) Z (XX t LG (.tuple #[])):=by
 refine .bnd (bN hT f) λO z e l c=>?_;show SR Q P VR (newVar t z>>=λa=>pure (.pointer (Lq a))) O (newVar t e>>=λa=>pure (.pointer (Lq a)));exact .bnd (kU c) λV a b l d=>by obtain⟨i,j,rfl,rfl,g⟩:=d;exact aj (.ptr _ _ g)
omit hT in
theorem II(t:LZ){v d:LA}(h:VR Z v d):SR Q P VR (Instr.box t v) Z (Instr.box t d) :=
 .bnd (kU h) λV a b l c=>by obtain⟨i,j,rfl,rfl,e⟩:=c;exact aj (.ptr _ _ e)
def tX(Z:Ren)(a b:Ly × LA):Prop:=b.1=a.1/\VR Z a.2 b.2
omit hT in
theorem xy(b:Ly->LU (Ly × Ly)):∀(l n:Lx (Ly × LA)) (c j:LM LA),LsR (tX Z) l n->AsR Z c j ->(Rw b c l=Lw/\Rw b j n=Lw)\/∃r F,Rw b c l=Lq r/\Rw b j n=Lq F/\AsR Z r F:=by
 intro l;induction l with
 | nil=>intro n c j h s;cases h;exact .inr ⟨c,j,rfl,rfl,s⟩
 | cons x l L=>
  intro n c j h s;cases h with
  | @cons _ y _ n z O=>
   obtain⟨i,v⟩:=x;obtain⟨N,u⟩:=y;obtain⟨rfl,G⟩:=z;simp only[Rw];cases hp:b N with
   | none=>exact .inl ⟨rfl,rfl⟩
   | some I=>
    obtain⟨f,q⟩:=I;dsimp only;have U:u.cells.size=v.cells.size:=G.cells.1.symm;rw[U,<- s.1];by_cases e:(decide (v.cells.size≠q) || decide (f+v.cells.size > c.size))=LG
    ·rw[if_pos e,if_pos e];exact .inl ⟨rfl,rfl⟩
    ·rw[if_neg e,if_neg e];refine L n _ _ O ?_;have D:∀(p g:Lx LA) (k:Ly) (d t:LM LA),LsR (VR Z) p g->AsR Z d t ->
       AsR Z ((p.zipIdx k).foldl (λo (x:LA × Ly)=>o.setIfInBounds (f+x.2) x.1) d) ((g.zipIdx k).foldl (λo (x:LA × Ly)=>o.setIfInBounds (f+x.2) x.1) t):=by
      intro p;induction p with
      | nil=>intro g k d t B C;cases B;exact C
      | cons a p w=>
       intro g k d t B C;cases B with
       | cons T A=>exact w _ (k+1) _ _ A (C.set _ T)
     have:=D v.cells.toList u.cells.toList 0 c j (bH.1 G.cells) s;have H:∀(a d:LM LA),a.zipIdx.foldl (λo (x:LA × Ly)=>o.setIfInBounds (f+x.2) x.1) d=(a.toList.zipIdx 0).foldl (λo (x:LA × Ly)=>o.setIfInBounds (f+x.2) x.1) d:=λa d=>by
      rw[<- Sj,Array.toList_zipIdx]
     exact(H v.cells c ▸ H u.cells j ▸ this :)
theorem Dv{t:LZ}(v:ij Q t=LG){g a:LM (Ly × LA)}(h:LsR (tX Z) g.toList a.toList):SR Q P VR (XY t g) Z (XY t a):=by
 refine .bnd (bN hT v) λO z q l k=>.bndE (aM hT t) λV d u=>?_;have y:LsR (tX V) g.toList a.toList:=h.imp λ_ _ x=>⟨x.1,x.2.mono (l.trans u)⟩;have A:AsR V z.cells q.cells:=k.cells.mono u;have fin:∀(j:Ly->LU (Ly × Ly)) (U:Ren) (b:String),Le V U->SR Q P VR
   (match Rw j z.cells g.toList with | some cells=>pure (.agg cells) | _=>stuck b) U (match Rw j q.cells a.toList with | some cells=>pure (.agg cells) | _=>stuck b):=λj U b c=>by
  rcases xy (Z:=U) j _ _ _ _ (y.imp λ_ _ x=>⟨x.1,x.2.mono c⟩) (A.mono c) with⟨p,o⟩ | ⟨r,B,p,o,w⟩
  ·rw[p,o];exact au
  ·rw[p,o];exact aj w.agg
 cases d with
 | struct C=>
  refine .bndE (Ga λO f=>?_) λU i c=>fin _ U _ c;exact .bndE (bj hT _) λ_ n _=>aj rfl
 | array n e=>exact .bndE (bj hT _) λU s c=>fin _ U _ c
 | _=>exact au
end
end
section
def PVR[JunkSet]:Rel LA LA:=λZ a b=>VR Z a b/\a≠.tuple #[]/\∀r,a≠.chan r
section
variable[JunkSet]{Q P:LV}(hT:P.toTables=Q.toTables)
include hT
theorem fw(t:LZ):P.cellsOf t=Q.cellsOf t:=by unfold Program.cellsOf;rw[hT]
theorem gT(t:LZ):P.bytesOf t=Q.bytesOf t:=by unfold Program.bytesOf;rw[hT]
theorem kQ:P.depth=Q.depth:=by unfold Program.depth;rw[hT]
theorem mw:P.globals=Q.globals:=by rw[hT]
theorem iE:∀d t a,Uk P d t a=Uk Q d t a:=by
 intro d;induction d with
 | zero=>intro t a;rfl
 | succ d b=>intro t a;simp only[Uk,gy hT,fw hT,gT hT,b]
theorem sE:∀d t a,WV P d t a=WV Q d t a:=by
 intro d;induction d with
 | zero=>intro t a;rfl
 | succ d b=>intro t a;simp only[WV,gy hT,fw hT,gT hT,b]
theorem rJ(d:Ly)(e:LZ)(c o:Ly)(b:LJ):Sq P d e c o b=Sq Q d e c o b:=by
 simp only[Sq,fw hT,gT hT,iE hT,sE hT]
theorem Fw:∀d t u,P.alikeButTags d t u=Q.alikeButTags d t u:=by
 intro d;induction d with
 | zero=>intro t u;rfl
 | succ d a=>intro t u;simp only[Program.alikeButTags,pW hT,a]
theorem yk(t:LZ):P.underlyingId t=Q.underlyingId t:=by unfold Program.underlyingId;rw[hT]
theorem Dh(t:LZ):P.stoodInHeld t=Q.stoodInHeld t:=by
 unfold Program.stoodInHeld Program.stoodInAs;simp only[gy hT,Fw hT,yk hT,pW hT,kQ hT];rw[show P.cutTypes=Q.cutTypes by rw[hT]]
theorem uM:∀d t,P.eqGuardType d t=Q.eqGuardType d t:=by
 intro d;induction d with
 | zero=>intro t;rfl
 | succ d a=>intro t;simp only[Program.eqGuardType,gy hT,a]
omit hT in
theorem Ee:Q.info? (fO Q)=Lw:=by
 unfold fO Tables.info?;rw[if_neg (Rh _)];have e:∀(f:Ly) (t:LZ),Made.infoAt Q.toTables (f+1) t=if t<Q.types.size then Q.types[t]? else(Made.decode (t - Q.types.size)).bind (Made.reckon (Made.infoAt Q.toTables f)):=λ_ _=>rfl;show Made.infoAt Q.toTables (99+1) Q.types.size=Lw;rw[e,if_neg (Rh _),Nat.sub_self];rfl
omit hT in
theorem zF:Q.cellsOf (fO Q)=0:=by unfold Program.cellsOf;rw[Ee];rfl
variable{Z:Ren}{Y M:Type}{R:Rel Y M}
omit hT in
theorem sU{i j:Ly}(h:BR Z i j):SR Q P (λ_ a b=>a=Lw/\b=Lw) (viewAt i) Z (viewAt j):=by
 refine .bnd (kz h) λO x c l d=>?_;have e:c.isSome=x.isSome:=by
  rcases d with⟨_,rfl⟩ | ⟨_,_,rfl,e,n,rfl⟩<;>rfl
 rw[e];cases x.isSome with
 | true=>exact aj ⟨rfl,rfl⟩
 | false=>
  refine .bnd (dW (h.mono l)) λV o g k f=>?_;cases f<;>exact aj ⟨rfl,rfl⟩
omit hT in
theorem vX{i j:Ly}(h:BR Z i j):SR Q P (λO a b=>(a=Lw/\b=Lw)\/∃i j o s x,a=Lq (⟨i,o,s⟩,x)/\b=Lq (⟨j,o,s⟩,x)/\BR O i j) (numberAt i) Z (numberAt j):=by
 refine .bnd (kz h) λO x c l d=>?_;have e:c.isSome=x.isSome:=by
  rcases d with⟨_,rfl⟩ | ⟨_,_,rfl,e,n,rfl⟩<;>rfl
 rw[e];cases x.isSome with
 | true=>exact aj (.inl ⟨rfl,rfl⟩)
 | false=>
  refine .bnd (dW (h.mono l)) λV o g k f=>?_;cases f with
  | number o s x h=>exact aj (.inr ⟨_,_,o,s,x,rfl,rfl,h⟩)
  | _=>exact aj (.inl ⟨rfl,rfl⟩)
omit hT in
theorem sW{i j:Ly}{o e:Ly}{s d:LU Ly}(h:BR Z i j):SR Q P (λ_ _ _=>Ro) (noView ⟨i,o,s⟩) Z (noView ⟨j,e,d⟩) :=
 .bnd (sU h) λO a b l c=>by obtain⟨rfl,rfl⟩:=c;exact aj trivial
omit hT in
theorem dX{i j:Ly}{o:Ly}{s:LU Ly}(h:BR Z i j):SR Q P (λO a b=>∃i j o s x,a=(⟨i,o,s⟩,x)/\b=(⟨j,o,s⟩,x)/\BR O i j) (Oz ⟨i,o,s⟩) Z (Oz ⟨j,o,s⟩) :=
 .bnd (vX h) λO a b l c=>by
  rcases c with⟨rfl,rfl⟩ | ⟨k,g,f,e,x,rfl,rfl,d⟩
  ·exact aj ⟨_,_,_,_,_,rfl,rfl,h.mono l⟩
  ·exact aj ⟨_,_,_,_,_,rfl,rfl,d⟩
theorem kV{i j:Ly}{o:Ly}{s:LU Ly}(h:BR Z i j)(k:i<Q.globals.size):SR Q P EqR (Ul ⟨i,o,s⟩) Z (Ul ⟨j,o,s⟩):=by
 unfold Ul;cases s with
 | some s=>exact aj rfl
 | none=>
  dsimp only;refine cv ?_;refine .bnd (sW h) λO _ _ l _=>.bnd (kz (h.mono l)) λV x a g c=>?_;have e:a=x:=by
   rcases c with⟨_,h⟩ | ⟨_,d,_⟩
   ·exact h
   ·omega
  subst e;cases a with
  | none=>exact au
  | some f=>
   obtain⟨e,n⟩:=f;dsimp only;rw[fw hT];refine aN (λ_=>aj rfl) λ_=>?_;rw[kQ hT,iE hT,gT hT];cases Uk Q Q.depth e (o % Q.cellsOf e) with
   | none=>exact au
   | some b=>exact aj rfl
theorem mJ{i j c e:Ly}{o k:Ly}{s g:LU Ly}(h:BR Z i j)(n:BR Z c e)(p:Gl P Z) :SR Q P EqR (Op.twoPlaces ⟨i,o,s⟩ ⟨c,k,g⟩) Z (Op.twoPlaces ⟨j,o,s⟩ ⟨e,k,g⟩):=by
 unfold Op.twoPlaces;refine cv ?_;dsimp only;by_cases f:i<Q.globals.size
 ·have t:P.globals.size=Q.globals.size:=by rw[mw hT]
  have r:j=i:=(p i (by omega)).fn h |>.symm;by_cases d:c=i
  ·subst d;have q:e=j:=n.fn h;subst q;subst r;simp only[bne_self_eq_false,Bool.false_or,mw hT];rw[if_neg (by simpa using f)];exact .bndE (kV hT h f) λO a l=>.bndE (kV hT (n.mono l) f) λV b _=>aj rfl
  ·have:(i != c || decide (i>=Q.globals.size))=LG:=by
    simp[Ne.symm d]
   rw[if_pos this];exact dg
 ·have:(i != c || decide (i>=Q.globals.size))=LG:=by
   have:i>=Q.globals.size:=by omega
   simp[this]
  rw[if_pos this];exact dg
theorem yI{i j e d:Ly}{o c:Ly}{s b:LU Ly}(k:Tf)(h:BR Z i j)(g:BR Z e d)(f:Gl P Z) :SR Q P VR (Op.addrSub k ⟨i,o,s⟩ ⟨e,c,b⟩) Z (Op.addrSub k ⟨j,o,s⟩ ⟨d,c,b⟩) :=
 .bndE (mJ hT h g f) λO a l=>aj (.int _ _)
theorem yK{i j f e:Ly}{o d:Ly}{s c:LU Ly}(b:UL)(h:BR Z i j)(k:BR Z f e)(g:Gl P Z) :SR Q P VR (Op.addrCmp b ⟨i,o,s⟩ ⟨f,d,c⟩) Z (Op.addrCmp b ⟨j,o,s⟩ ⟨e,d,c⟩) :=
 .bndE (mJ hT h k g) λO a l=>by
  obtain⟨x,y⟩:=a;cases b<;>first | exact aj (.bool _) | exact aE
omit hT in
theorem jo{i j:Ly}(h:BR Z i j)(b:¬ JunkSet.jk i):SR Q P EqR (shape i) Z (shape j) :=
 (kz h).imp λO x c _ a=>by
  rcases a with⟨_,e⟩ | ⟨h,_⟩
  ·exact e
  ·exact absurd h b
omit hT in
theorem lC{i j:Ly}(h:BR Z i j)(c:JunkSet.jk i):SR Q P (λ_ x a=>x=Lq (fO Q,0)/\∃e n,a=Lq (e,n)) (shape i) Z (shape j) :=
 (kz h).imp λO x a _ b=>by
  rcases b with⟨h,_⟩ | ⟨_,_,h⟩
  ·exact absurd c h
  ·exact h
omit hT in
theorem yA{f:Qg->Ps Y}{a:Ps M}:SR Q P R (PT (fO Q)>>=f) Z a:=by
 refine .bad ?_;refine Bad.bind (f:=f) ?_;show Bad Q (match Q.info? (fO Q) with
  | some i=>(pure i:Ps Qg)
  | none=>stuck "no such type")
 rw[Ee];trivial
theorem yG{i j:Ly}{o:Ly}{s:LU Ly}(h:BR Z i j)(a:¬ JunkSet.jk i):SR Q P EqR (Ul ⟨i,o,s⟩) Z (Ul ⟨j,o,s⟩):=by
 unfold Ul;cases s with
 | some s=>exact aj rfl
 | none=>
  dsimp only;refine cv ?_;refine .bnd (sW h) λO _ _ l _=>.bndE (jo (h.mono l) a) λV x d=>?_;cases x with
  | none=>exact au
  | some c=>
   obtain⟨e,n⟩:=c;dsimp only;rw[fw hT];refine aN (λ_=>aj rfl) λ_=>?_;rw[kQ hT,iE hT,gT hT];cases Uk Q Q.depth e (o % Q.cellsOf e) with
   | none=>exact au
   | some b=>exact aj rfl
theorem yJ{i j:Ly}{o:Ly}{s:LU Ly}(k:Tf)(n:LJ)(h:BR Z i j):SR Q P VR (Op.addrMod k ⟨i,o,s⟩ n) Z (Op.addrMod k ⟨j,o,s⟩ n):=by
 by_cases a:JunkSet.jk i
 ·refine .bnd (lC h a) λO x g l d=>?_;obtain⟨rfl,e,m,rfl⟩:=d;exact yA
 ·refine .bndE (jo h a) λO x l=>?_;cases x with
  | none=>exact aE
  | some f=>
   obtain⟨e,m⟩:=f;refine .bndE (bQ hT e) λV p c=>?_;dsimp only;refine aN (λ_=>dg) λ_=>?_;exact .bndE (yG hT (h.mono (l.trans c)) a) λU b _=>aj (.int _ _)
theorem lB{t z:LZ}{y c:LM LZ}{v w x g:LA}(h:VR Z v w)(C:VR Z x g) :SR Q P PVR (NZ y t #[v,x]) Z (NZ c z #[w,g]):=by
 have f:∀(p q:LU MN),VR Z (.pointer p) (.pointer q)->SR Q P PVR (NZ y t #[.pointer p,x]) Z (NZ c z #[.pointer q,g]):=by
  intro p q A;unfold NZ;dsimp only;refine .bndE (mN C) λO n l=>?_;refine aN (λ_=>?_) λ_=>?_
  ·cases A with
   | ptrNil=>exact aE
   | ptr o s h=>
    dsimp only;refine .bnd (sU (h.mono l)) λV a b k u=>?_;obtain⟨rfl,rfl⟩:=u;exact aj ⟨.ptr _ _ (h.mono (l.trans k)),by simp⟩
  ·refine aN (λ_=>dg) λ_=>?_;cases A with
   | ptrNil=>exact aE
   | @ptr i j o s h=>
    dsimp only;by_cases B:JunkSet.jk i
    ·refine .bnd (lC (h.mono l) B) λV x g k r=>?_;obtain⟨rfl,e,m,rfl⟩:=r;refine .bad ?_;show Bad Q (match Sq Q Q.depth (fO Q) (0 / Q.cellsOf (fO Q)) o n with
      | some d=>(pure (.pointer (Lq ⟨i,d,s⟩)):Ps LA)
      | none=>unsupported (.unsafePointer "Add"))
     have:Sq Q Q.depth (fO Q) (0 / Q.cellsOf (fO Q)) o n=Lw:=by
      unfold Sq;simp[zF]
     rw[this];trivial
    ·refine .bndE (jo (h.mono l) B) λV x k=>?_;cases x with
     | none=>exact aE
     | some D=>
      obtain⟨e,m⟩:=D;dsimp only;refine cv ?_;rw[rJ hT,kQ hT,fw hT];cases Sq Q Q.depth e (m / Q.cellsOf e) o n with
      | none=>exact aE
      | some d=>exact aj ⟨.ptr _ _ (h.mono (l.trans k)),by simp⟩
 cases h with
 | ptrNil=>exact f _ _ .ptrNil
 | ptr o s h=>exact f _ _ (.ptr o s h)
 | _=>exact au
theorem uo{t e:LZ}{d a:LM LZ}{v c x b:LA}(h:VR Z v c)(f:VR Z x b) :SR Q P VR (NZ d t #[v,x]) Z (NZ a e #[c,b]):=(lB hT h f).imp λ_ _ _ _ h=>h.1
theorem du{t:LZ}{v g x f:LA}(h:VR Z v g)(G:VR Z x f):SR Q P VR (TS t v x) Z (TS t g f):=by
 have p:∀O,Le Z O->SR Q P VR (do
   let .pointer (Lq n):=v | NZ #[] t #[v,x]
   let (a,c) <- Oz n
   match <- NZ #[] t #[.pointer (Lq a),x] with
    | .pointer (Lq b)=>asNumber b c
    | v=>pure v) O (do
   let .pointer (Lq n):=g | NZ #[] t #[g,f]
   let (a,c) <- Oz n
   match <- NZ #[] t #[.pointer (Lq a),f] with
    | .pointer (Lq b)=>asNumber b c
    | v=>pure v):=by
  intro O l;have q:=G.mono l;have e:SR Q P VR (NZ #[] t #[v,x]) O (NZ #[] t #[g,f]):=uo hT (h.mono l) q;cases h with
  | ptr o s h=>
   dsimp only;refine .bnd (dX (h.mono l)) λV a b F z=>?_;obtain⟨S,N,B,A,c,rfl,rfl,H⟩:=z;dsimp only;refine .bnd (lB hT (.ptr B A H) (q.mono F)) λU y D L r=>?_;obtain⟨C,u⟩:=r;have k:SR Q P VR (pure y) U (pure D):=aj C;cases C with
   | ptr B A I=>exact .bnd (qn (.number _ _ _ I)) λX i j _ w=>aj (.ptr _ _ w)
   | wild _ _=>exact absurd rfl (u.2 _)
   | _=>exact k
  | _=>exact e
 unfold TS;refine .bndE (aM hT t) λO d l=>?_;cases d<;>first | exact p O l | exact aE
def uE(Q:LV)(t:LZ):MC :=
 match Q.underlying t with
 | some .unsafePointer=>LH
 | _=>LG
theorem bf(t:LZ):SR Q P (λ_ a b=>b=a/\Q.underlying t=Lq a) (Pp t) Z (Pp t):=by
 refine cv ?_;rw[gy hT];cases Q.underlying t with
 | some i=>exact aj ⟨rfl,rfl⟩
 | none=>exact au
def sk:UL->MC
 | .eql | .neq=>LG
 | _=>LH
theorem Dx{c:UL}(f:sk c=LH){t:LZ}(X:uE Q t=LG){v v' x x':LA}(h:VR Z v v')(N:VR Z x x')(W:Gl P Z) :SR Q P VR (binOp c t v x) Z (binOp c t v' x'):=by
 have L:∀(k:Tf) (a:LJ) (D:Tf) (b:LJ),SR Q P VR (binOp c t (.int k a) (.int D b)) Z (binOp c t (.int k a) (.int D b)):=by
  intro k a D b;have T:∀c,SR Q P VR (Op.intDiv c k a b) Z (Op.intDiv c k a b):=λc=>by
   unfold Op.intDiv;refine aN (λ_=>aG hT W _) λ_=>?_;cases c<;>first | exact aj (.int _ _) | exact au
  have q:∀c,SR Q P VR (Op.shift c k a D b) Z (Op.shift c k a D b):=λc=>by
   unfold Op.shift;refine aN (λ_=>aG hT W _) λ_=>?_;dsimp only;cases c<;>first | exact aj (.int _ _) | exact au
  cases c<;>first
   | exact q .shl
   | exact q .shr
   | (refine aN (λ_=>au) λ_=>?_;first | exact T .quo | exact T .rem | exact aj (.int _ _) | exact aj (.bool _))
   | exact absurd f (by decide)
 have r:c=.add->∀(p U:LU MN) (k:Tf) (b:LJ),VR Z (.pointer p) (.pointer U)->SR Q P VR (binOp .add t (.pointer p) (.int k b)) Z (binOp .add t (.pointer U) (.int k b)):=by
  intro _ p U k b hp;refine .bnd (bf hT t) λO d d' l hd=>?_;obtain⟨rfl,hd⟩:=hd;have:SR Q P VR (TS t (.pointer p) (.int k b)) O (TS t (.pointer U) (.int k b)):=du hT (hp.mono l) (.int k b);unfold uE at X;rw[hd] at X;cases d'<;>first | exact this | cases X
 have z:∀(y:UL) {i j G F o s B A},BR Z i j->BR Z G F->SR Q P VR (do Op.addrCmp y (<- Oz ⟨i,o,s⟩).1 (<- Oz ⟨G,B,A⟩).1) Z (do Op.addrCmp y (<- Oz ⟨j,o,s⟩).1 (<- Oz ⟨F,B,A⟩).1):=by
  intro y i j G F o s B A S h2;refine .bnd (dX S) λO a b l e=>?_;obtain⟨_,_,_,_,_,rfl,rfl,u⟩:=e;refine .bnd (dX (h2.mono l)) λV a b I e=>?_;obtain⟨_,_,_,_,_,rfl,rfl,H⟩:=e;exact yK hT y (u.mono I) H (W.mono (l.trans I))
 have sub:∀{i j G F o s B A},BR Z i j->BR Z G F->SR Q P VR (do Op.addrSub .u64 (<- Oz ⟨i,o,s⟩).1 (<- Oz ⟨G,B,A⟩).1) Z (do Op.addrSub .u64 (<- Oz ⟨j,o,s⟩).1 (<- Oz ⟨F,B,A⟩).1):=by
  intro i j G F o s B A S h2;refine .bnd (dX S) λO a b l e=>?_;obtain⟨_,_,_,_,_,rfl,rfl,u⟩:=e;refine .bnd (dX (h2.mono l)) λV a b I e=>?_;obtain⟨_,_,_,_,_,rfl,rfl,H⟩:=e;exact yI hT .u64 (u.mono I) H (W.mono (l.trans I))
 have C:∀{i j o s} (k:Tf) (n:LJ),BR Z i j->SR Q P VR (do Op.addrMod k (<- Oz ⟨i,o,s⟩).1 n) Z (do Op.addrMod k (<- Oz ⟨j,o,s⟩).1 n):=by
  intro i j o s k n S;refine .bnd (dX S) λO a b l e=>?_;obtain⟨_,_,_,_,_,rfl,rfl,u⟩:=e;exact yJ hT k n u
 cases h with
 | int k a=>
  cases N with
  | int D b=>exact L k a D b
  | ptr o s g=>cases c<;>first | exact du hT (.ptr o s g) (.int k a) | exact C k (a+1) g | exact aE | exact absurd f (by decide)
  | ptrNil=>cases c<;>first | exact du hT .ptrNil (.int k a) | exact aE | exact absurd f (by decide)
  | _=>cases c<;>first | exact au | exact absurd f (by decide)
 | string a=>
  cases N with
  | string b=>
   cases c<;>first
    | exact aj (.bool _)
    | exact au
    | (refine aN (λ_=>aE) λ_=>?_;exact aj (.string _))
    | exact absurd f (by decide)
  | ptr o s g=>cases c<;>first | exact aE | exact au | exact absurd f (by decide)
  | ptrNil=>cases c<;>first | exact aE | exact au | exact absurd f (by decide)
  | _=>cases c<;>first | exact au | exact absurd f (by decide)
 | ptr o s g=>
  cases N with
  | int k b=>cases c<;>first | exact r rfl _ _ k b (.ptr o s g) | exact du hT (.ptr o s g) (.int k (-b)) | exact C k b g | exact C k (b+1) g | exact aE | exact absurd f (by decide)
  | ptr B A w=>cases c<;>first | exact sub g w | exact z .lss g w | exact z .leq g w | exact z .gtr g w | exact z .geq g w | exact aE | exact absurd f (by decide)
  | ptrNil=>cases c<;>first | exact aE | exact absurd f (by decide)
  | _=>cases c<;>first | exact aE | exact au | exact absurd f (by decide)
 | ptrNil=>
  cases N with
  | int k b=>cases c<;>first | exact r rfl _ _ k b .ptrNil | exact du hT .ptrNil (.int k (-b)) | exact aE | exact absurd f (by decide)
  | _=>cases c<;>first | exact aE | exact au | exact absurd f (by decide)
 | _=>
  cases N with
  | ptr o s g=>cases c<;>first | exact aE | exact au | exact absurd f (by decide)
  | ptrNil=>cases c<;>first | exact aE | exact au | exact absurd f (by decide)
  | _=>cases c<;>first | exact au | exact absurd f (by decide)
end
end
section
def Ae(Q:LV)(t:LZ):MC :=
 match Q.info? t with
 | some i=>match i.desc with | .named n _=>n != "sync.copyChecker" | _=>LG
 | none=>LG
def eqB(Q:LV):Ly->LZ->MC
 | 0,_=>LH
 | n+1,t=>
  match Q.underlying t with
  | some .bool | some .string | some (.slice _) | some (.map ..) | some (.func ..)=>LG
  | some (.int _)=>Ae Q t
  | some (.struct a)=>a.all λf=>f.name == "_" || eqB Q n f.type
  | some (.array _ e)=>eqB Q n e
  | _=>LH
def cU{Q:LV}{v:LA}(e:v=.tuple #[]\/∃r,v=.chan r)(d:Ly){t:LZ}(f:∀a b,Q.underlying t≠Lq (.chan a b))(x:LA):Bad Q (Op.equalIn d t v x):=by
 cases d with
 | zero=>exact rfl
 | succ d=>
  unfold Op.equalIn;show Bad Q ((match Q.underlying t with | some i=>(pure i:Ps Tm) | none=>stuck "no such type").bind _);cases hu:Q.underlying t with
  | none=>exact rfl
  | some c=>
   rcases e with rfl | ⟨r,rfl⟩
   ·cases c<;>cases x<;>first | exact rfl | (rename_i p;cases p<;>exact rfl)
   ·cases c<;>first | exact absurd hu (f _ _) | (cases x<;>first | exact rfl | (rename_i p;cases p<;>exact rfl))
def cT{Q:LV}{v:LA}(e:v=.tuple #[]\/∃r,v=.chan r)(d:Ly){t:LZ}(f:∀a b,Q.underlying t≠Lq (.chan a b))(x:LA):Bad Q (Op.equalIn d t x v):=by
 cases d with
 | zero=>exact rfl
 | succ d=>
  unfold Op.equalIn;show Bad Q ((match Q.underlying t with | some i=>(pure i:Ps Tm) | none=>stuck "no such type").bind _);cases hu:Q.underlying t with
  | none=>exact rfl
  | some c=>
   rcases e with rfl | ⟨r,rfl⟩
   ·cases c<;>cases x<;>first | exact rfl | (rename_i p;cases p<;>exact rfl) | (rename_i p _;cases p<;>exact rfl) | (rename_i p _ _;cases p<;>exact rfl)
   ·cases c<;>first | exact absurd hu (f _ _) | (cases x<;>first | exact rfl | (rename_i p;cases p<;>exact rfl) | (rename_i p _;cases p<;>exact rfl) | (rename_i p _ _;cases p<;>exact rfl))
def eI{Q:LV}{n:Ly}{t:LZ}(h:eqB Q n t=LG):∀a b,Q.underlying t≠Lq (.chan a b):=by
 intro a b e;cases n with
 | zero=>cases h
 | succ n=>
  unfold eqB at h;rw[e] at h;cases h
section
variable[JunkSet]{Q P:LV}(hT:P.toTables=Q.toTables){Z:Ren}{Y M W:Type}{R:Rel Y M}
def cC{σT:Type}{K:Ren->Prop}(g:∀Z O,Le Z O->K Z->K O){f c:Y->σT->Ps (ForInStep σT)}(l:Lx Y)(h:∀a∈l,∀Z b,K Z->SR Q P EqR (f a b) Z (c a b)):∀(Z:Ren) (b:σT),K Z->SR Q P EqR (forIn l b f) Z (forIn l b c):=by
 induction l with
 | nil=>intro Z b _;exact aj rfl
 | cons a l d=>
  intro Z b k;rw[WI,WI];refine .bndE (h a (TG ..) Z b k) λO s lσ=>?_;cases s with
  | done b=>exact aj rfl
  | yield b=>exact d (λa e=>h a (Rx _ e)) O b (g _ _ lσ k)
include hT
theorem lX:∀(n d:Ly) {Z:Ren} {t:LZ} {x x' y y':LA},eqB Q n t=LG->VR Z x x'->VR Z y y'->Gl P Z ->SR Q P EqR (Op.equalIn d t x y) Z (Op.equalIn d t x' y'):=by
 intro n;induction n with
 | zero=>intro d Z t x x' y y' h;cases h
 | succ n ih=>
  intro d Z t x x' y y' h z g hG;cases d with
  | zero=>exact aE
  | succ d=>
   unfold Op.equalIn;refine .bnd (bf hT t) λO ty c3 l v=>?_;obtain⟨rfl,v⟩:=v;replace z:=z.mono l;replace g:=g.mono l;replace hG:=hG.mono l;unfold eqB at h;rw[v] at h;cases c3 with
   | bool=>cases z<;>first | exact au | (cases g<;>first | exact au | exact aj rfl)
   | string=>cases z<;>first | exact au | (cases g<;>first | exact au | exact aj rfl)
   | slice e=>cases z<;>first | exact au | (cases g<;>first | exact au | exact aj rfl)
   | map k e=>cases z<;>first | exact au | (cases g<;>first | exact au | exact aj rfl)
   | func a b c=>cases z<;>first | exact au | (cases g<;>first | exact au | exact aj rfl)
   | int k=>
    have c8:∀{i j i' j' o s o' s'},BR O i j->BR O i' j'->SR Q P EqR (do
      let (a,b):=((<- Oz ⟨i,o,s⟩).1,(<- Oz ⟨i',o',s'⟩).1)
      if a.block == b.block && a.block<(<- program).globals.size then return (<- Ul a) == (<- Ul b)
      let .named "sync.copyChecker" _:=(<- PT t).desc | unsupported .addressObserved
      if a == b then pure LG else unsupported .addressObserved) O (do
      let (a,b):=((<- Oz ⟨j,o,s⟩).1,(<- Oz ⟨j',o',s'⟩).1)
      if a.block == b.block && a.block<(<- program).globals.size then return (<- Ul a) == (<- Ul b)
      let .named "sync.copyChecker" _:=(<- PT t).desc | unsupported .addressObserved
      if a == b then pure LG else unsupported .addressObserved):=by
     intro i j i' j' o s o' s' h1 h2;refine .bnd (dX h1) λO a b l D=>?_;obtain⟨_,_,_,_,_,rfl,rfl,T⟩:=D;refine .bnd (dX (h2.mono l)) λV a b I D=>?_;obtain⟨_,_,_,_,_,rfl,rfl,C⟩:=D;dsimp only;refine cv ?_
     rename_i L j1 o1 s1 x1 i2 j2 o2 s2 x2
     have hP:P.globals.size=Q.globals.size:=by rw[mw hT]
     by_cases hc:(L == i2 && decide (L<Q.globals.size))=LG
     ·rw[if_pos hc];simp only[Mg,beq_iff_eq,decide_eq_true_eq] at hc;obtain⟨rfl,A⟩:=hc;have e:j2=j1:=C.fn (T.mono I);subst e;have e1:j2=L:=(((hG.mono l).mono I) L (by omega)).fn C |>.symm;rw[if_pos (by simp[e1,hP,A])];exact .bndE (kV hT (T.mono I) A) λU a w=>.bndE (kV hT (C.mono w) A) λX b _=>aj rfl
     ·rw[if_neg hc];refine .bad ?_;show Bad Q ((PT t).bind _);have B:∃F,Q.info? t=Lq F:=by
       unfold Program.underlying at v;cases S:Q.info? t with
       | none=>rw[S] at v;cases v
       | some F=>exact⟨F,rfl⟩
      obtain⟨F,N⟩:=B;unfold Ae at h;simp only[N] at h;show Bad Q ((match Q.info? t with
       | some i=>(pure i:Ps Qg)
       | none=>stuck "no such type").bind _)
      rw[N];show Bad Q (match F.desc with
       | .named "sync.copyChecker" _=>if((⟨L,o1,s1⟩:MN) == ⟨i2,o2,s2⟩)=LG then pure LG else unsupported .addressObserved
       | _=>unsupported .addressObserved)
      split
      ·rename_i u hd
       rw[hd] at h;simp at h
      ·trivial
    cases z with
    | int k1 a=>
     cases g with
     | int k2 b=>exact aN (λ_=>aj rfl) λ_=>au
     | ptr o s hb=>
      cases a with
      | ofNat m=>cases m with
       | zero=>exact aj rfl
       | succ m=>exact aE
      | negSucc m=>exact aE
     | ptrNil=>exact aE
     | _=>exact au
    | ptr o s hb=>
     cases g with
     | int k2 b=>
      cases b with
      | ofNat m=>cases m with
       | zero=>exact aj rfl
       | succ m=>exact aE
      | negSucc m=>exact aE
     | ptr o' s' d9=>exact c8 hb d9
     | ptrNil=>exact aE
     | _=>exact aE
    | ptrNil=>cases g<;>exact aE
    | _=>cases g<;>first | exact au | exact aE
   | struct fs=>
    cases z with
    | agg h1 h2=>
     cases g with
     | agg h3 h4=>
      dsimp only;refine cv ?_;rw[Dh hT];refine aN (λ_=>dg) λ_=>?_;rw[<- Qr,<- Qr];dsimp only at h;rw[NG] at h;refine .bndE (cC (K:=λX=>Le O X) (λ_ _ l k=>k.trans l) _ (λf hf U b w=>?_) O _ (.refl O)) λU r w=>?_
      ·refine aN (λd7=>?_) λ_=>aj rfl;have d8:eqB Q n f.type=LG:=by
        have:=h f (Oy.1 hf);simp only[OH,beq_iff_eq] at this;exact this.resolve_left d7
       exact .bnd (dP hT (AsR.mono w ⟨h1,h2⟩) _) λω1 p p' H hp=>.bnd (dP hT (AsR.mono (w.trans H) ⟨h3,h4⟩) _) λω2 q q' G S=>
        .bndE (ih d d8 (hp.mono G) S (hG.mono ((w.trans H).trans G))) λω3 r _=>aN (λ_=>aj rfl) λ_=>aj rfl
      ·obtain⟨r,u⟩:=r;cases r<;>exact aj rfl
     | _=>exact au
    | _=>exact au
   | array k0 e=>
    cases z with
    | agg h1 h2=>
     cases g with
     | agg h3 h4=>
      dsimp only;refine .bndE (bj hT e) λV n I=>?_;rw[NV,NV];refine .bndE (cC (K:=λX=>Le O X) (λ_ _ l k=>k.trans l) _ (λf hf U b w=>?_) V _ I) λU r w=>?_
      ·exact .bnd (dP hT (AsR.mono w ⟨h1,h2⟩) _) λω1 p p' H hp=>.bnd (dP hT (AsR.mono (w.trans H) ⟨h3,h4⟩) _) λω2 q q' G S=>
        .bndE (ih d h (hp.mono G) S (hG.mono ((w.trans H).trans G))) λω3 r _=>aN (λ_=>aj rfl) λ_=>aj rfl
      ·obtain⟨r,u⟩:=r;cases r<;>exact aj rfl
     | _=>exact au
    | _=>exact au
   | _=>cases h
theorem qw:∀(n d:Ly) {Z:Ren} {t:LZ} {x j y i:LA},eqB Q n t=LG->VR Z x j->VR Z y i ->SR Q P EqR (Op.eqGuardIn d t x y) Z (Op.eqGuardIn d t j i):=by
 intro n;induction n with
 | zero=>intro d Z t x j y i h;cases h
 | succ n L=>
  intro d Z t x j y i h s o;cases d with
  | zero=>exact aE
  | succ d=>
   unfold Op.eqGuardIn;refine .bnd (bf hT t) λO ty v l c=>?_;obtain⟨rfl,c⟩:=c;replace s:=s.mono l;replace o:=o.mono l;unfold eqB at h;rw[c] at h;cases v with
   | struct fs=>
    cases s with
    | agg I H=>
     cases o with
     | agg G F=>
      dsimp only;rw[<- Qr,<- Qr];dsimp only at h;rw[NG] at h;refine .bndE (cC (K:=λX=>Le O X) (λ_ _ l k=>k.trans l) _ (λf N U b a=>?_) O _ (.refl O)) λU r a=>?_
      ·refine aN (λC=>?_) λ_=>aj rfl;have D:eqB Q n f.type=LG:=by
        have:=h f (Oy.1 N);simp only[OH,beq_iff_eq] at this;exact this.resolve_left C
       exact .bnd (dP hT (AsR.mono a ⟨I,H⟩) _) λω1 p T z B=>.bnd (dP hT (AsR.mono (a.trans z) ⟨G,F⟩) _) λω2 q S w A=>
        .bndE (L d D (B.mono w) A) λω3 r _=>aN (λ_=>aj rfl) λ_=>aj rfl
      ·obtain⟨r,u⟩:=r;cases r<;>exact aj rfl
     | wild _ g=>cases i<;>first | exact aj rfl | cases g
     | _=>exact aj rfl
    | wild _ g=>cases j<;>first | exact aj rfl | cases g
    | _=>exact aj rfl
   | array a6 e=>
    cases s with
    | agg I H=>
     cases o with
     | agg G F=>
      dsimp only;refine .bndE (bj hT e) λV n l'=>?_;rw[NV,NV];refine .bndE (cC (K:=λX=>Le O X) (λ_ _ l k=>k.trans l) _ (λf N U b a=>?_) V _ l') λU r a=>?_
      ·exact .bnd (dP hT (AsR.mono a ⟨I,H⟩) _) λω1 p T z B=>.bnd (dP hT (AsR.mono (a.trans z) ⟨G,F⟩) _) λω2 q S w A=>
        .bndE (L d h (B.mono w) A) λω3 r _=>aN (λ_=>aj rfl) λ_=>aj rfl
      ·obtain⟨r,u⟩:=r;cases r<;>exact aj rfl
     | wild _ g=>cases i<;>first | exact aj rfl | cases g
     | _=>exact aj rfl
    | wild _ g=>cases j<;>first | exact aj rfl | cases g
    | _=>exact aj rfl
   | interface ms=>cases h
   | _=>cases s<;>first | exact aj rfl | (cases o<;>exact aj rfl)
def gL:MS->MC
 | .const .nilIface=>LG
 | _=>LH
def Cf(Q:LV)(t:LZ)(x y:MS):MC:=eqB Q 6 t || (gL x || gL y) && (match Q.underlying t with | some (.interface _)=>LG | _=>LH)
theorem IE{f:UL}(j:sk f=LG){t:LZ}(a:eqB Q 6 t=LG){v d x c:LA}(h:VR Z v d)(g:VR Z x c)(i:Gl P Z) :SR Q P VR (binOp f t v x) Z (binOp f t d c):=by
 have e:SR Q P VR (do pure (.bool (<- Op.equal t v x))) Z (do pure (.bool (<- Op.equal t d c))):=.bndE (lX hT 6 _ a h g i) λO b _=>aj (.bool _);have n:SR Q P VR (do pure (.bool (!(<- Op.equal t v x)))) Z (do pure (.bool (!(<- Op.equal t d c)))):=.bndE (lX hT 6 _ a h g i) λO b _=>aj (.bool _);cases f<;>first | exact absurd j (by decide) | skip
 ·cases h<;>first | exact e | exact .bad (Bad.bind (cU (.inl rfl) _ (eI a) _) _) | exact .bad (Bad.bind (cU (.inr ⟨_,rfl⟩) _ (eI a) _) _) | (cases g<;>first | exact e | exact .bad (Bad.bind (cT (.inl rfl) _ (eI a) _) _) | exact .bad (Bad.bind (cT (.inr ⟨_,rfl⟩) _ (eI a) _) _) | exact aj (.bool _) | exact aN (λ_=>au) λ_=>aj (.bool _))
 ·cases h<;>first | exact n | exact .bad (Bad.bind (cU (.inl rfl) _ (eI a) _) _) | exact .bad (Bad.bind (cU (.inr ⟨_,rfl⟩) _ (eI a) _) _) | (cases g<;>first | exact n | exact .bad (Bad.bind (cT (.inl rfl) _ (eI a) _) _) | exact .bad (Bad.bind (cT (.inr ⟨_,rfl⟩) _ (eI a) _) _) | exact aj (.bool _) | exact aN (λ_=>au) λ_=>aj (.bool _))
end
end
section
section
variable[JunkSet]{Q P:LV}(hT:P.toTables=Q.toTables){Z:Ren}{Y M W:Type}{R:Rel Y M}
include hT
theorem Dt{o:UL}(u:sk o=LG){t:LZ}(s:∃q,Q.underlying t=Lq (.interface q)){v i x g:LA}(h:VR Z v i)(f:VR Z x g)(p:v=.nilIface\/x=.nilIface) :SR Q P VR (binOp o t v x) Z (binOp o t i g):=by
 obtain⟨q,k⟩:=s;have c:∀a b,Q.underlying t≠Lq (.chan a b):=λa b e=>by rw[k] at e;cases e
 have j:SR Q P EqR (Op.equal t v x) Z (Op.equal t i g):=by
  refine .bnd (bf hT t) λO w r l d=>?_;obtain⟨rfl,d⟩:=d;rw[k] at d;cases d;rcases p with rfl | rfl
  ·cases h;cases f<;>first | exact aj rfl | exact au
  ·cases f;cases h<;>first | exact aj rfl | exact au
 have e:SR Q P VR (do pure (.bool (<- Op.equal t v x))) Z (do pure (.bool (<- Op.equal t i g))):=.bndE j λO b _=>aj (.bool _);have n:SR Q P VR (do pure (.bool (!(<- Op.equal t v x)))) Z (do pure (.bool (!(<- Op.equal t i g)))):=.bndE j λO b _=>aj (.bool _);cases o<;>first | exact absurd u (by decide) | skip
 ·rcases p with rfl | rfl
  ·cases h;cases f<;>first | exact e | exact .bad (Bad.bind (cT (.inl rfl) _ c _) _) | exact .bad (Bad.bind (cT (.inr ⟨_,rfl⟩) _ c _) _)
  ·cases f;cases h<;>first | exact e | exact .bad (Bad.bind (cU (.inl rfl) _ c _) _) | exact .bad (Bad.bind (cU (.inr ⟨_,rfl⟩) _ c _) _)
 ·rcases p with rfl | rfl
  ·cases h;cases f<;>first | exact n | exact .bad (Bad.bind (cT (.inl rfl) _ c _) _) | exact .bad (Bad.bind (cT (.inr ⟨_,rfl⟩) _ c _) _)
  ·cases f;cases h<;>first | exact n | exact .bad (Bad.bind (cU (.inl rfl) _ c _) _) | exact .bad (Bad.bind (cU (.inr ⟨_,rfl⟩) _ c _) _)
theorem qy{d:UL}{t:LZ}{x y:MS}(c:sk d=LG->Cf Q t x y=LG){v f u g:LA}(h:VR Z v f)(l:VR Z u g)(o:gL x=LG->v=.nilIface)(n:gL y=LG->u=.nilIface)(k:sk d=LG->∀w,(w=v\/w=u)->w≠.chan Lw) :SR Q P (λ_ _ _=>Ro) (eqGuard d t x y v u) Z (eqGuard d t x y f g):=by
 have core:sk d=LG->SR Q P (λ_ _ _=>Ro) (eqGuard .eql t x y v u) Z (eqGuard .eql t x y f g):=by
  intro j;have c:=c j;have i:=k j v (.inl rfl);have e:=k j u (.inr rfl);unfold Cf at c;simp only[OH,Mg] at c;cases h with
  | wild _ _=>exact absurd rfl i
  | nilIface=>
   cases l with
   | nilIface=>
    refine aN (λh=>absurd h (by decide)) λ_=>?_;refine aN (λ_=>aj trivial) λp=>?_;rcases c with c | ⟨a,_⟩
    ·refine .bndE (qw hT 6 _ c .nilIface .nilIface) λO b _=>?_;exact aN (λ_=>aE) λ_=>aj trivial
    ·exfalso;apply p;rcases a with a | a
     ·cases x<;>first | rfl | (exact absurd a (by simp[gL]))
     ·cases y<;>first | exact absurd a Bool.false_ne_true | (simp;done)
   | wild _ _=>exact absurd rfl e
   | _=>exact aj trivial
  | agg z s=>
   cases l with
   | agg r q=>
    refine aN (λh=>absurd h (by decide)) λ_=>?_;refine cv (cv ?_);rw[uM hT,kQ hT];refine aN (λ_=>aj trivial) λ_=>?_;rcases c with c | ⟨a,_⟩
    ·refine .bndE (qw hT 6 _ c (.agg z s) (.agg r q)) λO b _=>?_;exact aN (λ_=>aE) λ_=>aj trivial
    ·rcases a with a | a
     ·have:=o a;cases this
     ·have:=n a;cases this
   | wild _ _=>exact absurd rfl e
   | _=>exact aj trivial
  | _=>exact aj trivial
 cases d<;>first | exact core rfl | exact aj trivial
theorem Hr{c:UL}(e:sk c=LG){t:LZ}(d:∀a b,Q.underlying t≠Lq (.chan a b)){x y:MS}{v u:LA}(h:v=.chan Lw\/u=.chan Lw):Bad Q (do eqGuard c t x y v u;binOp c t v u):=by
 rcases h with rfl | rfl
 ·cases c<;>first | (cases e;done) | exact Bad.bind (cU (.inr ⟨_,rfl⟩) _ d _) _
 ·cases c<;>first | (cases e;done) | (cases v<;>exact Bad.bind (cT (.inr ⟨_,rfl⟩) _ d _) _)
omit hT in
theorem yE{v b:LA}(h:VR Z v b)(i:Ly):SR Q P VR (Vo v i) Z (Vo b i):=by
 cases h with
 | @tuple a j g f=>
  have e:AsR Z a j:=⟨g,f⟩;unfold Vo;dsimp only;cases hc:a[i]? with
  | none=>exact au
  | some x=>
   have⟨y,c,d⟩:=e.get hc;rw[c];exact aj d
 | _=>exact au
theorem Ds(t:LZ){v b:LA}(h:VR Z v b)(i:Ly):SR Q P VR (XZ t v i) Z (XZ t b i):=by
 refine .bndE (aM hT t) λO d l=>?_;cases d with
 | struct e=>
  dsimp only;cases e[i]? with
  | none=>exact au
  | some f=>exact .bnd (Dw (h.mono l)) λV a j g c=>dP hT c _
 | _=>exact au
theorem Dr(r:Gl P Z)(t:LZ){v c x b:LA}(h:VR Z v c)(q:VR Z x b):SR Q P VR (Sr t v x) Z (Sr t c b):=by
 refine .bndE (jr q) λO p l=>?_;obtain⟨k,i⟩:=p;refine .bndE (aM hT t) λV d f=>?_;have g:=h.mono (l.trans f);have a:=r.mono (l.trans f);cases d with
 | array o e=>
  cases g with
  | agg w u=>
   dsimp only;refine aN (λ_=>?_) λ_=>dv hT a _ _ _ _;exact .bndE (bj hT e) λU n j=>dP hT (AsR.mono j ⟨w,u⟩) _
  | _=>exact au
 | string=>
  cases g with
  | string s=>
   dsimp only;split
   ·exact aj (.int _ _)
   ·exact dv hT a _ _ _ _
  | _=>exact au
 | _=>exact au
theorem nS(t:LZ){v a:LA}(h:VR Z v a):SR Q P VR (Vh t v) Z (Vh t a):=by
 refine .bndE (aM hT t) λO d l=>?_;cases d<;>first | exact aj (.iface t (h.mono l)) | exact au
theorem Dl{a:UnOp}{v b:LA}(h:VR Z v b):SR Q P VR (Op.unary a v) Z (Op.unary a b):=by
 cases h<;>cases a<;>first | exact au | exact aE | exact aj (.int _ _) | exact aj (.bool _)
theorem sd(w:Gl P Z){t a:LZ}(r:ij Q a=LG)(c:MC){v n:LA}(h:VR Z v n):SR Q P VR (PQ v t a c) Z (PQ n t a c):=by
 have f:∀{O:Ren} {u i:LA},VR O u i->SR Q P VR (pure (if c then .tuple #[u,.bool LG] else u):Ps LA) O (pure (if c then .tuple #[i,.bool LG] else i)):=by
  intro O u i p;cases c with
  | true=>exact aj (AsR.tuple (bH.2 (.cons p (.cons (.bool _) .nil))))
  | false=>exact aj p
 have b:∀{O:Ren} (s d:LU LZ) (m:String),Le Z O->SR Q P VR (if c then do pure (.tuple #[<- QL a,.bool LH]) else Pz (.typeAssertion s d a m):Ps LA) O (if c then do pure (.tuple #[<- QL a,.bool LH]) else Pz (.typeAssertion s d a m)):=by
  intro O s d m l;cases c with
  | true=>exact .bnd (bN hT r) λV z x _ j=>aj (AsR.tuple (bH.2 (.cons j (.cons (.bool _) .nil))))
  | false=>exact aG hT (w.mono l) (.typeAssertion s d a m)
 unfold PQ;dsimp only;refine .bndE (aM hT a) λO d l=>?_;have q:=h.mono l;cases d with
 | interface A=>
  cases q with
  | nilIface=>exact b Lw Lw "" l
  | iface g k=>
   dsimp only;refine .bndE (bQ hT g) λV y o=>?_;split
   ·exact f (.iface g (k.mono o))
   ·exact b Lw (Lq g) _ (l.trans o)
  | _=>exact au
 | _=>
  cases q with
  | nilIface=>exact b (Lq t) Lw "" l
  | iface g k=>
   dsimp only;by_cases e:g=a
   ·rw[if_pos e,if_pos e];exact f k
   ·rw[if_neg e,if_neg e];exact b (Lq t) (Lq g) "" l
  | _=>exact au
def DD(Q:LV)(t:LZ):MC :=
 match Q.info? t with
 | some i=>i.size != 0
 | none=>LG
theorem yz{t:LZ}(h:DD Q t=LG):SR Q P (λ_ a b=>b=a/\a≠0) (SY t) Z (SY t):=by
 refine .bnd (jm hT t) λO i d l c=>?_;obtain⟨rfl,c⟩:=c;refine aj ⟨rfl,?_⟩;unfold DD at h;rw[c] at h;simpa using h
def uR(Q:LV)(s:LZ)(f:Ly):MC :=
 match Q.underlying s with
 | some (.struct a)=>match a[f]? with | some f=>DD Q f.type | none=>LG
 | _=>LG
theorem yD{s:LZ}{f:Ly}(c:uR Q s f=LG){v x:LA}(h:VR Z v x):SR Q P VR (Xj s v f) Z (Xj s x f):=by
 refine .bnd (bf hT s) λO d D l r=>?_;obtain⟨rfl,r⟩:=r;unfold uR at c;rw[r] at c;cases D with
 | struct A=>
  dsimp only at c ⊢;cases hfs:A[f]? with
  | none=>exact au
  | some w=>
   rw[hfs] at c;dsimp only at c ⊢;refine .bnd (fF (h.mono l)) λV a b N u=>?_;obtain⟨i,j,o,g,rfl,rfl,z⟩:=u;show SR Q P VR (fieldPlace ⟨i,o,g⟩ w>>=λp=>pure (.pointer (Lq p))) V (fieldPlace ⟨j,o,g⟩ w>>=λp=>pure (.pointer (Lq p)));refine .bnd (R:=AdR) ?_ λU p q _ k=>by obtain⟨T,S,I,G,rfl,rfl,t⟩:=k;exact aj (.ptr _ _ t)
   refine .bnd (yz hT c) λU n L y e=>?_;obtain⟨rfl,e⟩:=e;rw[if_neg e,if_neg e];have⟨H,F,C,B⟩:=addr_add i j o w.offset g;rw[C,B];exact aj ⟨_,_,_,_,rfl,rfl,z.mono y⟩
 | _=>exact au
theorem yC(I:Gl P Z)(t:LZ){v A x z:LA}(h:VR Z v A)(H:VR Z x z):SR Q P VR (Vp t v x) Z (Vp t A z):=by
 unfold Vp;refine .bndE (jr H) λO G l=>?_;obtain⟨k,i⟩:=G;dsimp only;refine .bndE (aM hT t) λV d B=>?_;have F:=h.mono (l.trans B);have r:=I.mono (l.trans B);have fin:∀(U:Ren) (b p:LU MN) (f:Ly) (e:LZ) (g:MC),Le V U->VR U (.pointer b) (.pointer p) ->
   SR Q P VR (match b with
    | some a=>if 0<=i/\i<f then do pure (.pointer (Lq (a.add (i.toNat*(<- SY e))))) else if g then unsupported (.noEntry "op/indexAddr.an index out of range at an array of length 0 or 1 (ledger 616)") else Qj k i f .index
    | none=>Qj k i 0 .index) U (match p with
    | some a=>if 0<=i/\i<f then do pure (.pointer (Lq (a.add (i.toNat*(<- SY e))))) else if g then unsupported (.noEntry "op/indexAddr.an index out of range at an array of length 0 or 1 (ledger 616)") else Qj k i f .index
    | none=>Qj k i 0 .index):=by
  intro U b p f e g q j;cases j with
  | ptrNil=>exact dv hT (r.mono q) _ _ _ _
  | @ptr D C o s j=>
   dsimp only;refine aN (λ_=>?_) λ_=>aN (λ_=>aE) λ_=>dv hT (r.mono q) _ _ _ _;refine .bndE (bj hT e) λX n u=>?_;have⟨T,S,N,L⟩:=addr_add D C o (i.toNat*n) s;rw[N,L];exact aj (.ptr _ _ (j.mono u))
 have y:∀(U:Ren) (b p:LU MN) (f:Ly) (e:LZ),Le V U->VR U (.pointer b) (.pointer p)->SR Q P VR (do
    let g:=f<=1 && (match <- Pp t with | .array ..=>LG | _=>LH)
    match b with
    | some a=>if 0<=i/\i<f then do pure (.pointer (Lq (a.add (i.toNat*(<- SY e))))) else if g then unsupported (.noEntry "op/indexAddr.an index out of range at an array of length 0 or 1 (ledger 616)") else Qj k i f .index
    | none=>Qj k i 0 .index) U (do
    let g:=f<=1 && (match <- Pp t with | .array ..=>LG | _=>LH)
    match p with
    | some a=>if 0<=i/\i<f then do pure (.pointer (Lq (a.add (i.toNat*(<- SY e))))) else if g then unsupported (.noEntry "op/indexAddr.an index out of range at an array of length 0 or 1 (ledger 616)") else Qj k i f .index
    | none=>Qj k i 0 .index):=λU b p f e q j=>
   .bndE (aM hT t) λX d u=>fin X b p f e _ (q.trans u) (j.mono u)
 cases d with
 | array f e=>
  refine .bnd (fF F) λU a b q w=>?_;obtain⟨D,C,o,s,rfl,rfl,j⟩:=w;exact y U _ _ f e q (.ptr o s j)
 | slice e=>
  cases F with
  | sliceNil n c=>exact y V Lw Lw n e (.refl _) .ptrNil
  | slice o s n c j=>exact y V _ _ n e (.refl _) (.ptr o s j)
  | _=>exact bR
 | _=>exact bR
theorem fx(d:Gl P Z){x a:LA}(h:VR Z x a)(y:Ly)(c:Vy):SR Q P EqR (Pk x y c) Z (Pk a y c):=by
 refine .bndE (jr h) λO b l=>?_;obtain⟨k,i⟩:=b;exact aN (λ_=>aj rfl) λ_=>dv hT (d.mono l) _ _ _ _
def mC(Z:Ren)(a b:LU LA):Prop:=(a=Lw/\b=Lw)\/∃x y,a=Lq x/\b=Lq y/\VR Z x y
theorem dq(r:Gl P Z)(b:MC)(g n:Ly){q f u k o d:LU LA}(C:mC Z q f)(B:mC Z u k)(s:mC Z o d) :SR Q P EqR (TT b g n q u o) Z (TT b g n f k d):=by
 have j:∀(O:Ren) (m h:Ly) (c:Vy),Le Z O->SR Q P EqR (do
   let l <- match q with
    | some v=>Pk v h c
    | none=>pure 0
   pure (l,h,m)) O (do
   let l <- match f with
    | some v=>Pk v h c
    | none=>pure 0
   pure (l,h,m)):=by
  intro O m h c l;rcases C with⟨rfl,rfl⟩ | ⟨x,y,rfl,rfl,e⟩
  ·exact aj rfl
  ·exact .bndE (fx hT (r.mono l) (e.mono l) _ _) λV a _=>aj rfl
 have i:∀(O:Ren) (m:Ly) (A z w:Vy),Le Z O->SR Q P EqR (do
   let h <- match u,o with
    | some v,Lq _=>Pk v m A
    | some v,Lw=>Pk v m z
    | none,Lw=>pure g
    | none,Lq _=>stuck "Slice: max without high"
   let l <- match q with
    | some v=>Pk v h w
    | none=>pure 0
   pure (l,h,m)) O (do
   let h <- match k,d with
    | some v,Lq _=>Pk v m A
    | some v,Lw=>Pk v m z
    | none,Lw=>pure g
    | none,Lq _=>stuck "Slice: max without high"
   let l <- match f with
    | some v=>Pk v h w
    | none=>pure 0
   pure (l,h,m)):=by
  intro O m A z w l;rcases s with⟨rfl,rfl⟩ | ⟨x,y,rfl,rfl,e⟩
  ·rcases B with⟨rfl,rfl⟩ | ⟨x,y,rfl,rfl,e⟩
   ·exact j O _ _ _ l
   ·exact .bndE (fx hT (r.mono l) (e.mono l) _ _) λU a t=>j U _ _ _ (l.trans t)
  ·rcases B with⟨rfl,rfl⟩ | ⟨x,y,rfl,rfl,e⟩
   ·exact bR
   ·exact .bndE (fx hT (r.mono l) (e.mono l) _ _) λU a t=>j U _ _ _ (l.trans t)
 have D:d.isSome=o.isSome:=by rcases s with⟨rfl,rfl⟩ | ⟨x,y,rfl,rfl,_⟩<;>rfl
 unfold TT;rw[D];rcases h3':o with _ | x
 ·have p:d=Lw:=by rcases s with⟨_,rfl⟩ | ⟨x,y,rfl,rfl,_⟩<;>first | rfl | cases h3'
  subst h3';subst p;exact i Z n _ _ _ (.refl Z)
 ·obtain⟨y,p,e⟩:∃y,d=Lq y/\VR Z x y:=by
   rcases s with⟨rfl,_⟩ | ⟨F,y,rfl,p,e⟩
   ·cases h3'
   ·cases h3';exact⟨y,p,e⟩
  subst h3';subst p;exact .bndE (fx hT r e _ _) λV a l=>i V a _ _ _ l
theorem Dp(A:Gl P Z)(t:LZ){v v':LA}(h:VR Z v v'){lo q hi u I i:LU LA}(H:mC Z lo q)(G:mC Z hi u)(F:mC Z I i) :SR Q P VR (UM t v lo hi I) Z (UM t v' q u i):=by
 have f:∀{O:Ren} {a b:LU LA},Le Z O->mC Z a b->mC O a b:=λl h=>h.imp id λ⟨x,y,j,B,hv⟩=>⟨x,y,j,B,hv.mono l⟩;refine .bndE (aM hT t) λO d l=>?_;have h':=h.mono l;cases d with
 | string=>
  cases h' with
  | string s=>
   dsimp only;have e:i.isSome=I.isSome:=by rcases F with⟨rfl,rfl⟩ | ⟨x,y,rfl,rfl,_⟩<;>rfl
   rw[e];refine aN (λ_=>bR) λ_=>?_;exact .bndE (dq hT (A.mono l) LH _ _ (f l H) (f l G) (.inl ⟨rfl,rfl⟩)) λV r p=>aj (.string _)
  | _=>exact au
 | slice e=>
  cases h' with
  | sliceNil n c=>
   refine .bndE (dq hT (A.mono l) LG _ _ (f l H) (f l G) (f l F)) λV r p=>?_;obtain⟨a,b,C⟩:=r;refine .bndE (bj hT e) λU z _=>?_;have j:(if C=a then(Lw:LU MN) else Option.map (λ(x:MN)=>x.add (a*z)) Lw)=Lw:=by split<;>rfl
   rw[j];exact aj (.sliceNil _ _)
  | @slice N L o s n c w=>
   refine .bndE (dq hT (A.mono l) LG _ _ (f l H) (f l G) (f l F)) λV r p=>?_;obtain⟨a,b,C⟩:=r;refine .bndE (bj hT e) λU z k=>?_;have⟨o1,s1,j,B⟩:=addr_add N L o (a*z) s;by_cases g:C=a
   ·rw[if_pos g,if_pos g];exact aj (.slice _ _ _ _ (w.mono (p.trans k)))
   ·rw[if_neg g,if_neg g];simp only[Ng,j,B];exact aj (.slice _ _ _ _ (w.mono (p.trans k)))
  | _=>exact au
 | pointer a7=>
  refine .bnd (tc hT (A.mono l) h') λV a b p S=>?_;obtain⟨N,L,o,s,rfl,rfl,w⟩:=S;refine .bndE (aM hT a7) λU d k=>?_;cases d with
  | array n e=>
   dsimp only;have D:=(l.trans p).trans k;refine .bndE (dq hT (A.mono D) LH _ _ (f D H) (f D G) (f D F)) λX r l3=>?_;obtain⟨a,b,C⟩:=r;refine .bndE (bj hT e) λT z l4=>?_;dsimp only;have⟨o1,s1,j,B⟩:=addr_add N L o (a*z) s;by_cases g:C=a
   ·rw[if_pos g,if_pos g];exact aj (.slice _ _ _ _ (w.mono ((k.trans l3).trans l4)))
   ·rw[if_neg g,if_neg g,j,B];exact aj (.slice _ _ _ _ (w.mono ((k.trans l3).trans l4)))
  | _=>exact au
 | _=>exact au
theorem yy(I:Gl P Z)(t:LZ){v q:LA}(h:VR Z v q){w i A j u g:LU LA}(S:mC Z w i)(N:mC Z A j)(L:mC Z u g) :SR Q P VR (Xk t v w A u) Z (Xk t q i j g):=by
 have c:∀{O:Ren} {a b:LU LA},Le Z O->mC Z a b->mC O a b:=λl h=>h.imp id λ⟨x,y,D,C,hv⟩=>⟨x,y,D,C,hv.mono l⟩;refine .bndE (aM hT t) λO d l=>?_;have U:=h.mono l;have f:SR Q P VR (UM t v w A u) O (UM t q i j g):=Dp hT (I.mono l) t U (c l S) (c l N) (c l L);cases d with
 | array n e=>
  refine .bnd (fF U) λV a b l' B=>?_;obtain⟨i1,j1,o,s,rfl,rfl,H⟩:=B;have k:=l.trans l';refine .bndE (dq hT (I.mono k) LH _ _ (c k S) (c k N) (c k L)) λX r G=>?_;obtain⟨a,b,c'⟩:=r;refine .bndE (bj hT e) λT z F=>?_;have⟨o1,s1,D,C⟩:=addr_add i1 j1 o (a*z) s;by_cases p:c'=a
  ·rw[if_pos p,if_pos p];exact aj (.slice _ _ _ _ (H.mono (G.trans F)))
  ·rw[if_neg p,if_neg p,D,C];exact aj (.slice _ _ _ _ (H.mono (G.trans F)))
 | _=>exact f
end
end
section
section
variable[JunkSet]{Q P:LV}(hT:P.toTables=Q.toTables){Z:Ren}{Y M W:Type}{R:Rel Y M}
def qu{v a:LA}(h:VR Z v a):SR Q P EqR (Vq v) Z (Vq a):=by
 cases h<;>first | exact aj rfl | exact au
def cq(a n:Ly){v e:LA}(h:VR Z v e):SR Q P AsR (TH a n v) Z (TH a n e):=by
 cases h with
 | sliceNil=>exact aj .nil
 | slice o s _ _ d=>exact mK _ d
 | string s=>
  refine aj ⟨rfl,λi x y c f=>?_⟩;rw[c] at f;cases f;rw[Sk] at c;cases d:(s.extract 0 n).data[i]? with
  | none=>rw[d] at c;cases c
  | some b=>rw[d] at c;cases c;exact .int _ _
 | _=>exact au
def AsR.getBang{a b:LM LA}(h:AsR Z a b)(i:Ly):VR Z a[i]! b[i]!:=by
 rw[Um,Um];exact h.getD i (.bool _)
def iF{n:Ly}{f g:Ly->LA}(h:∀i,VR Z (f i) (g i)):AsR Z ((PU n).map f) ((PU n).map g):=by
 refine⟨by simp,λi x y a b=>?_⟩;simp only[Sk] at a b;cases hr:(PU n)[i]? with
 | none=>rw[hr] at a;cases a
 | some k=>rw[hr] at a b;cases a;cases b;exact h k
def AsR.zeroCells{z a:LM LA}(h:AsR Z z a)(n:Ly):AsR Z (Ol z n) (Ol a n):=by
 unfold Ol;rw[<- h.1];exact iF λi=>h.getBang _
def lY(n:Ly):SR Q P (λ_ _ _=>Ro) (askRoom n) Z (askRoom n):=by
 unfold askRoom;refine aN (λ_=>?_) λ_=>aj trivial;exact .inr ⟨rfl,_,rfl,(),rfl,trivial⟩
def NP(Q:LV){Y:Type}:Ps Y->Prop
 | .pure _=>Ro
 | .load _ _ k=>∀v,NP Q (k v)
 | .store _ _ _ k=>NP Q k
 | .new o k=>cJ o=LH/\∀r,NP Q (k r)
 | .shape _ k=>∀x,NP Q (k x)
 | .freeze _ _ k=>NP Q k
 | .frozen _ k=>∀b,NP Q (k b)
 | .getObj _ k=>∀o,NP Q (k o)
 | .setObj _ o k=>cJ o=LH/\NP Q k
 | .choose _ k=>∀n,NP Q (k n)
 | .sys _ k=>∀r,NP Q (k r)
 | .program k=>NP Q (k Q)
 | .mark _ k=>NP Q k
 | .halt h=>odd h=LH
def NP.bind{s:Ps Y}{f:Y->Ps W}(h:NP Q s)(d:∀a,NP Q (f a)):NP Q (s>>=f):=by
 show NP Q (s.bind f);induction s with
 | pure a=>exact d a
 | load m a k b=>exact λv=>b v (h v)
 | store m a v k b=>exact b h
 | new o k b=>exact⟨h.1,λv=>b v (h.2 v)⟩
 | shape r k b=>exact λv=>b v (h v)
 | freeze a n k b=>exact b h
 | frozen a k b=>exact λv=>b v (h v)
 | getObj r k b=>exact λv=>b v (h v)
 | setObj r o k b=>exact⟨h.1,b h.2⟩
 | choose q k b=>exact λv=>b v (h v)
 | sys c k b=>exact λv=>b v (h v)
 | program k b=>exact b Q h
 | mark m k b=>exact b h
 | halt x=>exact h
def Bad.of_np{s:Ps Y}{f:Y->Ps W}(h:NP Q s)(d:∀a,Bad Q (f a)):Bad Q (s>>=f):=by
 show Bad Q (s.bind f);induction s with
 | pure a=>exact d a
 | load m a k b=>exact λv=>b v (h v)
 | store m a v k b=>exact b h
 | new o k b=>exact⟨h.1,λv=>b v (h.2 v)⟩
 | shape r k b=>exact λv=>b v (h v)
 | freeze a n k b=>exact b h
 | frozen a k b=>exact λv=>b v (h v)
 | getObj r k b=>exact λv=>b v (h v)
 | setObj r o k b=>exact⟨h.1,b h.2⟩
 | choose q k b=>exact λv=>b v (h v)
 | sys c k b=>exact λv=>b v (h v)
 | program k b=>exact b Q h
 | mark m k b=>exact b h
 | halt x=>exact h
theorem np_holds(a:MN)(c:Ly):NP Q (Vz a c):=λx=>by
 cases x with
 | none=>trivial
 | some p=>trivial
def oW(c e n:Ly)(base:LU MN)(x:LA):NP Q (Wl c e n base x):=by
 have d:∀b:MC,NP Q (if(!b)=LG then(pure LG:Ps MC) else match x with
   | .slice (Lq b) _ _=>do pure (!(<- Vz b (n*c)) || base.any (·.block == b.block))
   | _=>pure LH):=λb=>by
  split
  ·trivial
  ·split
   ·exact NP.bind (np_holds _ _) λ_=>trivial
   ·trivial
 unfold Wl;cases base with
 | none=>exact d LG
 | some a=>exact NP.bind (np_holds _ _) λp=>NP.bind (s:=frozen _) (λb=>trivial) λq=>d _
def we{v a:LA}(h:VR Z v a):(∃b d n c,v=.slice b n c/\a=.slice d n c/\VR Z (.pointer b) (.pointer d))\/∀b n c,v≠.slice b n c:=by
 cases h with
 | sliceNil n c=>exact .inl ⟨Lw,Lw,n,c,rfl,rfl,.ptrNil⟩
 | slice o s n c e=>exact .inl ⟨_,_,n,c,rfl,rfl,.ptr o s e⟩
 | _=>exact .inr λb n c=>by simp
def VR.slice_of{b d:LU MN}(a:VR Z (.pointer b) (.pointer d))(n c:Ly):VR Z (.slice b n c) (.slice d n c):=by
 cases a with
 | ptrNil=>exact .sliceNil n c
 | ptr o s a=>exact .slice o s n c a
def Jr(Q:LV)(a:LM LZ):MC :=
 (match a[0]? with
  | some c=>match Q.underlying c with | some (.slice e)=>ij Q e | _=>LG
  | none=>LG) &&
 (match a[1]? with
  | some b=>match Q.underlying b with | some (.int _)=>LH | _=>LG
  | none=>LG)
include hT in
theorem AY(hG:Gl P Z){L:LM LZ}{t:LZ}{a a':LM LA}(h:AsR Z a a')(hB:Jr Q L=LG) :SR Q P VR (PI L t a) Z (PI L t a'):=by
 unfold Jr at hB;simp only[Mg] at hB;obtain⟨p,v⟩:=hB;unfold PI;cases ht0:L[0]? with
 | none=>exact au
 | some st=>
  rw[ht0] at p;cases h0:a[0]? with
  | none=>exact au
  | some s0=>
   have⟨k5,e0,hs⟩:=h.get h0;cases h1:a[1]? with
   | none=>exact au
   | some x=>
    have⟨x',S,I⟩:=h.get h1;rw[e0,S];dsimp only;refine .bnd (bf hT st) λO d d' l hd=>?_;obtain⟨rfl,hd⟩:=hd;dsimp only at p;rw[hd] at p;cases d' with
    | slice e=>
     dsimp only at p ⊢;rcases we (hs.mono l) with⟨b,b',g,w,rfl,rfl,hb⟩ | d7
     ·dsimp only;refine .bndE (bj hT e) λV f l1=>?_;cases ht1:L[1]? with
      | none=>
       dsimp only;simp only[Mx,if_false,Ry,if_true,false_or,pure_bind];have LL:=l.trans l1;have LB:=l1;refine .bndE (qu (I.mono LL)) λU n N=>?_;have H:=LL.trans N;have u:=hb.mono (LB.trans N);refine aN (λ_=>?_) λ_=>?_
       ·refine .bnd (cq f n (I.mono H)) λX c c' q D=>?_;have F:=u.mono q;cases F with
        | ptrNil=>exact aj (.sliceNil _ _)
        | @ptr i j o s r=>
         dsimp only;have⟨o1,s1,S,e2⟩:=addr_add i j o (g*f) s;rw[S,e2];exact .bnd (dL (bH.1 D) 0 r) λT _ _ y _=>aj (.slice _ _ _ _ (r.mono y))
       ·refine .bndE (bQ hT e) λX ti q=>?_;refine aN (λ_=>?_) λ_=>?_
        ·exact .bnd (R:=λ_ _ _=>PC) (aG hT (hG.mono (H.trans q)) _) λ_ _ _ _ hf=>hf.elim
        ·refine .bndE (bQ hT e) λω2 b6 y=>?_;refine aN (λ_=>?_) λ_=>?_
         ·exact .bad (Bad.bind (Bad.of_np (oW _ _ _ _ _) λb=>by cases b<;>trivial) _)
         ·refine .bndE iR λω3 nc l4=>?_;refine .bndE (bQ hT e) λω4 b0 l5=>?_;refine .bnd (lY _) λω5 _ _ l6 _=>?_;have L6:=((((q.trans y).trans l4).trans l5).trans l6);refine .bnd (cq f g ((u.mono L6).slice_of g w)) λω6 c c' l7 D=>?_;refine .bnd (cq f n (I.mono ((H.trans L6).trans l7))) λω7 d d' l8 C=>?_;refine .bnd (bN hT p) λω8 z z' l9 hz=>?_;refine .bnd (iP ((((D.mono l8).append C).mono l9).append (hz.cells.zeroCells _))) λω9 a b d5 G=>?_;obtain⟨i,j,rfl,rfl,A⟩:=G;exact aj (.slice _ _ _ _ A)
      | some xt=>
       rw[ht1] at v;dsimp only at v ⊢;refine .bnd (bf hT xt) λU dx e6 q B=>?_;obtain⟨rfl,B⟩:=B;rw[B] at v;cases e6 with
       | int k=>cases v
       | _=>
        simp only[Mx,if_false,Ry,if_true,false_or,pure_bind];have LL:=(l.trans l1).trans q;have LB:=l1.trans q;refine .bndE (qu (I.mono LL)) λU n N=>?_;have H:=LL.trans N;have u:=hb.mono (LB.trans N);refine aN (λ_=>?_) λ_=>?_
        ·refine .bnd (cq f n (I.mono H)) λX c c' q D=>?_;have F:=u.mono q;cases F with
         | ptrNil=>exact aj (.sliceNil _ _)
         | @ptr i j o s r=>
          dsimp only;have⟨o1,s1,S,e2⟩:=addr_add i j o (g*f) s;rw[S,e2];exact .bnd (dL (bH.1 D) 0 r) λT _ _ y _=>aj (.slice _ _ _ _ (r.mono y))
        ·refine .bndE (bQ hT e) λX ti q=>?_;refine aN (λ_=>?_) λ_=>?_
         ·exact .bnd (R:=λ_ _ _=>PC) (aG hT (hG.mono (H.trans q)) _) λ_ _ _ _ hf=>hf.elim
         ·refine .bndE (bQ hT e) λω2 b6 y=>?_;refine aN (λ_=>?_) λ_=>?_
          ·exact .bad (Bad.bind (Bad.of_np (oW _ _ _ _ _) λb=>by cases b<;>trivial) _)
          ·refine .bndE iR λω3 nc l4=>?_;refine .bndE (bQ hT e) λω4 b0 l5=>?_;refine .bnd (lY _) λω5 _ _ l6 _=>?_;have L6:=((((q.trans y).trans l4).trans l5).trans l6);refine .bnd (cq f g ((u.mono L6).slice_of g w)) λω6 c c' l7 D=>?_;refine .bnd (cq f n (I.mono ((H.trans L6).trans l7))) λω7 d d' l8 C=>?_;refine .bnd (bN hT p) λω8 z z' l9 hz=>?_;refine .bnd (iP ((((D.mono l8).append C).mono l9).append (hz.cells.zeroCells _))) λω9 a b d5 G=>?_;obtain⟨i,j,rfl,rfl,A⟩:=G;exact aj (.slice _ _ _ _ A)
     ·split
      ·exact absurd rfl (d7 _ _ _)
      ·exact au
    | _=>exact au
end
end
section
def Er(Q:LV)(a:LM LZ):MC:=match a[0]? with | some t=>(match Q.underlying t with | some (.chan _ _)=>LH | _=>LG) | none=>LG
section
variable[JunkSet]{Q P:LV}(hT:P.toTables=Q.toTables){Z:Ren}{Y M W:Type}{R:Rel Y M}
include hT
theorem Gb{g:LM LZ}{t:LZ}{a z:LM LA}(h:AsR Z a z):SR Q P VR (TX g t a) Z (TX g t z):=by
 unfold TX;cases ht0:g[0]? with
 | none=>exact au
 | some G=>
  cases h0:a[0]? with
  | none=>exact au
  | some d=>
   have⟨I,F,A⟩:=h.get h0;cases h1:a[1]? with
   | none=>exact au
   | some x=>
    have⟨H,D,v⟩:=h.get h1;rw[F,D];dsimp only;refine .bndE (aM hT G) λO u l=>?_;cases u with
    | slice e=>
     dsimp only;rcases we (A.mono l) with⟨b,N,w,y,rfl,rfl,C⟩ | i
     ·dsimp only;refine .bndE (qu (v.mono l)) λV n r=>.bndE (bj hT e) λU f q=>?_;refine .bnd (cq f _ (v.mono ((l.trans r).trans q))) λX c L p B=>?_;have k:=C.mono ((r.trans q).trans p);cases k with
      | ptrNil=>exact aj (.int _ _)
      | ptr o s j=>exact .bnd (dL (bH.1 B) 0 j) λT _ _ p _=>aj (.int _ _)
     ·split
      ·exact absurd rfl (i _ _ _)
      ·exact au
    | _=>exact au
theorem ID{i:LM LZ}{t:LZ}{a r:LM LA}(g:Er Q i=LG)(h:AsR Z a r):SR Q P VR (VM i t a) Z (VM i t r):=by
 unfold VM;cases ht0:i[0]? with
 | none=>exact au
 | some B=>
  cases h0:a[0]? with
  | none=>exact au
  | some d=>
   have⟨F,A,x⟩:=h.get h0;rw[A];dsimp only;refine .bnd (bf hT B) λO u s l j=>?_;obtain⟨rfl,j⟩:=j;have f:=x.mono l;cases s with
   | array n e=>exact aj (.int _ _)
   | pointer q=>
    refine .bndE (aM hT q) λV u l=>?_;cases u with
    | array n e=>exact aj (.int _ _)
    | _=>exact au
   | string=>cases f<;>first | exact au | exact aj (.int _ _)
   | slice e=>cases f<;>first | exact au | exact aj (.int _ _)
   | map k e=>
    cases f with
    | mapNil=>exact aj (.int _ _)
    | map y=>
     refine .bnd (dW y) λV o C D v=>?_;cases v with
     | @map z p c w=>
      dsimp only;have:z.size=p.size:=w.length;rw[this];exact aj (.int _ _)
     | _=>exact au
    | _=>exact au
   | chan a b=>
    unfold Er at g;rw[ht0] at g;dsimp only at g;rw[j] at g;cases g
   | _=>exact au
theorem IG{f:LM LZ}{t:LZ}{a k:LM LA}(c:Er Q f=LG)(h:AsR Z a k):SR Q P VR (VN f t a) Z (VN f t k):=by
 unfold VN;cases ht0:f[0]? with
 | none=>exact au
 | some r=>
  cases h0:a[0]? with
  | none=>exact au
  | some d=>
   have⟨s,q,p⟩:=h.get h0;rw[q];dsimp only;refine .bnd (bf hT r) λO u o l g=>?_;obtain⟨rfl,g⟩:=g;have i:=p.mono l;cases o with
   | array n e=>exact aj (.int _ _)
   | pointer j=>
    refine .bndE (aM hT j) λV u l=>?_;cases u with
    | array n e=>exact aj (.int _ _)
    | _=>exact au
   | slice e=>cases i<;>first | exact au | exact aj (.int _ _)
   | chan a b=>
    unfold Er at c;rw[ht0] at c;dsimp only at c;rw[g] at c;cases c
   | _=>exact au
omit hT in
theorem FY{v c x b:LA}(h:VR Z v c)(a:VR Z x b):SR Q P VR (VO v x) Z (VO c b):=by
 cases h with
 | int k n=>cases a<;>first | exact aj (.int _ _) | exact au | exact aE
 | string s=>
  cases a with
  | string u=>exact(aj (VR.string _):SR Q P VR (pure (Value.string _)) Z (pure (Value.string _)))
  | _=>first | exact au | exact aE
 | ptr o s d=>exact aE
 | _=>cases a<;>first | exact au | exact aE
omit hT in
theorem FZ{v c x b:LA}(h:VR Z v c)(a:VR Z x b):SR Q P VR (XE v x) Z (XE c b):=by
 cases h with
 | int k n=>cases a<;>first | exact aj (.int _ _) | exact au | exact aE
 | string s=>
  cases a with
  | string u=>exact(aj (VR.string _):SR Q P VR (pure (Value.string _)) Z (pure (Value.string _)))
  | _=>first | exact au | exact aE
 | ptr o s d=>exact aE
 | _=>cases a<;>first | exact au | exact aE
omit hT in
theorem vZ{f g:LA->LA->Ps LA}(o:∀{O:Ren} {v b x d:LA},VR O v b->VR O x d->SR Q P VR (f v x) O (g b d)):∀{l c:Lx LA} {Z:Ren} {v b:LA},LsR (VR Z) l c->VR Z v b ->SR Q P VR (l.foldlM f v) Z (c.foldlM g b):=by
 intro l;induction l with
 | nil=>intro c Z v b h e;cases h;exact aj e
 | cons a l i=>
  intro c Z v b h e;cases h with
  | cons p n=>
   rw[Wm,Wm];exact .bnd (o e p) λO x d lσ j=>i (n.imp λ_ _ k=>k.mono lσ) j
omit hT in
theorem IB{e:LM LZ}{t:LZ}{a d:LM LA}(h:AsR Z a d):SR Q P VR (TC e t a) Z (TC e t d):=by
 have c:=bH.1 h;unfold TC;generalize a.toList=l at c ⊢;generalize d.toList=l' at c ⊢;cases c with
 | nil=>exact au
 | cons b f=>exact vZ (λh b=>FY h b) f b
omit hT in
theorem IC{e:LM LZ}{t:LZ}{a d:LM LA}(h:AsR Z a d):SR Q P VR (VP e t a) Z (VP e t d):=by
 have c:=bH.1 h;unfold VP;generalize a.toList=l at c ⊢;generalize d.toList=l' at c ⊢;cases c with
 | nil=>exact au
 | cons b f=>exact vZ (λh b=>FZ h b) f b
def kN(Q:LV)(t:LZ):MC:=match Q.underlying t with | some (.slice e)=>ij Q e | _=>LG
theorem Du{g:LM LZ}{t:LZ}{a v:LM LA}(h:AsR Z a v)(f:(match g[0]? with | some st=>kN Q st | none=>LG)=LG):SR Q P VR (SD g t a) Z (SD g t v):=by
 unfold SD;cases ht0:g[0]? with
 | none=>exact au
 | some C=>
  rw[ht0] at f;cases h0:a[0]? with
  | none=>exact au
  | some d=>
   have⟨H,B,y⟩:=h.get h0;rw[B];dsimp only at f ⊢;refine .bnd (bf hT C) λO u b l q=>?_;obtain⟨rfl,q⟩:=q;unfold kN at f;rw[q] at f;have r:=y.mono l;have fin:∀U,SR Q P VR (pure (.tuple #[]):Ps LA) U (pure (.tuple #[])):=λU=>aj (AsR.tuple .nil);cases r with
   | mapNil=>cases b<;>exact fin _
   | sliceNil n c=>cases b<;>exact fin _
   | @map i j k=>
    have A:SR Q P VR (do
      let .map _ clock <- getObj i | stuck "clear: map expected"
      setObj i (.map #[] clock)
      pure (.tuple #[])) O (do
      let .map _ clock <- getObj j | stuck "clear: map expected"
      setObj j (.map #[] clock)
      pure (.tuple #[])):=by
     refine .bnd (dW k) λV o F p x=>?_;cases x with
     | map c G=>exact .bnd (dV (k.mono p) (.map c .nil)) λU _ _ _ _=>fin U
     | _=>exact au
    cases b<;>exact A
   | slice o s n c k=>
    cases n with
    | zero=>cases b<;>exact fin _
    | succ n=>
     cases b with
     | slice e=>
      refine .bnd (bN hT f) λV z D p w=>?_;exact .bnd (dL (bH.1 (w.cells.zeroCells _)) 0 (k.mono p)) λU _ _ _ _=>fin U
     | _=>exact au
   | _=>cases b<;>exact au
theorem uu(hG:Gl P Z){t:LZ}(p:kN Q t=LG){v A x y:LA}(h:VR Z v A)(S:VR Z x y):SR Q P VR (Tu t v x) Z (Tu t A y):=by
 refine .bnd (bf hT t) λO d d' l s=>?_;obtain⟨rfl,s⟩:=s;unfold kN at p;rw[s] at p;cases d' with
 | slice e=>
  dsimp only at p ⊢;refine .bndE (mN (h.mono l)) λV G D=>.bndE (mN (S.mono (l.trans D))) λU a8 I=>?_;refine .bndE (bQ hT e) λX ti H=>?_;have L:=((l.trans D).trans I).trans H;have HG:=hG.mono L;have c:∀(O:Ren) (m:String) {f F:PUnit->Ps LA},Le X O->SR Q P VR ((Pz (.error m):Ps PUnit)>>=f) O ((Pz (.error m):Ps PUnit)>>=F):=λO m f F lσ=>.bnd (R:=λ_ _ _=>PC) (aG hT (HG.mono lσ) _) λ_ _ _ _ T=>T.elim;have g:∀(O:Ren) (n:Ly) {z k:LM LA} (q w:Ly),AsR O z k->SR Q P VR (do
    let a <- WT e ((PU n).map λx=>z[x % z.size]!)
    pure (.slice (Lq a) q w)) O (do
    let a <- WT e ((PU n).map λx=>k[x % k.size]!)
    pure (.slice (Lq a) q w)):=λO n z k q w o=>by
   refine .bnd (iP (by rw[<- o.1];exact iF λi=>o.getBang _)) λω9 a b N u=>?_;obtain⟨i,j,rfl,rfl,r⟩:=u;exact aj (.slice _ _ _ _ r)
  refine aN (λ_=>?_) λ_=>?_
  ·refine aN (λ_=>c X _ (.refl X)) λ_=>aN (λ_=>c X _ (.refl X)) λ_=>?_;exact .bndE iR λω1 n C=>c ω1 _ C
  ·refine .bnd (lY _) λω1 _ _ C _=>.bndE (bj hT e) λω2 B l5=>?_;refine aN (λ_=>g ω2 _ _ _ .nil) λ_=>?_;exact .bnd (bN hT p) λω4 z k _ o=>g ω4 _ _ _ o.cells
 | _=>exact au
theorem sh{t:LZ}(p:kN Q t=LG)(n:Ly){k f:LM (Ly × LA)}(h:LsR (tX Z) k.toList f.toList):SR Q P VR (Wn t n k) Z (Wn t n f):=by
 refine .bnd (bf hT t) λO d F l u=>?_;obtain⟨rfl,u⟩:=u;unfold kN at p;rw[u] at p;cases F with
 | slice e=>
  dsimp only at p ⊢;refine .bndE (bj hT e) λV c A=>?_;refine aN (λ_=>dg) λ_=>?_;have fin:∀(U:Ren) {z g:LM LA},Le V U->AsR U z g->SR Q P VR (do
    let Lq cells:=Rw (λi=>Lq (i*c,c)) ((PU (n*c)).map (λx=>z[x % z.size]!)) k.toList | stuck "buildSlice: a part of the wrong size"
    pure (.slice (Lq (<- WT e cells)) n n)) U (do
    let Lq cells:=Rw (λi=>Lq (i*c,c)) ((PU (n*c)).map (λx=>g[x % g.size]!)) f.toList | stuck "buildSlice: a part of the wrong size"
    pure (.slice (Lq (<- WT e cells)) n n)):=by
   intro U z g q o;have C:LsR (tX U) k.toList f.toList:=h.imp λ_ _ x=>⟨x.1,x.2.mono ((l.trans A).trans q)⟩;have D:AsR U ((PU (n*c)).map (λx=>z[x % z.size]!)) ((PU (n*c)).map (λx=>g[x % g.size]!)):=by rw[<- o.1];exact iF λi=>o.getBang _
   rcases xy (λi=>Lq (i*c,c)) _ _ _ _ C D with⟨y,w⟩ | ⟨r,G,y,w,B⟩
   ·rw[y,w];exact au
   ·rw[y,w];refine .bnd (iP B) λX a b _ v=>?_;obtain⟨i,j,rfl,rfl,s⟩:=v;exact aj (.slice _ _ _ _ s)
  refine aN (λ_=>fin V (.refl V) .nil) λ_=>?_;exact .bnd (bN hT p) λU z g q o=>fin U q o.cells
 | _=>exact au
theorem yB(t:LZ){r b:LU LA}(h:mC Z r b):SR Q P VR (TY t r) Z (TY t b):=by
 have fin:∀O,SR Q P VR (do pure (.map (Lq (<- WQ (.map #[] 0))))) O (do pure (.map (Lq (<- WQ (.map #[] 0))))):=λO=>.bnd (qn (.map 0 .nil)) λV i j _ a=>aj (.map a);unfold TY;rcases h with⟨rfl,rfl⟩ | ⟨x,y,rfl,rfl,c⟩
 ·exact fin Z
 ·refine .bndE (aM hT t) λO d l=>?_;cases d with
  | map k e=>exact .bndE (mN (c.mono l)) λV n _=>fin V
  | _=>exact au
theorem oQ(z:MC):∀(n d:Ly) {Z:Ren} {t:LZ} {x i:LA},eqB Q n t=LG->VR Z x i->SR Q P (λ_ _ _=>Ro) (PV z d t x) Z (PV z d t i):=by
 intro n;induction n with
 | zero=>intro d Z t x i h;cases h
 | succ n w=>
  intro d Z t x i h g;cases d with
  | zero=>exact aE
  | succ d=>
   unfold PV;refine .bnd (bf hT t) λO F j l a=>?_;obtain⟨rfl,a⟩:=a;replace g:=g.mono l;unfold eqB at h;rw[a] at h;cases j with
   | interface G=>cases h
   | struct H=>
    cases g with
    | agg v u=>
     dsimp only;rw[<- Qr,<- Qr];dsimp only at h;rw[NG] at h;refine .bndE (cC (K:=λX=>Le O X) (λ_ _ l k=>k.trans l) _ (λf y U b c=>?_) O _ (.refl O)) λU r c=>aj trivial;refine aN (λq=>?_) λ_=>aj rfl;have s:eqB Q n f.type=LG:=by
      have:=h f (Oy.1 y);simp only[OH,beq_iff_eq] at this;exact this.resolve_left q
     exact .bnd (dP hT (AsR.mono c ⟨v,u⟩) _) λω1 p A C o=>.bnd (w d s o) λω3 _ _ _ _=>aj rfl
    | _=>exact au
   | array B e=>
    cases g with
    | agg v u=>
     dsimp only;rw[NV,NV];refine .bndE (cC (K:=λX=>Le O X) (λ_ _ l k=>k.trans l) _ (λf y U b c=>?_) O _ (.refl O)) λU r c=>aj trivial;exact .bndE (bj hT e) λω0 n D=>.bnd (dP hT (AsR.mono (c.trans D) ⟨v,u⟩) _) λω1 p A C o=>.bnd (w d h o) λω3 _ _ _ _=>aj rfl
    | _=>exact au
   | _=>cases g<;>exact aj trivial
def vx(Z:Ren)(a b:LU (Ly × LA)):Prop:=(a=Lw/\b=Lw)\/∃i x y,a=Lq (i,x)/\b=Lq (i,y)/\VR Z x y
omit hT in
theorem yO(d:Tm){x c y b:LA}(f:VR Z x c)(e:VR Z y b):Ti d c b=Ti d x y:=by
 have a:∀{u:LA},EI u=LG->∀d v,Ti d u v=Lw/\Ti d v u=Lw:=by
  intro u g d v;cases u<;>first | (cases g;done) | (cases d<;>cases v<;>exact⟨rfl,rfl⟩)
 cases f with
 | wild _ h=>rw[(a h d _).1,(a (u:=.chan Lw) rfl d _).1]
 | _=>first
  | (cases d<;>rfl)
  | (
    cases e with
   | wild _ h=>rw[(a h d _).2,(a (u:=.chan Lw) rfl d _).2]
   | _=>cases d<;>rfl)
omit hT in
theorem xw(d:Tm){k f:LA}(o:VR Z k f):∀{c a:Lx Pv} (i:Ly),LsR (gh Z) c a ->(Tj d k c i=Lw/\Tj d f a i=Lw)\/∃r j,Tj d k c i=Lq r/\Tj d f a i=Lq j/\vx Z r j:=by
 intro c;induction c with
 | nil=>intro a i h;cases h;exact .inr ⟨Lw,Lw,rfl,rfl,.inl ⟨rfl,rfl⟩⟩
 | cons e c n=>
  intro a i h;cases h with
  | cons l g=>
   simp only[Tj,yO d o l.key];cases Ti d k e.key with
   | none=>exact .inl ⟨rfl,rfl⟩
   | some b=>
    cases b with
    | true=>exact .inr ⟨_,_,rfl,rfl,.inr ⟨i,_,_,rfl,rfl,l.val⟩⟩
    | false=>exact n (i+1) g
theorem se{t:LZ}(p:eqB Q 6 t=LG){k j:LA}:∀{c a:Lx Pv} {Z:Ren} (i:Ly),VR Z k j->Gl P Z->LsR (gh Z) c a ->SR Q P vx (Qk t k c i) Z (Qk t j a i):=by
 intro c;induction c with
 | nil=>intro a Z i d g h;cases h;exact aj (.inl ⟨rfl,rfl⟩)
 | cons e c o=>
  intro a Z i d g h;cases h with
  | cons n f=>
   refine .bndE (lX hT 6 _ p d n.key g) λO b l=>?_;refine aN (λ_=>aj (.inr ⟨i,_,_,rfl,rfl,n.val.mono l⟩)) λ_=>?_;exact o (i+1) (d.mono l) (g.mono l) (f.imp λ_ _ x=>x.mono l)
theorem qx{t:LZ}(j:eqB Q 6 t=LG){k f:LA}{b a:Lx Pv}(g:VR Z k f)(o:Gl P Z)(h:LsR (gh Z) b a) :SR Q P vx (QG t k b) Z (QG t f a):=by
 refine .bndE (aM hT t) λO d l=>?_;have i:LsR (gh O) b a:=h.imp λ_ _ x=>x.mono l;rcases xw d (g.mono l) 0 i with⟨e,c⟩ | ⟨r,p,e,c,n⟩
 ·rw[e,c];exact se hT j 0 (g.mono l) (o.mono l) i
 ·rw[e,c];exact aj n
end
end
section
section
variable[JunkSet]{Q P:LV}(hT:P.toTables=Q.toTables){Z:Ren}{Y M W:Type}{R:Rel Y M}
include hT
def qR(Q:LV)(t:LZ):MC:=match Q.underlying t with | some (.map k e)=>eqB Q 6 k && ij Q e | _=>LG
theorem AV(I:Gl P Z){t:LZ}(f:qR Q t=LG)(c:MC){m w k n:LA}(hm:VR Z m w)(A:VR Z k n):SR Q P VR (RL t m k c) Z (RL t w n c):=by
 refine .bnd (bf hT t) λO d L l u=>?_;obtain⟨rfl,u⟩:=u;unfold qR at f;rw[u] at f;cases L with
 | map kt B=>
  dsimp only at f ⊢;simp only[Mg] at f;have fin:∀(V:Ren) {h a:LM Pv},Le Z V->LsR (gh V) h.toList a.toList->SR Q P VR (do
    PV h.isEmpty 10000 kt k
    let (v,e) <- match <- QG kt k h.toList with
     | some (_,v)=>pure (v,LG)
     | none=>pure (<- QL B,LH)
    pure (if c then .tuple #[v,.bool e] else v)) V (do
    PV a.isEmpty 10000 kt n
    let (v,e) <- match <- QG kt n a.toList with
     | some (_,v)=>pure (v,LG)
     | none=>pure (<- QL B,LH)
    pure (if c then .tuple #[v,.bool e] else v)):=by
   intro V h a lτ q;have g:a.isEmpty=h.isEmpty:=by
    have:=q.length;simp only[Tx] at this;simp[Array.isEmpty,this]
   rw[g];refine .bnd (oQ hT _ 6 _ f.1 (A.mono lτ)) λU _ _ s _=>?_;refine .bnd (qx hT f.1 (A.mono (lτ.trans s)) (I.mono (lτ.trans s)) (q.imp λ_ _ x=>x.mono s)) λX r S l2 F=>?_;have b:∀(T:Ren) {v j:LA} (e:MC),VR T v j->SR Q P VR (pure (if c then .tuple #[v,.bool e] else v):Ps LA) T (pure (if c then .tuple #[j,.bool e] else j)):=by
    intro T v j e p;cases c with
    | true=>exact aj (AsR.tuple (bH.2 (.cons p (.cons (.bool _) .nil))))
    | false=>exact aj p
   rcases F with⟨rfl,rfl⟩ | ⟨i,x,y,rfl,rfl,p⟩
   ·exact .bnd (bN hT f.2) λT z N _ D=>b T LH D
   ·exact b X LG p
  cases(hm.mono l) with
  | mapNil=>exact fin O l .nil
  | map H=>
   refine .bnd (dW H) λV o o' C G=>?_;cases G with
   | map c q=>exact fin V (l.trans C) q
   | _=>exact bR
  | _=>exact bR
 | _=>exact au
omit hT in
theorem LsR.get{Y M:Type}{R:Y->M->Prop}{l:Lx Y}{m:Lx M}(h:LsR R l m)(i:Ly):(l[i]?=Lw/\m[i]?=Lw)\/∃x y,l[i]?=Lq x/\m[i]?=Lq y/\R x y:=by
 induction h generalizing i with
 | nil=>exact .inl ⟨by simp,by simp⟩
 | cons b c a=>
  cases i with
  | zero=>exact .inr ⟨_,_,rfl,rfl,b⟩
  | succ i=>simpa using a i
omit hT in
theorem xH{l k:LM Pv}(h:LsR (gh Z) l.toList k.toList)(i:Ly){f g:Pv->Pv}(o:∀e n,gh Z e n->gh Z (f e) (g n)):LsR (gh Z) (l.modify i f).toList (k.modify i g).toList:=by
 rw[Am] at h ⊢;simp only[Tx,Qu] at h ⊢;refine⟨by simpa using h.1,λj x y d c=>?_⟩;rw[Pt] at d c;by_cases e:i=j
 ·rw[if_pos e] at d c;cases hx':l[j]? with
  | none=>rw[hx'] at d;cases d
  | some a=>
   cases hy':k[j]? with
   | none=>rw[hy'] at c;cases c
   | some b=>
    rw[hx'] at d;rw[hy'] at c;cases d;cases c;exact o _ _ (h.2 j a b hx' hy')
 ·rw[if_neg e] at d c;exact h.2 j x y d c
def Ax(Q:LV)(s d:LZ):MC:=match Q.underlying s,Q.underlying d with | some (.int _),Lq (.int _)=>LG | _,_=>LH
theorem yF{s d:LZ}(c:Ax Q s d=LG){v g:LA}(h:VR Z v g):SR Q P VR (convert s d v) Z (convert s d g):=by
 refine .bnd (bf hT s) λO a j l f=>.bnd (bf hT d) λV b i o e=>?_;obtain⟨rfl,f⟩:=f;obtain⟨rfl,e⟩:=e;unfold Ax at c;rw[f,e] at c;cases j with
 | int q=>
  cases i with
  | int p=>
   cases h with
   | int k n=>exact aj (.int _ _)
   | _=>first | exact aE | exact au
  | _=>cases c
 | _=>cases i<;>cases c
end
end
section
inductive cQ [JunkSet] (Z:Ren):Qz->Qz->Prop
 | value {v v':LA}:VR Z v v'->cQ Z (.value v) (.value v')
 | skip:cQ Z .skip .skip
 | enter {f:Nh} {a a':LM LA}:JunkSet.okf f->AsR Z a a'->cQ Z (.enter f a) (.enter f a')
 | round {l l':Ly} (f:Nh) {t t':LM LA} {a b:Og}:BR Z l l'->AsR Z t t'->JunkSet.okg f->JunkSet.okc a->JunkSet.okc b->cQ Z (.round l f t a b) (.round l' f t' a b)
 | defer {d d':NR}:fM Z d d'->cQ Z (.defer d) (.defer d')
 | recover:cQ Z .recover .recover
def biB(Q:LV)(b:Builtin)(a:LM LZ):MC :=
 match b with
 | .append=>Jr Q a
 | .len | .cap=>Er Q a
 | .copy | .min | .max | .recover | .panic=>LG
 | .clear=>match a[0]? with | some st=>kN Q st | none=>LG
 | _=>LH
structure Pair[JunkSet](Q P:LV):Prop where
 bis:∀b ts,JunkSet.okb b ts->biB Q b ts=LG
 tables:P.toTables=Q.toTables
 funcs:∀f,JunkSet.okf f->∃fq fp,Q.funcs[f]?=Lq fq/\P.funcs[f]?=Lq fp/\fq.body.isNone=LH/\fp.body.isNone=LH/\(fq.name == "runtime.NumGoroutine")=LH/\(fp.name == "runtime.NumGoroutine")=LH
 meths:∀n,JunkSet.okm n->∀t i m,Q.info? t=Lq i->i.methods.find? (·.name == n)=Lq m->m.path=#[]/\∃f b,m.func=Lq (f,b)/\JunkSet.okf f/\∀e,Q.underlying t=Lq (.pointer e)->b=LG
 nometh:∀i,Q.info? 0=Lq i->(i.methods.find? (·.name == "")).isNone=LG
section
variable[JunkSet]{Q P:LV}(H:Pair Q P){Z:Ren}{Y M W:Type}{R:Rel Y M}
def eW{l a:Ly}(h:BR Z l a):SR Q P lO (Vr l) Z (Vr a) :=
 .bnd (dW h) λO o c _ b=>by
  cases b with
  | loop h=>exact aj h
  | _=>exact au
def ss:∀{e:Lx (Tmp × LA)} {d:Lx (Tmp × LA)} {t f:LM LA},LsR (λa b=>b.1=a.1/\VR Z a.2 b.2) e d->AsR Z t f ->AsR Z (e.foldl (λc (x:Tmp × LA)=>c.setIfInBounds x.1 x.2) t) (d.foldl (λc (x:Tmp × LA)=>c.setIfInBounds x.1 x.2) f):=by
 intro e;induction e with
 | nil=>intro d t f h g;cases h;exact g
 | cons p e j=>
  intro d t f h g;cases h with
  | @cons _ q _ n l i=>
   obtain⟨a,x⟩:=p;obtain⟨b,y⟩:=q;obtain⟨rfl,k⟩:=l;simp only[OI];exact j i (g.set _ k)
def FI{c:Lx Tmp}:∀{a d:Lx LA},LsR (VR Z) a d->LsR (λ(a b:Tmp × LA)=>b.1=a.1/\VR Z a.2 b.2) (c.zip a) (c.zip d):=by
 induction c with
 | nil=>intro a d h;exact .nil
 | cons p c e=>
  intro a d h;cases h with
  | nil=>exact .nil
  | cons f g=>exact .cons ⟨rfl,f⟩ (e g)
def Dk{l c:Ly}(h:BR Z l c){a e:LM LA}(d:AsR Z a e):SR Q P cQ (Yg l a) Z (Yg c e):=by
 refine .bnd (eW h) λO r f lσ b=>?_;dsimp only;rw[b.params,<- d.1,b.fn,b.assign,b.body];refine aN (λ_=>bR) λ_=>vV ?_;refine aj (.round _ (h.mono lσ) ?_ b.okF b.okA b.okB);rw[<- Sj,<- Sj,Wo,Wo];exact ss (FI (bH.1 (d.mono lσ))) b.tmps
include H
theorem oR{f:Nh}(b:JunkSet.okf f){a c:LM LA}(d:AsR Z a c):SR Q P cQ (callFunc f a) Z (callFunc f c):=by
 have⟨l,n,k,j,i,h,g,e⟩:=H.funcs f b;refine cv ?_;rw[k,j];dsimp only;rw[g,e,i,h];exact aj (.enter b d)
theorem AU(n:String)(B:JunkSet.okm n)(g c:Ly)(C:(g=0↔c=0)){t:LZ}{v j:LA}(h:VR Z v j) :SR Q P (λO a b=>b.1=a.1/\JunkSet.okf a.1/\VR O a.2 b.2) (method g t v n) Z (method c t j n):=by
 cases g with
 | zero=>exact aE
 | succ k=>
  cases c with
  | zero=>omega
  | succ L=>
   unfold method;refine .bnd (jm H.tables t) λO i w l s=>?_;obtain⟨rfl,s⟩:=s;cases hm:w.methods.find? (·.name == n) with
   | none=>exact au
   | some m=>
    have⟨A,f,b,D,q,o⟩:=H.meths n B t w m s hm;dsimp only;rw[A,D];have e:(follow (#[]:LM Wp).toList t (.val v))=pure (t,.val v):=rfl;have F:(follow (#[]:LM Wp).toList t (.val j))=pure (t,.val j):=rfl;rw[e,F];have p:SR Q P VR (receiverAt t (.val v) b (if(#[]:LM Wp).isEmpty=LG then Lq ((n.splitOn ".").getLastD n) else Lw)) O (receiverAt t (.val j) b (if(#[]:LM Wp).isEmpty=LG then Lq ((n.splitOn ".").getLastD n) else Lw)):=by
     refine .bnd (bf H.tables t) λV d G y u=>?_;obtain⟨rfl,u⟩:=u;have x:=h.mono (l.trans y);cases G with
     | pointer e=>
      have:=o e u;subst this;exact aj x
     | _=>
      cases b with
      | true=>exact au
      | false=>exact aj x
    exact SR.bnd (S:=λO a b=>b.1=a.1/\JunkSet.okf a.1/\VR O a.2 b.2) (f:=λr=>pure (f,r)) (f':=λr=>pure (f,r)) p λV r I _ z=>aj ⟨rfl,q,z⟩
theorem sf(p:Gl P Z)(n:String)(k:JunkSet.okm n){v e:LA}(h:VR Z v e){a g:LM LA}(o:AsR Z a g):SR Q P cQ (WW v n a) Z (WW e n g):=by
 cases h with
 | iface t i=>
  refine cv ?_;have:P.types.size=Q.types.size:=by rw[H.tables]
  rw[this];refine .bnd (AU H n k _ _ Iff.rfl i) λO a b l d=>?_;obtain⟨f,r⟩:=a;obtain⟨s,q⟩:=b;obtain⟨rfl,c,j⟩:=d;exact oR H c ((AsR.one j).append (o.mono l))
 | nilIface=>exact(aG H.tables p .nilDeref:SR Q P cQ (Pz .nilDeref) Z (Pz .nilDeref))
 | _=>exact au
omit [JunkSet] H in
theorem lK{Y:Type}(a:∀i,Q.info? 0=Lq i->(i.methods.find? (·.name == "")).isNone=LG)(f:Qg->Ps Y)(b:∀i,i.methods.find? (·.name == "")=Lw->Bad Q (f i)):Bad Q (PT 0>>=f):=by
 show Bad Q ((match Q.info? 0 with | some i=>(pure i:Ps Qg) | none=>stuck "no such type").bind f);cases h:Q.info? 0 with
 | none=>exact rfl
 | some i=>exact b i (by simpa using a i h)
theorem rS(a:LM LA):Bad Q (WW (.iface 0 .nilIface) "" a):=by
 show Bad Q ((method (Q.types.size+_) 0 .nilIface "").bind _);refine Bad.bind ?_ _;generalize Q.types.size+_=n;cases n with
 | zero=>exact rfl
 | succ n=>
  unfold method;refine lK H.nometh _ λi b=>?_;rw[b];exact rfl
theorem Cv:Bad Q (do
  if(<- nilAhead ((<- program).types.size+Made.depth) 0 .nilIface "") != Lq LH then
   unsupported (.noEntry "op/nilCheck.the method's receiver behind this interface value is a nil pointer, or cannot be seen to be none, and the arguments act or may panic (ledger 612)")
  pure (Next.value (.func (.method "") #[.iface 0 .nilIface] #[]))):=by
 show Bad Q ((nilAhead (Q.types.size+Made.depth) 0 .nilIface "").bind _);cases hn:Q.types.size+Made.depth with
 | zero=>exact rfl
 | succ n=>
  refine Bad.bind ?_ _;unfold nilAhead;refine lK H.nometh _ λi a=>?_;rw[a];exact rfl
omit H in
theorem IF:SR Q P EqR (sys .env) Z (sys .env):=.inr ⟨rfl,_,rfl,λr=>⟨r,rfl,rfl⟩⟩
theorem vW:SR Q P EqR SE Z SE:=by
 unfold SE;refine .bndE IF λO r l=>?_;cases r with
 | strings e=>
  dsimp only;refine cv ?_;have:P.godebug=Q.godebug:=by rw[H.tables]
  rw[this];exact aj rfl
 | _=>exact au
theorem qm{R:Rel LA LA}{v a:LA}(c:Gl P Z)(h:VR Z v a):SR Q P R (Yh v) Z (Yh a):=by
 cases h with
 | iface t b=>exact(eB (.iface t b):SR Q P R (XC _) Z (XC _))
 | nilIface=>
  show SR Q P R (SE>>=_) Z (SE>>=_);refine .bndE (vW H) λO n l=>?_;exact aN (λ_=>eB .nilIface) λ_=>aG H.tables (c.mono l) _
 | _=>exact au
theorem eA{s d:Ps LA}(h:SR Q P VR s Z d):SR Q P cQ (do pure (.value (<- s))) Z (do pure (.value (<- d))):=.bnd h λO a b _ c=>aj (.value c)
theorem KQ{s c:Ps Unit}(h:SR Q P (λ_ _ _=>Ro) s Z c):SR Q P cQ (do s;pure .skip) Z (do c;pure .skip):=.bnd h λO a b _ _=>aj .skip
theorem yH(f:Gl P Z){b:Builtin}{e:LM LZ}{t:LZ}{g:LM MC}(d:biB Q b e=LG){a h:LM LA}(c:AsR Z a h) :SR Q P cQ (builtin b e t g a) Z (builtin b e t g h):=by
 cases b<;>first | (cases d;done) | skip
 ·exact eA H (AY H.tables f c d)
 ·exact eA H (IG H.tables d c)
 ·exact eA H (Du H.tables c d)
 ·exact eA H (Gb H.tables c)
 ·exact eA H (ID H.tables d c)
 ·exact eA H (IC c)
 ·exact eA H (IB c)
 ·exact eA H (qm H f (c.getD 0 .nilIface))
 ·exact aj .recover
theorem lW{v d:LA}(h:VR Z v d){a f:LM LA}(e:AsR Z a f):SR Q P fM (Deferred.ofValue v a) Z (Deferred.ofValue d f):=by
 cases h with
 | func g l k j i=>exact aj (.mk (.fn g ⟨j,i⟩) (AsR.append ⟨l,k⟩ e))
 | nilFunc=>exact aj (.mk .nil e)
 | meth n b c=>exact aj (.bound rfl (by simp[Pu]) ⟨_,_,rfl⟩)
 | _=>exact au
theorem iQ(j:Gl P Z){d g:NR}(h:fM Z d g):SR Q P cQ (invoke d.target d.args) Z (invoke g.target g.args):=by
 obtain⟨t,a⟩:=d;obtain⟨y,B⟩:=g;rcases h with⟨k,c⟩ | ⟨p,o,_⟩
 case bound=>
  dsimp only at p o ⊢;subst p;unfold invoke;dsimp only;rw[o];exact .bad (rS H _)
 dsimp only at k c ⊢;cases k with
 | fn u v=>
  cases u with
  | func f i=>exact oR H i (c.append v)
  | yield l=>exact Dk l c
 | meth n s=>
  unfold invoke;dsimp only;cases h0:a[0]? with
  | none=>exact au
  | some r=>
   have⟨z,e,q⟩:=c.get h0;rw[e,<- c.1];exact sf H j n s q (c.extract _ _)
 | nil=>exact(aG H.tables j .nilDeref:SR Q P cQ (Pz .nilDeref) Z (Pz .nilDeref))
 | builtin b x t A w=>exact yH H j (H.bis _ _ w) c
 | collected l=>exact au
end
end
section
inductive aQ [JunkSet] (Q:LV):MS->Prop
 | tmp (t:Tmp):aQ Q (.tmp t)
 | const {v:LA}:iG v->aQ Q (.const v)
 | global {g:Ly}:g<Q.globals.size->aQ Q (.global g)
 | func {f:Nh}:JunkSet.okf f->aQ Q (.func f)
def dB[JunkSet](Q:LV)(l:Lx MS):Prop:=∀x∈l,aQ Q x
inductive fR [JunkSet] (Q:LV):Call->Prop
 | value {f:MS} {a:LM MS} {ts:LM LZ}:aQ Q f->dB Q a.toList->fR Q ⟨.value f,a,ts⟩
 | invoke {r:MS} {n:String} {a:LM MS} {ts:LM LZ}:aQ Q r->JunkSet.okm n->dB Q a.toList->fR Q ⟨.invoke r n,a,ts⟩
 | builtin {b:Builtin} {a:LM MS} {ts:LM LZ}:JunkSet.okb b ts->dB Q a.toList->fR Q ⟨.builtin b,a,ts⟩
inductive aX [JunkSet] (Q:LV):Op->Prop
 | move {x:MS}:aQ Q x->aX Q (.move x)
 | assign {x:MS}:aQ Q x->aX Q (.assign x)
 | pick {c a b:MS}:aQ Q c->aQ Q a->aQ Q b->aX Q (.pick c a b)
 | alloc {t:LZ}:ij Q t=LG->aX Q (.alloc t)
 | box {t:LZ} {x:MS}:aQ Q x->aX Q (.box t x)
 | build {t:LZ} {ps:LM (Ly × MS)}:ij Q t=LG->dB Q (ps.toList.map (·.2))->aX Q (.build t ps)
 | buildSlice {t:LZ} {n:Ly} {ps:LM (Ly × MS)}:kN Q t=LG->dB Q (ps.toList.map (·.2))->aX Q (.buildSlice t n ps)
 | load {t:LZ} {x:MS}:aQ Q x->aX Q (.load t x)
 | store {t:LZ} {a x:MS}:aQ Q a->aQ Q x->aX Q (.store t a x)
 | nilCheck {x:MS}:aQ Q x->aX Q (.nilCheck x)
 | arith {op:UL} {t u:LZ} {x y:MS}:sk op=LH->uE Q t=LG->aQ Q x->aQ Q y->aX Q (.binOp op t x y u)
 | eql {op:UL} {t u:LZ} {x y:MS}:sk op=LG->Cf Q t x y=LG->aQ Q x->aQ Q y->aX Q (.binOp op t x y u)
 | unOp {op:UnOp} {t:LZ} {x:MS}:aQ Q x->aX Q (.unOp op t x)
 | convert {s d:LZ} {x:MS}:Ax Q s d=LG->aQ Q x->aX Q (.convert s d x)
 | makeInterface {t:LZ} {x:MS}:aQ Q x->aX Q (.makeInterface t x)
 | makeFunc {f:Nh} {a b:LM MS}:JunkSet.okf f->dB Q a.toList->dB Q b.toList->aX Q (.makeFunc (.func f) a b)
 | makeMap {t:LZ} {r:LU MS}:dB Q r.toList->aX Q (.makeMap t r)
 | makeSlice {t:LZ} {l c:MS}:kN Q t=LG->aQ Q l->aQ Q c->aX Q (.makeSlice t l c)
 | slice {t:LZ} {x:MS} {l h m:LU MS}:aQ Q x->dB Q l.toList->dB Q h.toList->dB Q m.toList->aX Q (.slice t x l h m)
 | fieldAddr {t:LZ} {x:MS} {f:Ly}:uR Q t f=LG->aQ Q x->aX Q (.fieldAddr t x f)
 | field {t:LZ} {x:MS} {f:Ly}:aQ Q x->aX Q (.field t x f)
 | indexAddr {t:LZ} {x i:MS}:aQ Q x->aQ Q i->aX Q (.indexAddr t x i)
 | index {t:LZ} {x i:MS}:aQ Q x->aQ Q i->aX Q (.index t x i)
 | lookup {t:LZ} {x i:MS} {c:MC}:qR Q t=LG->aQ Q x->aQ Q i->aX Q (.lookup t x i c)
 | mapUpdate {t:LZ} {m k x:MS}:qR Q t=LG->aQ Q m->aQ Q k->aQ Q x->aX Q (.mapUpdate t m k x)
 | insert {t:LZ} {m k x:MS}:qR Q t=LG->aQ Q m->aQ Q k->aQ Q x->aX Q (.insert t m k x)
 | typeAssert {x:MS} {t a:LZ} {c:MC}:ij Q a=LG->aQ Q x->aX Q (.typeAssert x t a c)
 | extract {x:MS} {i:Ly}:aQ Q x->aX Q (.extract x i)
 | call {c:Call}:fR Q c->aX Q (.call c)
 | defer {c:Call}:fR Q c->aX Q (.defer c)
 | panic {x:MS}:aQ Q x->aX Q (.panic x)
section
variable[JunkSet]{Q P:LV}(H:Pair Q P){Z:Ren}{e e':MS->LA}
def jB(d:∀x,aQ Q x->VR Z (e x) (e' x)){a:LM MS}(f:dB Q a.toList):AsR Z (a.map e) (a.map e'):=by
 refine⟨by simp,λi x y b c=>?_⟩;rw[Sk] at b c;cases h:a[i]? with
 | none=>rw[h] at b;cases b
 | some o=>
  rw[h] at b c;cases b;cases c;exact d o (f o (by rw[Oy];exact NN h))
def tu(f:∀x,aQ Q x->VR Z (e x) (e' x)){a:LM (Ly × MS)}(b:dB Q (a.toList.map (·.2))) :LsR (tX Z) (a.map λ(x:Ly × MS)=>(x.1,e x.2)).toList (a.map λ(x:Ly × MS)=>(x.1,e' x.2)).toList:=by
 simp only[Array.toList_map];generalize a.toList=l at b;induction l with
 | nil=>exact .nil
 | cons p l c=>exact .cons ⟨rfl,f _ (b _ (TG ..))⟩ (c λx d=>b x (Rx _ d))
def pU(b:∀x,aQ Q x->VR Z (e x) (e' x)){o:LU MS}(a:dB Q o.toList):mC Z (o.map e) (o.map e'):=by
 cases o with
 | none=>exact .inl ⟨rfl,rfl⟩
 | some x=>exact .inr ⟨_,_,rfl,rfl,b x (a x (by simp))⟩
def ou(a:∀v,e (.const v)=v){x:MS}(h:gL x=LG):e x=.nilIface:=by
 unfold gL at h;split at h
 ·exact a _
 ·cases h
include H
theorem jq(a:∀x,aQ Q x->VR Z (e x) (e' x)){c:Call}(h:fR Q c)(t:LZ):SR Q P fM (resolve e c t) Z (resolve e' c t):=by
 cases h with
 | value g b=>exact lW H (a _ g) (jB a b)
 | invoke d f b=>exact aj (.mk (.meth _ f) ((AsR.one (a _ d)).append (jB a b)))
 | builtin i b=>exact aj (.mk (.builtin _ _ _ _ i) (jB a b))
def Eu:Op->MC
 | .mapUpdate .. | .insert ..=>LG
 | _=>LH
theorem sZ(g:∀x,aQ Q x->VR Z (e x) (e' x))(r:Gl P Z)(Y:Inj Z)(B:∀v,e (.const v)=v){o:NB}(M:aX Q o.op)(A:Eu o.op=LH):SR Q P cQ (OZ e o) Z (OZ e' o):=by
 have T:=H.tables;obtain⟨V,R,X,N,after,guard⟩:=o;dsimp only at M A;cases M with
 | move h=>exact aj (.value (g _ h))
 | assign h=>exact aj (.value (g _ h))
 | pick j i q=>
  refine .bndE (AX (g _ j)) λO b l=>?_;refine aj (.value ?_);cases b with
  | true=>exact(g _ i).mono l
  | false=>exact(g _ q).mono l
 | alloc h=>exact eA H (Dy T h)
 | box h=>exact eA H (II _ (g _ h))
 | build j i=>exact eA H (Dv T j (tu g i))
 | buildSlice j i=>exact eA H (sh T j _ (tu g i))
 | load h=>exact eA H (AW T _ (g _ h))
 | store j i=>exact KQ H (yx T _ (g _ j) (g _ i))
 | @nilCheck x h=>
  have D:=g _ h;unfold OZ;dsimp only;generalize e x=v at D ⊢;generalize e' x=v' at D ⊢;have k:SR Q P cQ (pure (.value v)) Z (pure (.value v')):=aj (.value D);cases D with
  | ptrNil=>exact aG T r .nilDeref
  | nilIface=>exact aG T r .nilDeref
  | nilFunc=>exact aG T r .nilDeref
  | func U j i q s=>
   cases U with
   | func f S=>exact k
   | yield hb=>exact k
  | wild _ h=>cases v'<;>first | exact k | (cases h;done) | (rename_i p;cases p<;>first | exact k | (cases h;done)) | (rename_i p _ _;cases p<;>first | exact k | (cases h;done))
  | meth n a c=>exact .bad (Cv H)
  | _=>exact k
 | arith j i q s=>
  refine eA H (.bnd (qy T (λh=>by rw[j] at h;cases h) (g _ q) (g _ s) ?_ ?_ ?_) λO _ _ l _=>Dx T j i ((g _ q).mono l) ((g _ s).mono l) (r.mono l))
  ·exact λz=>ou B z
  ·exact λz=>ou B z
  ·exact λh=>by rw[j] at h;cases h
 | @eql R t u x y j i q s=>
  have I:∀a b,Q.underlying t≠Lq (.chan a b):=by
   unfold Cf at i;simp only[OH,Mg] at i;rcases i with i | ⟨_,C⟩
   ·exact eI i
   ·intro a b e;rw[e] at C;cases C
  by_cases L:e x=.chan Lw\/e y=.chan Lw
  ·exact .bad (Bad.bind (Hr T j I L) _)
  have F:∀w,(w=e x\/w=e y)->w≠.chan Lw:=λw h e'=>L (by rcases h with rfl | rfl;exact .inl e';exact .inr e');refine eA H (.bnd (qy T (λ_=>i) (g _ q) (g _ s) (λz=>ou B z) (λz=>ou B z) (λ_=>F)) λO _ _ l _=>?_);unfold Cf at i;simp only[OH,Mg] at i;rcases i with i | ⟨i,C⟩
  ·exact IE T j i ((g _ q).mono l) ((g _ s).mono l) (r.mono l)
  ·refine Dt T j ?_ ((g _ q).mono l) ((g _ s).mono l) (i.imp (ou B) (ou B));split at C
   ·exact⟨_,‹_›⟩
   ·cases C
 | unOp h=>exact eA H (Dl T (g _ h))
 | convert j i=>exact eA H (yF T j (g _ i))
 | makeInterface h=>exact eA H (nS T _ (g _ h))
 | makeFunc j i q=>exact aj (.value (.func (.func _ j) (jB g i).1 (jB g i).2 (jB g q).1 (jB g q).2))
 | makeMap h=>exact eA H (yB T _ (pU g h))
 | makeSlice j i q=>exact eA H (uu T r j (g _ i) (g _ q))
 | slice j i q s=>exact eA H (yy T r _ (g _ j) (pU g i) (pU g q) (pU g s))
 | fieldAddr j i=>exact eA H (yD T j (g _ i))
 | field h=>exact eA H (Ds T _ (g _ h) _)
 | indexAddr j i=>exact eA H (yC T r _ (g _ j) (g _ i))
 | index j i=>exact eA H (Dr T r _ (g _ j) (g _ i))
 | lookup j i q=>exact eA H (AV T r j _ (g _ i) (g _ q))
 | mapUpdate j i q s=>cases A
 | insert j i q s=>cases A
 | typeAssert j i=>exact eA H (sd T r j _ (g _ i))
 | extract h=>exact eA H (yE (g _ h) _)
 | call h=>exact .bnd (jq H g h _) λO d W l G=>iQ H (r.mono l) G
 | defer h=>exact .bnd (jq H g h _) λO d W l G=>aj (.defer G)
 | panic h=>exact eA H (qm H r (g _ h))
end
end
section
inductive aI [JunkSet] (Q:LV):Og->Prop
 | skip:aI Q .skip
 | region {id:Ly} {ops:LM NB} {d:MC}:(∀o∈ops.toList,aX Q o.op)->aI Q (.region id ops d)
 | seq {a b:Og}:aI Q a->aI Q b->aI Q (.seq a b)
 | cond {c:MS} {a b:Og}:aQ Q c->aI Q a->aI Q b->aI Q (.cond c a b)
 | block {id:Ly} {c:Og}:aI Q c->aI Q (.block id c)
 | loop {c:Og}:aI Q c->aI Q (.loop c)
 | rangeFunc {f:MS} {ps:LM Tmp} {a c:Og}:aQ Q f->aI Q a->aI Q c->aI Q (.rangeFunc f ps a c)
 | exit (id:Ly):aI Q (.exit id)
 | scope {c:Og}:aI Q c->aI Q (.scope c)
 | label (l:Ly):aI Q (.label l)
 | goto (l:Ly):aI Q (.goto l)
 | ret:aI Q .ret
inductive bJ [JunkSet] (Q:LV) (Z:Ren):PW->PW->Prop
 | code {c:Og}:aI Q c->bJ Q Z (.code c) (.code c)
 | inBlock (id:Ly):bJ Q Z (.inBlock id) (.inBlock id)
 | inLoop {c:Og}:aI Q c->bJ Q Z (.inLoop c) (.inLoop c)
 | inScope {c:Og}:aI Q c->bJ Q Z (.inScope c) (.inScope c)
 | inRegion {ops:LM NB} (l:Lx Ly):(∀o∈ops.toList,aX Q o.op)->bJ Q Z (.inRegion ops l) (.inRegion ops l)
 | inRangeFunc {l l':Ly}:BR Z l l'->bJ Q Z (.inRangeFunc l) (.inRangeFunc l')
 | endRangeFunc {l l':Ly}:BR Z l l'->bJ Q Z (.endRangeFunc l) (.endRangeFunc l')
 | beginRound:bJ Q Z .beginRound .beginRound
structure nI[JunkSet](Z:Ren)(a b:QU):Prop where
 v:VR Z a.v b.v
 rcv:b.recovered=a.recovered
 goexit:b.goexit=a.goexit
inductive gZ [JunkSet] (Z:Ren):FrameMode->FrameMode->Prop
 | run:gZ Z .run .run
 | returning:gZ Z .returning .returning
 | panicking {l l':Lx QU}:LsR (nI Z) l l'->gZ Z (.panicking l) (.panicking l')
def OBR(Z:Ren)(a b:LU Ly):Prop:=(a=Lw/\b=Lw)\/∃i j,a=Lq i/\b=Lq j/\BR Z i j
structure aF[JunkSet](Q P:LV)(Z:Ren)(f f':LW):Prop where
 fn:f'.fn=f.fn
 same:∃g,Q.funcs[f.fn]?=Lq g/\P.funcs[f.fn]?=Lq g
 okf:Q.inits.idxOf? f.fn=Lw
 tmps:AsR Z f.tmps f'.tmps
 todo:LsR (bJ Q Z) f.todo f'.todo
 defers:LsR (fM Z) f.defers f'.defers
 mode:gZ Z f.mode f'.mode
 kind:f'.kind=f.kind
 round:OBR Z f.roundOf f'.roundOf
section
variable[JunkSet]{Q P:LV}{Z O:Ren}
def bJ.mono(l:Le Z O){a b:PW}(h:bJ Q Z a b):bJ Q O a b:=by
 cases h with
 | code h=>exact .code h
 | inBlock id=>exact .inBlock id
 | inLoop h=>exact .inLoop h
 | inScope h=>exact .inScope h
 | inRegion l h=>exact .inRegion l h
 | inRangeFunc h=>exact .inRangeFunc (h.mono l)
 | endRangeFunc h=>exact .endRangeFunc (h.mono l)
 | beginRound=>exact .beginRound
def nI.mono(l:Le Z O){a b:QU}(h:nI Z a b):nI O a b:=⟨h.v.mono l,h.rcv,h.goexit⟩
def gZ.mono(l:Le Z O){a b:FrameMode}(h:gZ Z a b):gZ O a b:=by
 cases h with
 | run=>exact .run
 | returning=>exact .returning
 | panicking h=>exact .panicking (h.imp λ_ _ k=>k.mono l)
def OBR.mono(l:Le Z O){a b:LU Ly}(h:OBR Z a b):OBR O a b:=h.imp id λ⟨i,j,e,d,c⟩=>⟨i,j,e,d,c.mono l⟩
def aF.mono(l:Le Z O){f a:LW}(h:aF Q P Z f a):aF Q P O f a :=
 ⟨h.fn,h.same,h.okf,h.tmps.mono l,h.todo.imp λ_ _ k=>k.mono l,h.defers.imp λ_ _ k=>k.mono l,h.mode.mono l,h.kind,h.round.mono l⟩
structure hU[JunkSet](Q P:LV)(Z:Ren)(g g':LD):Prop where
 frame:aF Q P Z g.frame g'.frame
 callers:LsR (aF Q P Z) g.callers g'.callers
 st:g.status=.running
 st':g'.status=.running
 dy:g.dying=Lw
 dy':g'.dying=Lw
def gz(Z:Ren):VR Z LI undef:=AsR.tuple .nil
def aF.eval(e:Gl P Z)(k:P.globals.size=Q.globals.size){f b:LW}(h:aF Q P Z f b){x:MS}(a:aQ Q x):VR Z (f.eval x) (b.eval x):=by
 cases a with
 | tmp t=>exact h.tmps.getD t (gz Z)
 | const c=>exact c.vr Z
 | @global g j=>exact .ptr 0 Lw (e g (by omega))
 | func d=>exact .func (.func _ d) rfl (λi x y a=>by simp at a) rfl (λi x y a=>by simp at a)
def aF.finish{f f':LW}(h:aF Q P Z f f'){v n:LA}(x:VR Z v n):aF Q P Z (f.finish v) (f'.finish n):=by
 obtain⟨B,p,o,c,q,r,A⟩:=f;obtain⟨z,e,d,b,g,j,t⟩:=f';have s:=h.todo;dsimp only at s;unfold Un;dsimp only;cases s with
 | nil=>exact h
 | cons w k=>
  cases w with
  | @inRegion u l a=>
   cases l with
   | nil=>exact h
   | cons i l=>
    dsimp only;refine⟨h.fn,h.same,h.okf,?_,.cons (.inRegion l a) k,h.defers,h.mode,h.kind,h.round⟩;dsimp only;split
    ·exact h.tmps.set _ x
    ·exact h.tmps
  | inRangeFunc y=>exact⟨h.fn,h.same,h.okf,h.tmps,.cons (.endRangeFunc y) k,h.defers,h.mode,h.kind,h.round⟩
  | beginRound=>exact⟨h.fn,h.same,h.okf,h.tmps,k,h.defers,h.mode,h.kind,h.round⟩
  | _=>exact h
def aF.raise{f j:LW}(h:aF Q P Z f j){l p:Lx QU}(i:LsR (nI Z) l p):aF Q P Z (f.raise l) (j.raise p):=by
 obtain⟨v,n,k,b,o,q,u⟩:=f;obtain⟨t,d,c,a,e,g,r⟩:=j;have hm:=h.mode;dsimp only at hm;unfold UN;cases hm with
 | run=>exact⟨h.fn,h.same,h.okf,h.tmps,h.todo,h.defers,.panicking i,h.kind,h.round⟩
 | returning=>exact⟨h.fn,h.same,h.okf,h.tmps,h.todo,h.defers,.panicking i,h.kind,h.round⟩
 | panicking s=>exact⟨h.fn,h.same,h.okf,h.tmps,h.todo,h.defers,.panicking (i.append s),h.kind,h.round⟩
def zy{id:Ly}:∀{l a:Lx PW},LsR (bJ Q Z) l a->(Rz id l=Lw/\Rz id a=Lw)\/∃k b,Rz id l=Lq k/\Rz id a=Lq b/\LsR (bJ Q Z) k b:=by
 intro l a h;induction h with
 | nil=>exact .inl ⟨rfl,rfl⟩
 | cons d e c=>
  cases d with
  | inBlock j=>
   simp only[Rz];split
   ·exact .inr ⟨_,_,rfl,rfl,e⟩
   ·exact c
  | _=>exact c
def uQ{l:Ly}:∀{c r:Og},aI Q c->findLabel c l=Lq r->aI Q r:=by
 intro c;induction c with
 | seq a b g f=>
  intro r h d;cases h with
  | seq n k=>
   simp only[findLabel] at d;split at d
   ·rename_i i e
    cases d;exact .seq (g n e) k
   ·exact f k d
 | label j=>
  intro r h d;simp only[findLabel] at d;split at d
  ·cases d;exact .skip
  ·cases d
 | _=>intro r h d;cases d
def zo{j:Ly}:∀{l a:Lx PW},LsR (bJ Q Z) l a->(Sl j l=Lw/\Sl j a=Lw)\/∃k b,Sl j l=Lq k/\Sl j a=Lq b/\LsR (bJ Q Z) k b:=by
 intro l a h;induction h with
 | nil=>exact .inl ⟨rfl,rfl⟩
 | cons f g d=>
  cases f with
  | @inScope c e=>
   simp only[Sl];cases hf:findLabel c j with
   | none=>exact d
   | some r=>exact .inr ⟨_,_,rfl,rfl,.cons (.code (uQ e hf)) (.cons (.inScope e) g)⟩
  | _=>exact d
def yd(a:LM NB){t c:LM LA}(h:AsR Z t c)(j:Ly):Od a c j=Od a t j:=by
 unfold Od;cases((a[j]?).bind (·.dst)) with
 | none=>rfl
 | some d=>
  simp only[RK];cases ht:t[d]? with
  | none=>rw[h.get_none ht]
  | some v=>
   have⟨e,b,f⟩:=h.get ht;rw[b];cases f<;>first | rfl | (rename_i h;cases e<;>first | rfl | cases h)
def gH(P:LV)(i:Nh)(d:LM Ns):∀e∈seen P i d,e∈d:=by
 have g:∀(l:Lx Ns) (x:MC × LM Ns) (all:Lx Ns),(∀e∈x.2,e∈all)->(∀e∈l,e∈all) ->
   ∀e∈(l.foldl (λ(y:MC × LM Ns) (e:Ns)=>match e.loc with
    | .mark (.extern f)=>((P.funcs[f]?).any (·.norace),y.2)
    | _=>(y.1,if y.1 && !e.sync then y.2 else y.2.push e)) x).2,e∈all:=by
  intro l;induction l with
  | nil=>intro x all c _;exact c
  | cons a l j=>
   intro x all c h;rw[OI];refine j _ all ?_ λe b=>h e (Rx _ b);intro e b;split at b
   ·exact c e b
   ·dsimp only at b;split at b
    ·exact c e b
    ·rcases Array.mem_push.1 b with b | rfl
     ·exact c e b
     ·exact h _ (TG ..)
 intro e b;have:=g d.toList ((P.funcs[i]?).any (·.norace),#[]) d.toList (by simp) (λe b=>b) e;rw[Oy] at this;apply this;unfold seen at b;dsimp only at b;rw[<- Sj] at b;exact b
end
end
section
section
variable[JunkSet]{Q P:LV}{Z:Ren}{Y M:Type}{R:Rel Y M}
def SM(Q P:LV)[JunkSet]{Y M:Type}(R:Rel Y M)(s:Ps Y)(Z:Ren)(d:Ps M):Prop :=
 ∀{base D:Ly} {wq w:Lt},base<=Z.length->WR Q base Z wq w->bY D wq w->(rwR (s.run Q wq)).drawn<=D->ji (s.run Q wq) ->
  ∃O a c b,zM R O (s.run Q wq) a (d.run P w) c/\d.events P w #[]=b/\(∀e∈b,ig base O e)/\WR Q base O a c/\Eff base Z O w c
def SR.sm{s:Ps Y}{c:Ps M}(h:SR Q P R s Z c):SM Q P R s Z c:=λj e f i g=>by
 have⟨O,b,d,a,p,o,n,l,_,k,_⟩:=SR.runs (es:=#[]) h j e f i g;exact⟨O,b,d,a,p,by show(c.runT P _ #[]).2=a;rw[o];simp,n,l,k⟩
def wk:NU:=.extern "map.whichKeyStays" 2
def KV(kt:LZ)(k v:LA)(r:Ly)(c:LM Pv)(a:Ly)(b:Ly->Ps LA):Ps Unit:=do
 PV LH 10000 kt k
 match <- QG kt k c.toList with
 | some (i,_)=>do
  let key <- b i
  setObj r (.map (c.modify i λe=>{ e with key,val:=v }) a)
 | none=>setObj r (.map (c.push { key:=k,val:=v,born:=a }) (a+1))
def bB(a:LM Pv)(i:Ly)(k:LA):LA:=((a[i]?).map (·.key)).getD k
def gN(kt:LZ)(k:LA)(a:LM Pv):Ps (LU (Ly × LA)):=do
 PV LH 10000 kt k
 QG kt k a.toList
def dR(k v:LA)(r:Ly)(c:LM Pv)(a:Ly)(b:Ly->Ps LA):LU (Ly × LA)->Ps Unit
 | some (i,_)=>do
  let key <- b i
  setObj r (.map (c.modify i λe=>{ e with key,val:=v }) a)
 | none=>setObj r (.map (c.push { key:=k,val:=v,born:=a }) (a+1))
def fy{t:LZ}{k v:LA}{w:Lt}{kt g:LZ}(j:P.underlying t=Lq (.map kt g)){r:Ly}{b:LM Pv}{a:Ly}(l:w.heap[r]?=Lq (.map b a)) :(NI t (.map (Lq r)) k v).run P w=(gN kt k b>>=dR k v r b a (λi=>Nn (bB b i k) k)).run P w /\(NI t (.map (Lq r)) k v).events P w #[]=(gN kt k b>>=dR k v r b a (λi=>Nn (bB b i k) k)).events P w #[⟨.obj r,LH,LH⟩]:=by
 have e:NI t (.map (Lq r)) k v=(Pp t).bind λd=>(match d with
   | .map kt _=>(getObj r).bind λo=>(match o with
    | .map b a=>(gN kt k b>>=dR k v r b a (λi=>Nn (bB b i k) k))
    | _=>stuck "MapUpdate: map expected")
   | _=>stuck "MapUpdate: map type expected"):=by
  unfold NI;show(Pp t).bind _=_
  congr 1
  funext d
  cases d<;>try rfl
  show(getObj r).bind _=(getObj r).bind _
  congr 1
  funext o
  cases o<;>try rfl
  exact(Sem.bind_assoc' _ _ _).symm
 have h:∀b,(Pp t).runT P w b=(.ok (.map kt g) w,b):=λb=>by
  show(match P.underlying t with | some i=>(pure i:Ps Tm) | none=>stuck "no such type").runT P w b=_;rw[j];rfl
 have n:∀c,(getObj r).runT P w c=(.ok (.map b a) w,c.push ⟨.obj r,LH,LH⟩):=λc=>by
  simp only[getObj,QK,l];rfl
 have f:∀c,(NI t (.map (Lq r)) k v).runT P w c=(gN kt k b>>=dR k v r b a (λi=>Nn (bB b i k) k)).runT P w (c.push ⟨.obj r,LH,LH⟩):=λc=>by
  rw[e,WX,h];dsimp only;rw[WX,n]
 refine⟨?_,?_⟩
 ·rw[<- Sem.runT_fst P _ w #[],f,Sem.runT_fst]
 ·show((NI t (.map (Lq r)) k v).runT P w #[]).2=_;rw[f];rfl
omit [JunkSet] in
def Ik(a b:ByteArray)(h:(a == b)=LG):a=b:=by
 obtain⟨a⟩:=a;obtain⟨b⟩:=b;have c:(a == b)=LG:=h;rw[eq_of_beq c]
omit [JunkSet] in
def AA:∀(n:Ly) {x y:LA},OJ n x y=LG->x=y:=by
 intro n;induction n with
 | zero=>
  intro x y h;cases x<;>cases y<;>first | (cases h;done) | rfl | (rw[Ik _ _ h];done) | (simp only[OJ,Mg,beq_iff_eq] at h;simp[h];done) | (simp only[OJ,Mg,beq_iff_eq] at h;obtain⟨d,c⟩:=h;subst d c;rfl)
 | succ n e=>
  intro x y h;cases x<;>cases y<;>first | (cases h;done) | rfl | (rw[Ik _ _ h];done) | skip
  all_goals simp only[OJ,Mg,beq_iff_eq] at h
  case agg.agg a b=>
   obtain⟨d,c⟩:=h
   congr 1
   refine Array.ext d λi g f=>?_;rw[MD] at c;have:(a[i],b[i])∈a.toList.zip b.toList:=by
    rw[List.mem_iff_getElem];refine⟨i,by simp;omega,by simp⟩
   exact e (c _ this)
  case iface.iface t v u w=>
   rw[h.1,e h.2]
  all_goals first | (simp[h];done) | (obtain⟨d,c⟩:=h;subst d c;rfl) | (obtain⟨⟨d,c⟩,j⟩:=h;subst d c j;rfl)
def gI(s:MC)(c:Ly)(b a:LA):Ps LA :=
 if s then pure (if OJ 10000 b a then a else if c=0 then a else b)
 else choose wk>>=λn=>pure (if OJ 10000 b a then a else if n=0 then a else b)
def FX{x e y d:LA}(f:VR Z x e)(c:VR Z y d)(g:Ly):SR Q P VR (Nn x y) Z (gI (OJ 10000 x y) g e d):=by
 unfold Nn gI;by_cases b:OJ 10000 x y=LG
 ·rw[if_pos b,if_pos b];refine aj ?_;split
  ·exact c
  ·split
   ·exact c
   ·rw[<- AA _ b];exact f
 ·rw[if_neg b,if_neg b];refine .bndE iR λO n l=>?_;refine aj ?_;by_cases a:OJ 10000 e d=LG
  ·rw[if_pos a];split
   ·exact c.mono l
   ·rw[<- AA _ a];exact f.mono l
  ·rw[if_neg a];split
   ·exact c.mono l
   ·exact f.mono l
def But(d:Ly):Qq Y->Qq Y
 | .ok a u=>.ok a { u with drawn:=d }
 | .halt h u=>.halt h { u with drawn:=d }
omit [JunkSet] in
def rL(r:Qq Y):But (rwR r).drawn r=r:=by cases r<;>rfl
omit [JunkSet] in
def qC(r:Ly)(o:SQ)(u:Lt)(d:Ly):(setObj r o).run P { u with drawn:=d }=But d ((setObj r o).run P u)/\∀a,(setObj r o).events P { u with drawn:=d } a=(setObj r o).events P u a:=by
 have e:setObj r o=WO r o (.pure ()):=rfl;rw[e];refine⟨?_,λa=>?_⟩
 ·simp only[Nm];show(match u.heap[r]? with | some (.cells ..)=>_ | some _=>_ | none=>_)=But d (match u.heap[r]? with | some (.cells ..)=>_ | some _=>_ | none=>_);cases u.heap[r]? with
  | none=>rfl
  | some x=>cases x<;>rfl
 ·unfold Sem.events;simp only[QK];cases hh:u.heap[r]? with
  | none=>rfl
  | some x=>cases x<;>rfl
omit [JunkSet] in
def DW{k v:LA}{r:Ly}{es:LM Pv}{clock:Ly}{s:Ly->MC}{u:Lt}(x:LU (Ly × LA)) :∃d,(dR k v r es clock (λi=>Nn (bB es i k) k) x).run P u=But d ((dR k v r es clock (λi=>gI (s i) (wk.cut (u.tape u.drawn wk)) (bB es i k) k) x).run P u) /\∀a,(dR k v r es clock (λi=>Nn (bB es i k) k) x).events P u a=(dR k v r es clock (λi=>gI (s i) (wk.cut (u.tape u.drawn wk)) (bB es i k) k) x).events P u a:=by
 cases x with
 | none=>exact⟨_,(rL _).symm,λ_=>rfl⟩
 | some x=>
  obtain⟨i,y⟩:=x;simp only[dR,NF,Rd];have b:(choose wk).run P u=.ok (wk.cut (u.tape u.drawn wk)) { u with drawn:=u.drawn+1 }:=rfl;have h:∀a,(choose wk).events P u a=a:=λa=>rfl;by_cases c:OJ 10000 (bB es i k) k=LG
  ·have l:(Nn (bB es i k) k).run P u=.ok k u:=by unfold Nn;rw[if_pos c];rfl
   have j:∀a,(Nn (bB es i k) k).events P u a=a:=λa=>by unfold Nn;rw[if_pos c];rfl
   rw[l];simp only[j];cases hs:s i with
   | true=>
    have g:(gI LG (wk.cut (u.tape u.drawn wk)) (bB es i k) k).run P u=.ok k u:=by unfold gI;rw[if_pos rfl,if_pos c];rfl
    have f:∀a,(gI LG (wk.cut (u.tape u.drawn wk)) (bB es i k) k).events P u a=a:=λa=>by unfold gI;rw[if_pos rfl];rfl
    rw[g];refine⟨_,(rL _).symm,λa=>?_⟩;rw[f]
   | false=>
    have g:(gI LH (wk.cut (u.tape u.drawn wk)) (bB es i k) k).run P u=.ok k { u with drawn:=u.drawn+1 }:=by
     unfold gI;rw[if_neg (by simp),NF,b];simp only[NC,if_pos c];rfl
    have f:∀a,(gI LH (wk.cut (u.tape u.drawn wk)) (bB es i k) k).events P u a=a:=λa=>by
     unfold gI;rw[if_neg (by simp),Rd,b,h];rfl
    rw[g];simp only[f,NC,Ue];have:=qC (P:=P) r (.map (es.modify i λe=>{ e with key:=k,val:=v }) clock) { u with drawn:=u.drawn+1 } u.drawn;exact⟨u.drawn,this.1,λa=>this.2 a⟩
  ·have l:(Nn (bB es i k) k).run P u=.ok (if wk.cut (u.tape u.drawn wk)=0 then k else bB es i k) { u with drawn:=u.drawn+1 }:=by
    unfold Nn;rw[if_neg c,NF];show((choose wk).run P u).andThen _=_;rw[b];rfl
   have j:∀a,(Nn (bB es i k) k).events P u a=a:=λa=>by
    unfold Nn;rw[if_neg c,Rd];show((choose wk).run P u).evThen _ _=_;rw[b,show(choose (.extern "map.whichKeyStays" 2)).events P u a=a from rfl];rfl
   rw[l];simp only[j];cases hs:s i with
   | true=>
    have g:(gI LG (wk.cut (u.tape u.drawn wk)) (bB es i k) k).run P u=.ok (if wk.cut (u.tape u.drawn wk)=0 then k else bB es i k) u:=by unfold gI;rw[if_pos rfl,if_neg c];rfl
    have f:∀a,(gI LG (wk.cut (u.tape u.drawn wk)) (bB es i k) k).events P u a=a:=λa=>by unfold gI;rw[if_pos rfl];rfl
    rw[g];simp only[f,NC,Ue];have:=qC (P:=P) r (.map (es.modify i λe=>{ e with key:=if wk.cut (u.tape u.drawn wk)=0 then k else bB es i k,val:=v }) clock) u (u.drawn+1);exact⟨u.drawn+1,this.1,λa=>this.2 a⟩
   | false=>
    have g:(gI LH (wk.cut (u.tape u.drawn wk)) (bB es i k) k).run P u=.ok (if wk.cut (u.tape u.drawn wk)=0 then k else bB es i k) { u with drawn:=u.drawn+1 }:=by
     unfold gI;rw[if_neg (by simp),NF,b];simp only[NC,if_neg c];rfl
    have f:∀a,(gI LH (wk.cut (u.tape u.drawn wk)) (bB es i k) k).events P u a=a:=λa=>by
     unfold gI;rw[if_neg (by simp),Rd,b,h];rfl
    rw[g];refine⟨_,(rL _).symm,λa=>?_⟩;rw[f]
def sX(I:P.toTables=Q.toTables)(V:Gl P Z){kt:LZ}(L:eqB Q 6 kt=LG){k g v B:LA}(q:VR Z k g)(F:VR Z v B){r j:Ly}(H:BR Z r j){l c:LM Pv}(G:LsR (gh Z) l.toList c.toList)(d C:Ly) :SR Q P (λ_ _ _=>Ro) (gN kt k l>>=dR k v r l d (λi=>Nn (bB l i k) k)) Z (gN kt g c>>=dR g B j c d (λi=>gI (OJ 10000 (bB l i k) k) C (bB c i g) g)):=by
 have n:SR Q P vx (gN kt k l) Z (gN kt g c) :=
  .bnd (oQ I _ 6 _ L q) λU _ _ t _=>qx I L (q.mono t) (V.mono t) (G.imp λ_ _ x=>x.mono t)
 refine .bnd n λX x x' f S=>?_;have h:=G.imp λ_ _ x=>gh.mono f x;rcases S with⟨rfl,rfl⟩ | ⟨i,y,W,rfl,rfl,O⟩
 ·refine dV (H.mono f) (.map _ ?_);simp only[Array.toList_push];exact h.append (.cons ⟨q.mono f,F.mono f,rfl⟩ .nil)
 ·have o:VR X (bB l i k) (bB c i g):=by
   have:=h.get i;simp only[Qu] at this;unfold bB;rcases this with⟨A,z⟩ | ⟨a,b,A,z,w⟩
   ·rw[A,z];exact q.mono f
   ·rw[A,z];exact w.key
  refine .bnd (FX o (q.mono f) C) λT N D s p=>?_;exact dV (H.mono (f.trans s)) (.map _ (xH (h.imp λ_ _ x=>x.mono s) i λe e' u=>⟨p,F.mono (f.trans s),u.born⟩))
def wR(F:P.toTables=Q.toTables)(N:Gl P Z){t:LZ}{base:Ly}{a w:Lt}(H:WR Q base Z a w){m C k k' v v':LA}(hm:VR Z m C)(u:ji ((NI t m k v).run Q a)) :SR Q P (λ_ _ _=>Ro) (NI t m k v) Z (NI t C k' v') \/∃r j kt n f p b,m=.map (Lq r)/\C=.map (Lq j)/\BR Z r j/\Q.underlying t=Lq (.map kt n)/\a.heap[r]?=Lq (.map f b)/\w.heap[j]?=Lq (.map p b)/\LsR (gh Z) f.toList p.toList:=by
 by_cases q:∃r j,m=.map (Lq r)/\C=.map (Lq j)/\BR Z r j
 ·obtain⟨r,j,rfl,rfl,B⟩:=q;by_cases z:∃kt n,Q.underlying t=Lq (.map kt n)
  ·obtain⟨kt,n,z⟩:=z;right;have I:r<a.heap.size:=by rw[<- H.len];exact(Md.1 B).1
   have A:∀o,a.heap[r]?=Lq o->(∀f c,o≠.map f c)->PC:=λo x D=>by
    have T:(Pp t).run Q a=.ok (.map kt n) a:=by
     show(match Q.underlying t with | some i=>(pure i:Ps Tm) | none=>stuck "no such type").run Q a=_;rw[z];rfl
    unfold NI at u;rw[NF,T] at u;simp only[NC,NF] at u;have g:(getObj r).run Q a=.ok o a\/∃s,(getObj r).run Q a=.halt (.stuck s) a:=by
     simp only[getObj,Nm,x];cases o<;>first | exact .inl rfl | exact .inr ⟨_,rfl⟩
    rcases g with g | ⟨s,g⟩
    ·rw[g] at u;simp only[NC] at u;cases o<;>first | exact D _ _ rfl | exact absurd u (by intro h;cases h)
    ·rw[g] at u;exact absurd u (by intro h;cases h)
   cases x:a.heap[r]? with
   | none=>rw[TF] at x;omega
   | some o=>
    by_cases D:∃f c,o=.map f c
    ·obtain⟨f,c,rfl⟩:=D;rcases H.obj r j _ B x with⟨_,g,_⟩ | ⟨_,U,g,S⟩
     ·cases g
     ·cases S with
      | @map _ p _ L=>exact⟨r,j,kt,n,f,p,c,rfl,rfl,B,z,x,g,L⟩
    ·exact(A o x λf c e=>D ⟨f,c,e⟩).elim
  ·left;refine .bnd (bf F t) λO d G l y=>?_;obtain⟨rfl,y⟩:=y;cases G with
   | map kt n=>exact absurd ⟨kt,n,y⟩ z
   | _=>exact au
 ·left;refine .bnd (bf F t) λO d G l y=>?_;obtain⟨rfl,y⟩:=y;cases G with
  | map kt n=>
   cases hm with
   | mapNil=>exact aG F (N.mono l) _
   | map B=>exact absurd ⟨_,_,rfl,rfl,B⟩ q
   | _=>exact au
  | _=>exact au
def wV{t kt c:LZ}(a:qR Q t=LG)(b:Q.underlying t=Lq (.map kt c)):eqB Q 6 kt=LG:=by
 unfold qR at a;rw[b] at a;simp only[Mg] at a;exact a.1
def mO(U:P.toTables=Q.toTables)(hG:Gl P Z){t:LZ}(hB:qR Q t=LG){m W k b v l:LA}(hm:VR Z m W)(hk:VR Z k b)(hv:VR Z v l) :SM Q P (λ_ _ _=>Ro) (NI t m k v) Z (NI t W b l):=by
 intro base D wq w hb C X T F;rcases wR U hG C hm F with h | ⟨r,j,kt,et,es,a,clock,rfl,rfl,A,I,hq,hp,n⟩
 ·exact h.sm hb C X T F
 ·have H:P.underlying t=Lq (.map kt et):=by rw[gy U];exact I
  have⟨r1,_⟩:=fy (P:=Q) (t:=t) (k:=k) (v:=v) I hq;have⟨r2,e2⟩:=fy (P:=P) (t:=t) (k:=b) (v:=l) H hp;rw[r1] at T F ⊢;rw[r2,e2]
  let B:Ly:=match (gN kt b a).run P w with | .ok _ u=>wk.cut (u.tape u.drawn wk) | .halt _ _=>0
  have⟨O,G,w1,ev,V,h2,h3,o,_,g,_⟩:=SR.runs (es:=#[⟨.obj j,LH,LH⟩]) (sX U hG (wV hB I) hk hv A n clock B) hb C X T F;have p:∃d,(gN kt b a>>=dR b l j a clock (λi=>Nn (bB a i b) b)).run P w=But d ((gN kt b a>>=dR b l j a clock (λi=>gI (OJ 10000 (bB es i k) k) B (bB a i b) b)).run P w) /\
    ∀q,(gN kt b a>>=dR b l j a clock (λi=>Nn (bB a i b) b)).events P w q=(gN kt b a>>=dR b l j a clock (λi=>gI (OJ 10000 (bB es i k) k) B (bB a i b) b)).events P w q:=by
   simp only[NF,Rd];have z:B=match (gN kt b a).run P w with | .ok _ u=>wk.cut (u.tape u.drawn wk) | .halt _ _=>0:=rfl
   generalize (gN kt b a).run P w=res at z;cases res with
   | ok x u=>
    simp only[NC,Ue];rw[z];have⟨d,g1,g2⟩:=DW (P:=P) (k:=b) (v:=l) (r:=j) (es:=a) (clock:=clock) (s:=λi=>OJ 10000 (bB es i k) k) (u:=u) x;exact⟨d,g1,λq=>g2 _⟩
   | halt x u=>exact⟨u.drawn,rfl,λ_=>rfl⟩
  obtain⟨d,N,L⟩:=p;rw[N,L];refine⟨O,G,{ w1 with drawn:=d },#[⟨.obj j,LH,LH⟩]++ev,?_,by unfold Sem.events;exact h2,?_,?_,?_⟩
  ·generalize Nm Q _ wq=x at V;generalize Nm P _ w=y at V;cases V with
   | ok _ _ h=>exact .ok _ _ h
   | panic _ _ h=>exact .panic _ _ h
  ·intro e n;rcases Pj.1 n with n | n
   ·simp only[Pl,Nl] at n;subst n;refine .obj LH (A.mono g.le) (Wq λS=>?_);have⟨c,e,f,h6,_⟩:=C.low r S;rw[hq] at h6;cases h6
   ·exact h3 e n
  ·exact⟨o.len,o.nodup,o.lt,o.obj,o.low,o.env,o.below,o.gar⟩
  ·exact⟨g.le,g.tape,g.os,g.output,g.size,g.keep,g.fresh,g.mine⟩
def SM.u{s i:Ps Unit}(h:SM Q P (λ_ _ _=>Ro) s Z i):SM Q P cQ (do s;pure .skip) Z (do i;pure .skip):=by
 intro base D a w o l n f d;have j:∀(p:LV) (x:Ps Unit) (u:Lt),((do x;pure Next.skip:Ps Qz)).run p u=match x.run p u with | .ok _ u'=>.ok .skip u' | .halt h u'=>.halt h u':=λp x u=>by
  rw[NF];cases x.run p u<;>rfl
 have A:∀(p:LV) (x:Ps Unit) (u:Lt),((do x;pure Next.skip:Ps Qz)).events p u #[]=x.events p u #[]:=λp x u=>by
  rw[Rd];cases x.run p u<;>rfl
 rw[j] at f d ⊢;have e:(rwR (s.run Q a)).drawn<=D:=by cases hx:s.run Q a<;>(rw[hx] at f;exact f)
 have c:ji (s.run Q a):=by cases hx:s.run Q a<;>(rw[hx] at d;exact d)
 have⟨O,b,k,z,g,v,t,r,q⟩:=h o l n e c;refine⟨O,b,k,z,?_,by rw[A];exact v,t,r,q⟩;rw[j];generalize Nm Q _ a=x at g;generalize Nm P _ w=y at g;cases g with
 | ok _ _ h=>exact .ok _ _ .skip
 | panic _ _ h=>exact .panic _ _ h
def tf(H:Pair Q P){e i:MS->LA}(a:∀x,aQ Q x->VR Z (e x) (i x))(c:Gl P Z)(k:Inj Z)(l:∀v,e (.const v)=v){o:NB}(b:aX Q o.op):SM Q P cQ (OZ e o) Z (OZ i o):=by
 cases hmu:Eu o.op with
 | false=>exact(sZ H a c k l b hmu).sm
 | true=>
  obtain⟨n,q,p,j,after,guard⟩:=o;dsimp only at b hmu;cases b with
  | mapUpdate h g f d=>exact SM.u (mO H.tables c h (a _ g) (a _ f) (a _ d))
  | insert h g f d=>exact SM.u (mO H.tables c h (a _ g) (a _ f) (a _ d))
  | _=>cases hmu
end
end
section
structure Duo[JunkSet](Q P:LV):Prop extends Pair Q P where
 codes:∀c,JunkSet.okc c↔aI Q c
 rfr:Q.follows .rangeFuncRecover=LG
 bodies:∀f g,JunkSet.okf f->Q.funcs[f]?=Lq g->P.funcs[f]?=Lq g->∀c,g.body=Lq c->aI Q c
 inits:∀f,JunkSet.okf f->Q.inits.idxOf? f=Lw
 same:∀f,JunkSet.okg f↔(∃g,Q.funcs[f]?=Lq g/\P.funcs[f]?=Lq g)/\Q.inits.idxOf? f=Lw
def rW[JunkSet](Q P:LV)(Z:Ren)(g d:LD):Prop :=
 (Q.funcs[g.frame.fn]?=P.funcs[g.frame.fn]?/\hU Q P Z g d) \/
 ∃f k a i c h e b,Q.funcs[f]?≠P.funcs[f]?/\JunkSet.okf f/\g={ frame:=MO Q f a k,callers:=c::e,status:=.running,dying:=Lw }/\d={ frame:=MO P f i k,callers:=h::b,status:=.running,dying:=Lw } /\
  AsR Z a i/\aF Q P Z c h/\LsR (aF Q P Z) e b/\(c.mode≠.run\/∀x l,c.todo≠.code x::l)
def rW.k[JunkSet]{Q P:LV}{Z:Ren}{g a:LD}(h:hU Q P Z g a):rW Q P Z g a :=
 .inl ⟨by have⟨x,c,b⟩:=h.frame.same;rw[c,b],h⟩
def iz[JunkSet](Q P:LV)(base D:Ly)(Z:Ren)(wq w:Lt)(r h:OA):Prop :=
 ∀b a d,r=.go b a d->a.drawn<=D->b.status=.running->b.dying=Lw ->
  ∃O f c g,h=.go f c g/\rW Q P O b f/\WR Q base O a c/\Ro/\Eff base Z O w c/\(∀e∈g,ig base O e)/\Ro/\wq.drawn<=a.drawn
section
variable[JunkSet]{Q P:LV}(H:Duo Q P){Z:Ren}{base D:Ly}{wq w:Lt}
def Duo.gsize(H:Duo Q P):P.globals.size=Q.globals.size:=by rw[H.tables]
def EP(H:Duo Q P){f:Nh}(n:JunkSet.okf f)(o:Q.funcs[f]?=P.funcs[f]?){a r:LM LA}(p:AsR Z a r)(k:WY):aF Q P Z (MO Q f a k) (MO P f r k):=by
 have⟨s,h,d,b,q,_⟩:=H.funcs f n;have e:h=s:=by rw[d,b] at o;exact(OQ o).symm
 subst e;refine⟨rfl,⟨h,d,b⟩,H.inits f n,?_,?_,.nil,.run,rfl,.inl ⟨rfl,rfl⟩⟩
 ·unfold MO;dsimp only;rw[d,b,<- p.1];refine p.append ⟨rfl,λi x y g j=>?_⟩;rw[Array.getElem?_replicate] at g j;split at g
  ·rename_i l
   rw[if_pos l] at j;cases g;cases j;exact gz Z
  ·cases g
 ·unfold MO;dsimp only;rw[d,b];cases hb:h.body with
  | none=>rw[hb] at q;cases q
  | some c=>simp only[RK,hb,LQ];exact .cons (.code (H.bodies f h n d b c hb)) .nil
def enterK(H:Duo Q P){f:Nh}(j:JunkSet.okf f){a h:LM LA}(o:AsR Z a h){c g:LW}(n:aF Q P Z c g){e b:Lx LW}(d:LsR (aF Q P Z) e b)(hm:c.mode≠.run\/∀x l,c.todo≠.code x::l)(k:WY):rW Q P Z { frame:=MO Q f a k,callers:=c::e,status:=.running,dying:=Lw } { frame:=MO P f h k,callers:=g::b,status:=.running,dying:=Lw }:=by
 by_cases i:Q.funcs[f]?=P.funcs[f]?
 ·exact .k ⟨EP H j i o k,.cons n d,rfl,rfl,rfl,rfl⟩
 ·exact .inr ⟨f,k,a,h,c,g,e,b,i,j,rfl,rfl,o,n,d,hm⟩
def DO(H:Duo Q P){l c:Ly}{f:Nh}(h:∃g,Q.funcs[f]?=Lq g/\P.funcs[f]?=Lq g)(i:Q.inits.idxOf? f=Lw){t d:LM LA}{a b:Og}(n:BR Z l c)(e:AsR Z t d)(o:aI Q a)(j:aI Q b)(k:WY) :aF Q P Z (Yi l f t a b k) (Yi c f d a b k) :=
 ⟨rfl,h,i,e,.cons (.code o) (.cons .beginRound (.cons (.code j) .nil)),.nil,.run,rfl,.inr ⟨l,c,rfl,rfl,n⟩⟩
def zM.world{Y M:Type}{R:Rel Y M}{r:Qq Y}{a:Lt}{c:Qq M}{b:Lt}(h:zM R Z r a c b):rwR r=a:=by
 cases h<;>rfl
def bF(c:WR Q base Z wq w)(l:bY D wq w){g a:LD}(h:g.status=.running->g.dying=Lw->hU Q P Z g a):iz Q P base D Z wq w (.go g wq) (.go a w):=by
 intro i b j e n d f;cases e;exact⟨Z,a,w,#[],rfl,.k (h d f),c,trivial,.refl base w,by simp,trivial,LC _⟩
def cd{o:Uo}{u:Lt}{b:LM Ns}{a:OA}:iz Q P base D Z wq w (.ended o u b) a:=by
 intro _ _ _ e;cases e
def ko{f i:LW}(L:aF Q P Z f i):∀{e b:Lx LW},LsR (aF Q P Z) e b ->(Mq f e=Lw/\Mq i b=Lw)\/∃v d k j,Mq f e=Lq (v,k)/\Mq i b=Lq (d,j)/\VR Z v d/\LsR (aF Q P Z) k j:=by
 intro e b h;induction h generalizing f i with
 | nil=>exact .inl ⟨by unfold Mq;split<;>simp_all,by unfold Mq;split<;>simp_all⟩
 | @cons c x e b a q F=>
  unfold Mq;rw[L.kind];cases hk:f.kind with
  | deferred=>
   dsimp only;have hm:=a.mode;cases hmc:c.mode with
   | run=>rw[hmc] at hm;cases hm':x.mode<;>rw[hm'] at hm<;>cases hm;exact .inl ⟨rfl,rfl⟩
   | returning=>rw[hmc] at hm;cases hm':x.mode<;>rw[hm'] at hm<;>cases hm;exact .inl ⟨rfl,rfl⟩
   | panicking l=>
    rw[hmc] at hm;cases hm':x.mode with
    | run=>rw[hm'] at hm;cases hm
    | returning=>rw[hm'] at hm;cases hm
    | panicking C=>
     rw[hm'] at hm;cases hm with
     | panicking n=>
      cases n with
      | nil=>exact .inl ⟨rfl,rfl⟩
      | @cons p B l C I n=>
       obtain⟨v,r,g⟩:=p;obtain⟨d,A,M⟩:=B;obtain⟨s,z,y⟩:=I;dsimp only at s z y;subst z;subst y;cases A<;>cases M<;>first
        | exact .inl ⟨rfl,rfl⟩
        | exact .inr ⟨v,d,_,_,rfl,rfl,s,.cons ⟨a.fn,a.same,a.okf,a.tmps,a.todo,a.defers,.panicking (.cons ⟨s,rfl,rfl⟩ n),a.kind,a.round⟩ q⟩
  | wrapped=>
   dsimp only;rcases F a with⟨u,t⟩ | ⟨v,d,k,j,u,t,G,o⟩
   ·rw[u,t];exact .inl ⟨rfl,rfl⟩
   ·rw[u,t];exact .inr ⟨v,d,_,_,rfl,rfl,G,.cons a o⟩
  | _=>exact .inl ⟨rfl,rfl⟩
def bz{p:LV}{e:LW}{i:Lx LW}{m:String}{u d:Lt}{g:LD}{f:LM Ns}(h:To p e i Lw m u=.go g d f):g.dying≠Lw:=by
 unfold To at h;dsimp only at h;generalize (Nm p _ u:Qq (Lx (ByteArray × String) × Lx ByteArray))=r at h;cases r with
 | ok a c=>
  obtain⟨t,b⟩:=a;simp only[Yj,PX] at h;rw[<- h.1];simp
 | halt x c=>cases x<;>simp at h
def dc{a:LM Ns}{s:OA}{g:LD}{u:Lt}{e:LM Ns}(h:Ni a s=.go g u e):∃b,s=.go g u b/\e=a++b:=by
 cases s<;>simp only[Ni,PX] at h<;>first | (obtain⟨rfl,rfl,rfl⟩:=h;exact⟨_,rfl,rfl⟩) | cases h
def SR.ends{Y M:Type}{R:Rel Y M}{s:Ps Y}{e:Ps M}(g:SR Q P R s Z e)(i:base<=Z.length)(c:WR Q base Z wq w)(h:ji (s.run Q wq)) :(∃a u,s.run Q wq=.ok a u)\/∃v u,s.run Q wq=.halt (.panic v) u:=by
 have d:WR Q base Z wq { w with tape:=λn q=>wq.tape (n - w.drawn+wq.drawn) q }:=⟨c.len,c.nodup,c.lt,c.obj,c.low,c.env,c.below,c.gar⟩;have⟨O,f,k,j,b,_⟩:=SR.runs (es:=#[]) (D:=(rwR (s.run Q wq)).drawn) g i d (λn q _=>by
  show wq.tape (wq.drawn+n) q=wq.tape (w.drawn+n - w.drawn+wq.drawn) q;rw[show w.drawn+n - w.drawn+wq.drawn=wq.drawn+n by omega]) (LC _) h
 generalize s.run Q wq=r at b;generalize (Nm P e _)=r' at b;cases b with
 | ok _ _ _=>exact .inl ⟨_,_,rfl⟩
 | panic _ _ _=>exact .inr ⟨_,_,rfl⟩
def SM.ends{Y M:Type}{R:Rel Y M}{s:Ps Y}{e:Ps M}(g:SM Q P R s Z e)(i:base<=Z.length)(c:WR Q base Z wq w)(h:ji (s.run Q wq)) :(∃a u,s.run Q wq=.ok a u)\/∃v u,s.run Q wq=.halt (.panic v) u:=by
 have d:WR Q base Z wq { w with tape:=λn q=>wq.tape (n - w.drawn+wq.drawn) q }:=⟨c.len,c.nodup,c.lt,c.obj,c.low,c.env,c.below,c.gar⟩;have⟨O,f,k,j,b,_⟩:=g (D:=(rwR (s.run Q wq)).drawn) i d (λn q _=>by
  show wq.tape (wq.drawn+n) q=wq.tape (w.drawn+n - w.drawn+wq.drawn) q;rw[show w.drawn+n - w.drawn+wq.drawn=wq.drawn+n by omega]) (LC _) h
 generalize s.run Q wq=r at b;generalize (Nm P e _)=r' at b;cases b with
 | ok _ _ _=>exact .inl ⟨_,_,rfl⟩
 | panic _ _ _=>exact .inr ⟨_,_,rfl⟩
def kY(H:Duo Q P)(hb:base<=Z.length)(hw:WR Q base Z wq w)(ht:bY D wq w){f f':LW}(hf:aF Q P Z f f'){W M:Lx LW}(h8:LsR (aF Q P Z) W M)(U:∀x l,f.todo≠.code x::l){s s':Ps Qz}(hs:SM Q P cQ s Z s'):iz Q P base D Z wq w (Nq Q LG f W Lw s wq) (Nq P LG f' M Lw s' w):=by
 intro B y n2 o hD C G;have e8:(∀d r s k,f.todo≠.call d LG r s::k)/\∀d r s k,f'.todo≠.call d LG r s::k:=by
  have:=hf.todo;generalize f.todo=l at this;generalize f'.todo=l' at this;cases this with
  | nil=>exact⟨by simp,by simp⟩
  | cons hx _=>cases hx<;>exact⟨by simp,by simp⟩
 obtain⟨l4,k9⟩:=e8;unfold Nq at o;simp only[if_true,ME] at o;have F:ji (s.run Q wq):=by
  cases T:s.run Q wq with
  | ok a w1=>trivial
  | halt h w1=>
   rw[T] at o;cases h with
   | panic v=>rfl
   | goexit=>rfl
   | unsupported u=>cases u<;>first | rfl | (simp[Ni] at o;done)
   | blocked=>simp only[Ni,PX] at o;rw[<- o.1] at C;cases C
   | waiting=>simp only[Ni,PX] at o;rw[<- o.1] at C;cases C
   | throw m=>simp only[Ni,SF,Yj,PX] at o;rw[<- o.1] at G;cases G
   | fatal m=>
    have⟨e0,c,_⟩:=dc o;exact absurd G (bz c)
   | _=>(simp[Ni] at o;done)
 have⟨e0,c,_⟩:=dc o;have m8:∀{fr:LW} {u:Lt},(UO { frame:=fr,callers:=W,status:=.running,dying:=Lw } u:OA)=.go B y e0->u=y:=λh=>by cases h;rfl
 have k5:(rwR (s.run Q wq)).drawn<=D:=by
  cases T:s.run Q wq with
  | ok a w1=>
   rw[T] at c;have:w1=y:=by
    cases a with
    | recover=>
     dsimp only at c
     repeat' split at c
     all_goals(cases c;rfl)
    | callThen d r v b=>
     dsimp only at c
     repeat' split at c
     all_goals(cases c;rfl)
    | row r a=>
     dsimp only at c
     repeat' split at c
     all_goals(cases c;rfl)
    | stack r a=>
     dsimp only at c
     repeat' split at c
     all_goals(cases c;rfl)
    | spawn d=>
     exfalso;dsimp only at c
     repeat' split at c
     all_goals first
      | (simp only[SF,Yj,PX] at c;rw[<- c.1] at G;cases G;done)
      | (cases c;done)
    | _=>first | (cases c;rfl) | cases c
   subst this;exact hD
  | halt h w1=>
   rcases hs.ends hb hw F with⟨a,u,e⟩ | ⟨v,u,e⟩
   ·rw[T] at e;cases e
   ·rw[T] at e;cases e;rw[T] at c;cases c;exact hD
 have⟨O,A,V,p,z,g8,g7,e5,b6⟩:=hs hb hw ht k5 F;have hL:=b6.le;have e9:wq.drawn<=A.drawn:=z.world ▸ iU Q s wq;have t:LsR (aF Q P O) W M:=h8.imp λ_ _ k=>k.mono hL;have n:=hf.mono hL;have a8:s'.events P w #[]=p:=g8;have c9:(f'.kind == CallKind.early)=(f.kind == CallKind.early):=by rw[hf.kind]
 have q:∀(N:LM Ns),(N=#[]\/N=p)->∀e∈seen P f'.fn (if(f'.kind == CallKind.early)=LG then #[] else N),e∈p:=by
  intro N he e hx;have:=gH _ _ _ e hx;split at this
  ·simp at this
  ·rcases he with rfl | rfl
   ·simp at this
   ·exact this
 have fin:∀{g g':LD} {N:LM Ns} {r':OA},r'=.go g' V N->(∀e∈N,e∈p)->g=B->A=y->(B.status=.running->rW Q P O g g') ->
   ∃O I S L,r'=.go I S L/\rW Q P O B I/\WR Q base O y S/\Ro/\Eff base Z O w S/\(∀e∈L,ig base O e)/\Ro/\wq.drawn<=y.drawn:=by
  intro g g' N r' e0 b0 e1 e2 hg;subst e1;subst e2;exact⟨O,g',V,N,e0,hg C,e5,trivial,b6,λe he=>g7 e (b0 e he),trivial,e9⟩
 unfold Nq;simp only[if_true,ME];rw[a8];generalize T:s.run Q wq=r at c z;generalize m3:s'.run P w=r' at z;cases z with
 | ok A V hN=>
  cases hN with
  | value hv=>
   cases c;exact fin rfl (by simpa using q p (.inr rfl)) rfl rfl λ_=>.k ⟨n.finish hv,t,rfl,rfl,rfl,rfl⟩
  | skip=>
   cases c;exact fin rfl (by simpa using q p (.inr rfl)) rfl rfl λ_=>.k ⟨n.finish (gz O),t,rfl,rfl,rfl,rfl⟩
  | @enter fn a a' e7 ha=>
   cases c;refine fin rfl (by simpa using q p (.inr rfl)) rfl rfl λ_=>enterK H e7 ha n t (.inr U) _
  | round fn h9 e6 a7 ha hc=>
   cases c;refine fin rfl (by simpa using q p (.inr rfl)) rfl rfl λ_=>.k ⟨?_,.cons n t,rfl,rfl,rfl,rfl⟩;exact DO H ((H.same _).1 a7).1 ((H.same _).1 a7).2 h9 e6 ((H.codes _).1 ha) ((H.codes _).1 hc) _
  | defer hd=>
   cases c;exact fin rfl (by simpa using q p (.inr rfl)) rfl rfl λ_=>.k ⟨aF.finish (f:={ f with defers:=_::f.defers }) (f':={ f' with defers:=_::f'.defers }) ⟨n.fn,n.same,n.okf,n.tmps,n.todo,.cons hd n.defers,n.mode,n.kind,n.round⟩ (gz O),t,rfl,rfl,rfl,rfl⟩
  | recover=>
   have hrf:P.follows .rangeFuncRecover=LG:=by
    have:P.toTables.follows .rangeFuncRecover=Q.toTables.follows .rangeFuncRecover:=by rw[H.tables]
    exact this.trans H.rfr
   have Y:∀{X X':LU (LA × Lx LW)},X=Mq f W->X'=Mq f' M ->
     (match X with
      | some (v,callers)=>UO { frame:=f.finish v,callers,status:=.running,dying:=Lw } A
      | none=>.go { frame:=f.finish .nilIface,callers:=W,status:=.running,dying:=Lw } A)=.go B y e0 ->
     ∃O I S L,Ni (seen P f'.fn (if(f'.kind == CallKind.early)=LG then #[] else p)) (match X' with
      | some (v,callers)=>UO { frame:=f'.finish v,callers,status:=.running,dying:=Lw } V
      | none=>.go { frame:=f'.finish .nilIface,callers:=M,status:=.running,dying:=Lw } V)=.go I S L/\rW Q P O B I/\WR Q base O y S/\Ro/\Eff base Z O w S/\(∀e∈L,ig base O e)/\Ro/\wq.drawn<=y.drawn:=by
    intro X X' hX b7 c;rcases ko n t with⟨t1,t2⟩ | ⟨v,v',k,k',t1,t2,hv,g5⟩
    ·rw[hX,t1] at c;rw[b7,t2];cases c;exact fin rfl (by simpa using q p (.inr rfl)) rfl rfl λ_=>.k ⟨n.finish .nilIface,t,rfl,rfl,rfl,rfl⟩
    ·rw[hX,t1] at c;rw[b7,t2];cases c;exact fin rfl (by simpa using q p (.inr rfl)) rfl rfl λ_=>.k ⟨n.finish hv,g5,rfl,rfl,rfl,rfl⟩
   dsimp only at c ⊢;rcases n.round with⟨r1,r2⟩ | ⟨i,j,r1,r2,_⟩
   ·rw[r1] at c;rw[r2];exact Y rfl rfl c
   ·rw[r1] at c;rw[r2];exact Y (by simp[H.rfr]) (by simp[hrf]) c
 | panic A V hv=>
  cases c;exact fin rfl (by simpa using q p (.inr rfl)) rfl rfl λ_=>.k ⟨n.raise (.cons ⟨hv,rfl,rfl⟩ .nil),t,rfl,rfl,rfl,rfl⟩
end
end
section
section
variable[JunkSet]{Q P:LV}{Z:Ren}{base D:Ly}{wq w:Lt}
def gK:Target->MC
 | .nil=>LG
 | _=>LH
def gJ:FrameMode->MC
 | .panicking _=>LG
 | _=>LH
def uv(H:Duo Q P)(hb:base<=Z.length)(hw:WR Q base Z wq w)(hG:Gl P Z)(ht:bY D wq w){f I:LW}(hf:aF Q P Z f I){cs G:Lx LW}(e9:LsR (aF Q P Z) cs G)(a7:f.mode≠.run){d M:NR}(hd:fM Z d M):iz Q P base D Z wq w (NT Q f cs Lw d wq) (NT P I G Lw M w):=by
 intro B p m4 o hD S U;have hs:SR Q P cQ (invoke d.target d.args) Z (invoke M.target M.args):=iQ H.toPair hG hd;unfold NT at o ⊢;have V:(gK M.target && gJ I.mode)=(gK d.target && gJ f.mode):=by
  have h2:=hf.mode;rcases hd with⟨h1,_⟩ | ⟨h1,_,n,c,h3⟩
  case bound=>rw[h1,h3];rfl
  generalize d.target=t at h1;generalize M.target=t' at h1;generalize f.mode=m at h2;generalize I.mode=m' at h2;cases h1<;>cases h2<;>rfl
 generalize invoke d.target d.args=s at hs o;generalize invoke M.target M.args=s' at hs ⊢;change (if(gK d.target && gJ f.mode)=LG then _ else _)=_ at o;show ∃O W L es,(if(gK M.target && gJ I.mode)=LG then _ else _)=UO W L es/\_;by_cases hc:(gK d.target && gJ f.mode)=LG
 ·rw[if_pos hc] at o;cases o
 ·rw[if_neg hc] at o;rw[if_neg (by rw[V];exact hc)];simp only[ME] at o ⊢;have⟨e0,b,_⟩:=dc o;have A:ji (s.run Q wq):=by
   cases T:s.run Q wq with
   | ok a w1=>trivial
   | halt h w1=>
    rw[T] at b;cases h with
    | panic v=>rfl
    | goexit=>rfl
    | unsupported u=>cases u<;>first | rfl | (cases b;done)
    | blocked=>cases b;cases S
    | waiting=>cases b;cases S
    | throw m=>simp only[SF,Yj,PX] at b;rw[<- b.1] at U;cases U
    | fatal m=>exact absurd U (bz b)
    | _=>(cases b;done)
  have g7:(rwR (s.run Q wq)).drawn<=D:=by
   cases T:s.run Q wq with
   | ok a w1=>
    rw[T] at b;have:w1=p:=by
     cases a with
     | recover=>
      dsimp only at b
      repeat' split at b
      all_goals(cases b;rfl)
     | coroswitch c e=>cases e<;>cases b
     | alone on v=>cases on<;>cases b
     | _=>first | (cases b;rfl) | cases b
    subst this;exact hD
   | halt h w1=>
    rcases hs.ends hb hw A with⟨a,u,e⟩ | ⟨v,u,e⟩
    ·rw[T] at e;cases e
    ·rw[T] at e;cases e;rw[T] at b;cases b;exact hD
  have⟨O,z,Y,y,x,e6,e5,d5,k8,b7,l6⟩:=SR.runs (es:=#[]) hs hb hw ht g7 A;have hL:=b7.le;have d9:wq.drawn<=z.drawn:=x.world ▸ iU Q s wq;have j:LsR (aF Q P O) cs G:=e9.imp λ_ _ k=>k.mono hL;have l:=hf.mono hL;have b0:s'.events P w #[]=y:=by
   show(s'.runT P w #[]).2=y;rw[e6];simp
  have i:∀e∈seen P I.fn y,e∈y:=λe he=>gH _ _ _ e he;have fin:∀{g W:LD} {es:LM Ns} {N:OA},N=.go W Y es->(∀e∈es,e∈y)->g=B->z=p->(B.status=.running->rW Q P O g W) ->
    ∃O C L F,N=.go C L F/\rW Q P O B C/\WR Q base O p L/\Ro/\Eff base Z O w L/\(∀e∈F,ig base O e)/\Ro/\wq.drawn<=p.drawn:=by
   intro g W es N e0 b6 e1 e2 hg;subst e1;subst e2;exact⟨O,W,Y,es,e0,hg S,d5,trivial,b7,λe he=>e5 e (b6 e he),trivial,d9⟩
  rw[b0];generalize T:s.run Q wq=r at b x;generalize a8:s'.run P w=N at x;cases x with
  | ok z Y hN=>
   cases hN with
   | value hv=>
    cases b;exact fin rfl (by simpa using i) rfl rfl λ_=>.k ⟨l,j,rfl,rfl,rfl,rfl⟩
   | skip=>
    cases b;exact fin rfl (by simpa using i) rfl rfl λ_=>.k ⟨l,j,rfl,rfl,rfl,rfl⟩
   | @enter fn a a' d8 ha=>
    cases b;exact fin rfl (by simpa using i) rfl rfl λ_=>enterK H d8 ha l j (.inl a7) _
   | round fn g5 d7 a6 ha hc=>
    cases b;exact fin rfl (by simpa using i) rfl rfl λ_=>.k ⟨DO H ((H.same _).1 a6).1 ((H.same _).1 a6).2 g5 d7 ((H.codes _).1 ha) ((H.codes _).1 hc) _,.cons l j,rfl,rfl,rfl,rfl⟩
   | defer hd=>
    cases b;exact fin rfl (by simpa using i) rfl rfl λ_=>.k ⟨l,j,rfl,rfl,rfl,rfl⟩
   | recover=>
    have hm:=l.mode;have R:=ko l j;dsimp only at b ⊢;generalize Mq f cs=X at b R;generalize Mq I G=X' at R ⊢;generalize l4:f.mode=m at b hm;generalize h9:I.mode=m' at hm ⊢;have q:UO { frame:=f,callers:=cs,status:=.running,dying:=Lw } z=.go B p e0->∀{N:OA},N=Ni (seen P I.fn y) (.go { frame:=I,callers:=G,status:=.running,dying:=Lw } Y) ->
      ∃O C L F,N=.go C L F/\rW Q P O B C/\WR Q base O p L/\Ro/\Eff base Z O w L/\(∀e∈F,ig base O e)/\Ro/\wq.drawn<=p.drawn:=by
     intro h N a8;cases h;exact fin a8 (by simpa using i) rfl rfl λ_=>.k ⟨l,j,rfl,rfl,rfl,rfl⟩
    cases hm with
    | returning=>
     rcases R with⟨rfl,rfl⟩ | ⟨v,v',k,k',rfl,rfl,hv,e4⟩
     ·exact q b rfl
     ·cases b;exact fin rfl (by simpa using i) rfl rfl λ_=>.k ⟨l,e4,rfl,rfl,rfl,rfl⟩
    | run=>exact q b rfl
    | panicking hl=>exact q b rfl
  | panic z Y hv=>
   cases b;exact fin rfl (by simpa using i) rfl rfl λ_=>.k ⟨l.raise (.cons ⟨hv,rfl,rfl⟩ .nil),j,rfl,rfl,rfl,rfl⟩
def mP{Y M:Type}{R:Rel Y M}(L:base<=Z.length)(hw:WR Q base Z wq w)(ht:bY D wq w)(N:wq.drawn<=D){s:Ps Y}{l:Ps M}(hs:SR Q P R s Z l)(o:(rwR (s.run Q wq)).drawn=wq.drawn){K:Qq Y->OA}{K':Qq M->OA}{fn z:Nh}(y:∀h u g u' e,odd h=LH->K (.halt h u)=.go g u' e->g.status=.running->g.dying=Lw->PC)(hK:∀O r b W f,zM R O r b W f->Le Z O->base<=O.length->WR Q base O b f->bY D b f->b.drawn<=D->iz Q P base D O b f (K r) (K' W)) :iz Q P base D Z wq w (Ni (seen Q fn (s.events Q wq #[])) (K (s.run Q wq))) (Ni (seen P z (l.events P w #[])) (K' (l.run P w))):=by
 intro T A e4 G hD n x;have⟨e0,S,_⟩:=dc G;have i:ji (s.run Q wq):=by
  cases hr:s.run Q wq with
  | ok a f=>trivial
  | halt h f=>
   rw[hr] at S;cases ho:odd h with
   | true=>exact ho
   | false=>exact(y h f _ _ _ ho S n x).elim
 have⟨O,k,w2,j,c,I,H,C,F,t,d5⟩:=SR.runs (es:=#[]) hs L hw ht (by rw[o];exact N) i;have hL:=t.le;have b7:k.drawn=wq.drawn:=by rw[<- c.world];exact o
 have q:l.events P w #[]=j:=by
  show(l.runT P w #[]).2=j;rw[I];simp
 have⟨V,g',w',U,e1,hg,B,b9,d,p,a6,X⟩:=hK O _ k _ w2 c hL (LN L hL.len) C F (by omega) T A e0 S hD n x;refine⟨V,g',w',seen P z j++U,?_,hg,B,trivial,t.trans L d,?_,trivial,by omega⟩
 ·rw[q,e1];rfl
 ·intro e v;rcases Pj.1 v with v | v
  ·exact(H e (gH _ _ _ e v)).mono d.le
  ·exact p e v
def mQ(z:WR Q base Z wq w)(A:bY D wq w){f L:LW}(I:aF Q P Z f L){B s:Lx LW}(n:LsR (aF Q P Z) B s){v u:LA}(N:VR Z v u)(b:MC) :iz Q P base D Z wq w (NX Q LG f B Lw v wq) (NX P b L s Lw u w):=by
 cases n with
 | nil=>
  intro S M U q V O R;unfold NX at q;simp only[I.okf] at q;cases hk:f.kind<;>rw[hk] at q<;>cases q
 | @cons c t B s a n=>
  unfold NX;dsimp only;rw[I.kind];have o:iz Q P base D Z wq w (.go { frame:=c.finish v,callers:=B,status:=.running,dying:=Lw } wq) (.go { frame:=t.finish u,callers:=s,status:=.running,dying:=Lw } w) :=
   bF z A λ_ _=>⟨a.finish N,n,rfl,rfl,rfl,rfl⟩
  cases f.kind with
  | normal=>exact o
  | wrapped=>exact o
  | early=>exact bF z A λ_ _=>⟨a,n,rfl,rfl,rfl,rfl⟩
  | deferred=>
   refine bF z A λ_ _=>⟨?_,n,rfl,rfl,rfl,rfl⟩;dsimp only;have hm:=a.mode;have i:∀{l d:Lx QU},LsR (nI Z) l d->LsR (nI Z) (l.dropWhile (!·.goexit)) (d.dropWhile (!·.goexit)):=by
    intro l d h;induction h with
    | nil=>exact .nil
    | @cons p x l d j e F=>
     simp only[Vi];rw[j.goexit];split
     ·exact F
     ·exact .cons j e
   cases hmc:c.mode with
   | run=>rw[hmc] at hm;cases hm':t.mode<;>rw[hm'] at hm<;>cases hm;exact a
   | returning=>rw[hmc] at hm;cases hm':t.mode<;>rw[hm'] at hm<;>cases hm;exact a
   | panicking l=>
    rw[hmc] at hm;cases hm':t.mode with
    | run=>rw[hm'] at hm;cases hm
    | returning=>rw[hm'] at hm;cases hm
    | panicking d=>
     rw[hm'] at hm;cases hm with
     | panicking e=>
      cases e with
      | nil=>exact a
      | @cons p x l d j e=>
       obtain⟨v,r,g⟩:=p;obtain⟨u,C,T⟩:=x;obtain⟨H,y,G⟩:=j;dsimp only at H y G;subst y;cases C with
       | false=>exact a
       | true=>
        dsimp only;have:=i e;generalize l.dropWhile (!·.goexit)=k at this;generalize d.dropWhile (!·.goexit)=k' at this;cases this with
        | nil=>exact⟨a.fn,a.same,a.okf,a.tmps,a.todo,a.defers,.returning,a.kind,a.round⟩
        | cons j e=>exact⟨a.fn,a.same,a.okf,a.tmps,a.todo,a.defers,.panicking (.cons j e),a.kind,a.round⟩
  | report=>
   refine bF z A λ_ _=>⟨?_,n,rfl,rfl,rfl,rfl⟩;dsimp only;have hm:=a.mode;have i:∀{l d:Lx QU},LsR (nI Z) l d->LsR (nI Z) (l.dropWhile (!·.goexit)) (d.dropWhile (!·.goexit)):=by
    intro l d h;induction h with
    | nil=>exact .nil
    | @cons p x l d j e F=>
     simp only[Vi];rw[j.goexit];split
     ·exact F
     ·exact .cons j e
   cases hmc:c.mode with
   | run=>rw[hmc] at hm;cases hm':t.mode<;>rw[hm'] at hm<;>cases hm;exact a
   | returning=>rw[hmc] at hm;cases hm':t.mode<;>rw[hm'] at hm<;>cases hm;exact a
   | panicking l=>
    rw[hmc] at hm;cases hm':t.mode with
    | run=>rw[hm'] at hm;cases hm
    | returning=>rw[hm'] at hm;cases hm
    | panicking d=>
     rw[hm'] at hm;cases hm with
     | panicking e=>
      cases e with
      | nil=>exact a
      | @cons p x l d j e=>
       obtain⟨v,r,g⟩:=p;obtain⟨u,C,T⟩:=x;obtain⟨H,y,G⟩:=j;dsimp only at H y G;subst y;cases C with
       | false=>exact a
       | true=>
        dsimp only;have:=i e;generalize l.dropWhile (!·.goexit)=k at this;generalize d.dropWhile (!·.goexit)=k' at this;cases this with
        | nil=>exact⟨a.fn,a.same,a.okf,a.tmps,a.todo,a.defers,.returning,a.kind,a.round⟩
        | cons j e=>exact⟨a.fn,a.same,a.okf,a.tmps,a.todo,a.defers,.panicking (.cons j e),a.kind,a.round⟩
def lV(H:Duo Q P)(A:Gl P Z)(p:Func){t k:LM LA}(h:AsR Z t k):SR Q P VR (Om p t) Z (Om p k):=by
 unfold Om;refine .bnd (R:=AsR) ?_ λO a b l c=>?_
 ·rw[PM,PM];have n:∀(e:Lx ResultVar) (O:Ren),Le Z O->SR Q P (λV=>LsR (VR V)) (e.mapM fun
    | .tmp x=>pure (t.getD x LI)
    | .cell a g=>do VL g (<- Wj (t.getD a LI))) O (e.mapM fun
    | .tmp x=>pure (k.getD x LI)
    | .cell a g=>do VL g (<- Wj (k.getD a LI))):=by
   intro e;induction e with
   | nil=>intro O l;exact aj .nil
   | cons r e v=>
    intro O l;rw[SA,SA];refine .bnd (R:=VR) ?_ λV x y u d=>.bnd (v V (l.trans u)) λU a b q c=>aj (.cons (d.mono q) c);cases r with
    | tmp x=>exact aj ((h.mono l).getD x (gz O))
    | cell a g=>exact .bnd (tc H.tables (A.mono l) ((h.mono l).getD a (gz O))) λU x y _ d=>by obtain⟨i,j,o,s,rfl,rfl,z⟩:=d;exact qp H.tables z
  exact SR.bnd (S:=AsR) (f:=λl=>pure l.toArray) (f':=λl=>pure l.toArray) (n p.results.toList Z (.refl Z)) λO a b l c=>aj (bH.2 (by simpa using c))
 ·refine aj ?_;have C:=c.1;split
  ·rename_i B
   rw[dif_pos (by omega)];exact c.2 0 _ _ (Ml _) (Ml _)
  ·rename_i B
   rw[dif_neg (by omega)];exact c.tuple
def Dry{Y:Type}:Ps Y->Prop
 | .pure _=>Ro
 | .load _ _ k=>∀v,Dry (k v)
 | .store _ _ _ k=>Dry k
 | .new _ k=>∀r,Dry (k r)
 | .shape _ k=>∀x,Dry (k x)
 | .freeze _ _ k=>Dry k
 | .frozen _ k=>∀b,Dry (k b)
 | .getObj _ k=>∀o,Dry (k o)
 | .setObj _ _ k=>Dry k
 | .choose _ _=>PC
 | .sys _ _=>PC
 | .program k=>∀p,Dry (k p)
 | .mark _ k=>Dry k
 | .halt _=>Ro
def Dry.bind{Y W:Type}{s:Ps Y}{f:Y->Ps W}(h:Dry s)(d:∀a,Dry (f a)):Dry (s>>=f):=by
 show Dry (s.bind f);induction s with
 | pure a=>exact d a
 | load m a k b=>exact λv=>b v (h v)
 | store m a v k b=>exact b h
 | new o k b=>exact λv=>b v (h v)
 | shape r k b=>exact λv=>b v (h v)
 | freeze a n k b=>exact b h
 | frozen a k b=>exact λv=>b v (h v)
 | getObj r k b=>exact λv=>b v (h v)
 | setObj r o k b=>exact b h
 | choose q k b=>exact h.elim
 | sys c k b=>exact h.elim
 | program k b=>exact λp=>b p (h p)
 | mark m k b=>exact b h
 | halt x=>trivial
def Dry.run{Y:Type}(p:LV){s:Ps Y}:∀{w:Lt},Dry s->(rwR (s.run p w)).drawn=w.drawn:=by
 induction s with
 | pure a=>intro w h;rfl
 | load m a k b=>
  intro w h;simp only[Nm];split
  ·exact b _ (h _)
  ·split
   ·exact b _ (h _)
   ·rfl
 | store m a v k b=>
  intro w h;have d:(rwR (match w.cell? a with
     | some _=>if w.frozen? a then(.halt (.unsupported (.unsafePointer "a write to bytes that a string shares")) w:Qq Y) else k.run p (w.setCell a v)
     | none=>match w.farStore p a v (m == .atomic) with
      | .ok (w,_)=>k.run p w
      | .error h=>.halt h w)).drawn=w.drawn:=by
   split
   ·split
    ·rfl
    ·exact b (w:=w.setCell a v) h
   ·split
    ·rename_i i t e
     rw[b h];unfold Rv at e;split at e
     ·split at e
      ·rename_i r g
       cases e;exact jQ _ _ _ _ _ _ _ g
      ·cases e
     ·cases e
    ·rfl
  cases v<;>first | exact d | rfl
 | new o k b=>intro w h;exact b _ (w:={ w with heap:=w.heap.push o }) (h _)
 | shape r k b=>intro w h;exact b _ (h _)
 | freeze a n k b=>
  intro w h;refine(b (w:=w.freeze a n) h).trans ?_;unfold VK;split<;>rfl
 | frozen a k b=>intro w h;exact b _ (h _)
 | getObj r k b=>
  intro w h;simp only[Nm];cases ho:w.heap[r]? with
  | none=>rfl
  | some o=>cases o<;>first | exact b _ (h _) | rfl
 | setObj r o k b=>
  intro w h;simp only[Nm];cases ho:w.heap[r]? with
  | none=>rfl
  | some f=>cases f<;>first | exact b (w:={ w with heap:=w.heap.setIfInBounds r o }) h | rfl
 | choose q k b=>intro w h;exact h.elim
 | sys c k b=>intro w h;exact h.elim
 | program k b=>intro w h;exact b _ (h _)
 | mark m k b=>intro w h;exact b h
 | halt x=>intro w h;rfl
end
end
section
section
variable[JunkSet]{Q P:LV}{Z:Ren}{base D:Ly}{wq w:Lt}
def rC(t:LZ):Dry (Pp t):=λp=>by
 show Dry (match p.underlying t with | some d=>pure d | none=>stuck "no such type");split<;>trivial
def uV(t:LZ):Dry (PT t):=λp=>by
 show Dry (match p.info? t with | some d=>pure d | none=>stuck "no such type");split<;>trivial
def nC(a:MN):∀(n i:Ly) (b:LM LA),Dry (Tg a i n b):=by
 intro n;induction n with
 | zero=>intro i b;trivial
 | succ n c=>intro i b;exact λv=>c _ _
def xI(t:LZ)(a:MN):Dry (VL t a):=by
 refine Dry.bind (Dry.bind (rC t) λd=>?_) λb=>?_
 ·split<;>trivial
 ·split
  ·exact Dry.bind (Dry.bind (uV t) λi=>trivial) λn=>Dry.bind (nC _ _ _ _) λ_=>trivial
  ·exact λv=>trivial
def zA(v:LA):Dry (Wj v):=by
 unfold Wj;split
 ·trivial
 ·exact λp=>trivial
 ·trivial
def pj(h:Func)(t:LM LA):Dry (Om h t):=by
 unfold Om;refine Dry.bind ?_ λe=>trivial;rw[PM];have c:∀b:Lx ResultVar,Dry (b.mapM fun
    | .tmp x=>pure (t.getD x LI)
    | .cell a d=>do VL d (<- Wj (t.getD a LI))):=by
  intro b;induction b with
  | nil=>trivial
  | cons r b g=>
   rw[SA];refine Dry.bind ?_ λv=>Dry.bind g λe=>trivial;cases r with
   | tmp x=>trivial
   | cell a d=>exact Dry.bind (zA _) λa=>xI _ _
 exact Dry.bind (f:=λl=>pure l.toArray) (c _) λl=>trivial
def kO(l:Ly):Dry (Vr l):=λo=>by cases o<;>trivial
def ES(b:Ly):Dry (TI b):=λo=>by
 cases o with
 | deferred c=>cases c<;>trivial
 | _=>trivial
def uW(l:Ly)(j:LU Og):Dry (OR l j):=Dry.bind (kO l) λr=>trivial
def xJ(l:Ly):Dry (Vs l):=Dry.bind (kO l) λr=>by
 dsimp only;split
 ·exact Dry.bind (s:=Pz _) (λp=>trivial) λ_=>trivial
 ·trivial
def sD(f:Nh)(t:LM LA)(c:LM Tmp)(a b:Og)(r:LU Ly):Dry (Sf f t c a b r):=by
 unfold Sf;cases r with
 | none=>exact λ_ _=>trivial
 | some l=>exact Dry.bind (kO l) λr _=>trivial
def zV{i j:Ly}(h:BR Z i j):SR Q P (λO=>LsR (fM O)) (TI i) Z (TI j):=by
 refine .bnd (dW h) λO o d l b=>?_;cases b with
 | deferred c=>exact .bnd (dV (h.mono l) .deferredNone) λV _ _ a _=>aj (c.imp λ_ _ k=>k.mono a)
 | _=>exact au
def oP{i j:Ly}(h:BR Z i j){c:LU Og}(b:∀x,c=Lq x->JunkSet.okc x):SR Q P VR (OR i c) Z (OR j c):=by
 refine .bnd (eW h) λO r d l a=>.bnd (dV (h.mono l) (.loop ?_)) λV _ _ _ _=>aj (.bool _);exact⟨rfl,rfl,a.fn,a.tmps,a.params,a.assign,a.body,a.defers,a.okF,a.okA,a.okB,b⟩
def lD(H:Duo Q P)(c:Gl P Z){i j:Ly}(h:BR Z i j):SR Q P (λ_ _ _=>Ro) (Uf i) Z (Uf j):=by
 refine .bnd (eW h) λO r d l a=>.bnd (dV (h.mono l) (.loop ⟨rfl,a.pending,a.fn,a.tmps,a.params,a.assign,a.body,a.defers,a.okF,a.okA,a.okB,a.okP⟩)) λV _ _ b _=>?_;rw[a.state];cases r.state with
 | ready=>exact aj trivial
 | _=>exact aG H.tables (c.mono (l.trans b)) _
def qz(H:Duo Q P)(e:Gl P Z){i j:Ly}(h:BR Z i j):SR Q P (λ_ a b=>b=a/\∀x,a=Lq x->JunkSet.okc x) (Vs i) Z (Vs j):=by
 refine .bnd (eW h) λO r f l c=>?_;dsimp only;rw[c.state];refine aN (λ_=>.bnd (R:=λ_ _ _=>PC) (aG H.tables (e.mono l) _) λ_ _ _ _ d=>d.elim) λ_=>?_;refine .bnd (dV (h.mono l) (.loop ⟨rfl,c.pending,c.fn,c.tmps,c.params,c.assign,c.body,c.defers,c.okF,c.okA,c.okB,c.okP⟩)) λV _ _ g _=>?_;exact aj ⟨c.pending,c.okP⟩
def mM(f:Nh)(A:JunkSet.okg f){t g:LM LA}(v:AsR Z t g)(e:LM Tmp){a b:Og}(C:JunkSet.okc a)(p:JunkSet.okc b){r s:LU Ly}(z:OBR Z r s) :SR Q P (λO x y=>BR O x.1 y.1/\LsR (fM O) x.2 y.2) (Sf f t e a b r) Z (Sf f g e a b s):=by
 unfold Sf;have fin:∀(O:Ren) {d q:Ly} {m n:Lx NR},Le Z O->BR O d q->LsR (fM O) m n->SR Q P (λO (x y:Ly × Lx NR)=>BR O x.1 y.1/\LsR (fM O) x.2 y.2)
   (do pure (<- WQ (.loop { state:=.ready,pending:=Lw,fn:=f,tmps:=t,params:=e,assign:=a,body:=b,defers:=d }),m)) O
   (do pure (<- WQ (.loop { state:=.ready,pending:=Lw,fn:=f,tmps:=g,params:=e,assign:=a,body:=b,defers:=q }),n)):=λO d q m n l B hm=>
  .bnd (qn (.loop ⟨rfl,rfl,rfl,v.mono l,rfl,rfl,rfl,B,A,C,p,λx h=>by cases h⟩)) λV i j u c=>aj ⟨c,hm.imp λ_ _ k=>k.mono u⟩
 rcases z with⟨rfl,rfl⟩ | ⟨i,j,rfl,rfl,p⟩
 ·exact .bnd (qn (.deferred .nil)) λO i j l c=>fin O l c (.cons (.mk (.collected c) .nil) .nil)
 ·exact .bnd (eW p) λO x y l o=>fin O l o.defers .nil
end
end
section
section
variable[JunkSet]{Q P:LV}{Z:Ren}{base D:Ly}{wq w:Lt}
def qA(H:Duo Q P)(hb:base<=Z.length)(hw:WR Q base Z wq w)(hG:Gl P Z)(ht:bY D wq w)(a6:wq.drawn<=D){f f':LW}(q:aF Q P Z f f'){cs G:Lx LW}(B:LsR (aF Q P Z) cs G)(U:f.mode≠.run)(b:MC) :iz Q P base D Z wq w (Qw Q LG f cs Lw wq) (Qw P b f' G Lw w):=by
 have N:=q.defers;unfold Qw;generalize h9:f.defers=ds at N;generalize e5:f'.defers=I at N;cases N with
 | @cons d d' ds I hd X=>
  obtain⟨t,a⟩:=d;obtain⟨t',a'⟩:=d';have c9:aF Q P Z { f with defers:=ds } { f' with defers:=I }:=⟨q.fn,q.same,q.okf,q.tmps,q.todo,X,q.mode,q.kind,q.round⟩;have o:iz Q P base D Z wq w (NT Q { f with defers:=ds } cs Lw ⟨t,a⟩ wq) (NT P { f' with defers:=I } G Lw ⟨t',a'⟩ w) :=
   uv H hb hw hG ht c9 B U hd
  rcases id hd with⟨T,_⟩ | ⟨h1,_,n,c,h3⟩
  case bound=>
   dsimp only at h1 h3;subst h1;subst h3;exact o
  dsimp only at T;cases T with
  | @collected i j c8=>
   dsimp only;simp only[ME];refine mP hb hw ht a6 (zV c8) (Dry.run Q (ES i)) (K:=λr=>match r with
    | .ok A w=>.go { frame:={ f with defers:=A++ds },callers:=cs,status:=.running,dying:=Lw } w
    | .halt _ w=>.ended (.stuck "the deferred calls of a range-over-func loop have been taken" (f.pos Q)) w) (K':=λr=>match r with
    | .ok A w=>.go { frame:={ f' with defers:=A++I },callers:=G,status:=.running,dying:=Lw } w
    | .halt _ w=>.ended (.stuck "the deferred calls of a range-over-func loop have been taken" (f'.pos P)) w) (λh u g u' e _ hk _ _=>by cases hk) ?_
   intro O r C r' S hr l d7 L M _;cases hr with
   | ok C S d6=>
    have p:=q.mono l;exact bF L M λ_ _=>⟨⟨p.fn,p.same,p.okf,p.tmps,p.todo,d6.append (X.imp λ_ _ k=>k.mono l),p.mode,p.kind,p.round⟩,B.imp λ_ _ k=>k.mono l,rfl,rfl,rfl,rfl⟩
   | panic C S hv=>exact cd
  | fn h1 h2=>exact o
  | meth n h=>exact o
  | nil=>exact o
  | builtin x y z c h=>exact o
 | nil=>
  dsimp only;have hm:=q.mode;have⟨gf,V,W⟩:=q.same;generalize g9:f.mode=m at hm;generalize e4:f'.mode=m' at hm;cases hm with
  | run=>exact cd
  | panicking hl=>
   dsimp only;have Y:f.catches Q=LH:=by unfold TZ;rw[V]
   have R:f'.catches P=LH:=by unfold TZ;rw[q.fn,W]
   rw[Y,R];simp only[Mx,if_false];cases B with
   | cons hc B=>exact bF hw ht λ_ _=>⟨hc.raise hl,B,rfl,rfl,rfl,rfl⟩
   | nil=>
    intro k5 g5 k6 F hD b8 d5;exfalso;dsimp only at F
    repeat' split at F
    all_goals first
     | (cases F;done)
     | (cases F;cases b8;done)
     | (cases F;cases d5;done)
  | returning=>
   dsimp only;rw[q.fn,V,W];dsimp only;simp only[ME];refine mP hb hw ht a6 (lV H hG gf q.tmps) (Dry.run Q (pj gf _)) (K:=λr=>match r with
    | .ok v w=>NX Q LG f cs Lw v w
    | .halt (.stuck s) w=>.ended (.stuck s (f.pos Q)) w
    | .halt _ w=>.ended (.stuck "return: the result variables cannot be read" (f.pos Q)) w) (K':=λr=>match r with
    | .ok v w=>NX P b f' G Lw v w
    | .halt (.stuck s) w=>.ended (.stuck s (f'.pos P)) w
    | .halt _ w=>.ended (.stuck "return: the result variables cannot be read" (f'.pos P)) w) (λh u g u' e _ hk _ _=>by cases h<;>cases hk) ?_
   intro O r C r' S hr l d7 L M _;cases hr with
   | ok C S hv=>exact mQ L M (q.mono l) (B.imp λ_ _ k=>k.mono l) hv b
   | panic C S hv=>exact cd
def qV:LU Og->MC
 | none | some .ret=>LG
 | _=>LH
def kX(H:Duo Q P)(U:base<=Z.length)(G:WR Q base Z wq w)(L:bY D wq w)(C:wq.drawn<=D){f f':LW}(a:aF Q P Z f f'){q c:Lx LW}(n:LsR (aF Q P Z) q c)(b:MC){j:LU Og}(S:∀x,j=Lq x->aI Q x){s o:String} :
  iz Q P base D Z wq w (match f.roundOf with
   | none=>if qV j=LG then .go { frame:={ f with mode:=.returning },callers:=q,status:=.running,dying:=Lw } wq else .ended (.stuck s (f.pos Q)) wq
   | some l=>
    let (r,es):=(OR l j).runT Q wq #[]
    Ni (seen Q f.fn es) <| match r with
    | .ok v w=>NX Q LG f q Lw v w
    | .halt _ w=>.ended (.stuck o (f.pos Q)) w) (match f'.roundOf with
   | none=>if qV j=LG then .go { frame:={ f' with mode:=.returning },callers:=c,status:=.running,dying:=Lw } w else .ended (.stuck s (f'.pos P)) w
   | some l=>
    let (r,es):=(OR l j).runT P w #[]
    Ni (seen P f'.fn es) <| match r with
    | .ok v w=>NX P b f' c Lw v w
    | .halt _ w=>.ended (.stuck o (f'.pos P)) w):=by
 rcases a.round with⟨y,t⟩ | ⟨i,k,y,t,B⟩
 ·rw[y,t];dsimp only;by_cases p:qV j=LG
  ·rw[if_pos p,if_pos p];exact bF G L λ_ _=>⟨⟨a.fn,a.same,a.okf,a.tmps,a.todo,a.defers,.returning,a.kind,.inl ⟨rfl,rfl⟩⟩,n,rfl,rfl,rfl,rfl⟩
  ·rw[if_neg p,if_neg p];exact cd
 ·rw[y,t];dsimp only;simp only[ME];refine mP U G L C (oP B λx M=>(H.codes x).2 (S x M)) (Dry.run Q (uW i j)) (K:=λr=>match r with
    | .ok v w=>NX Q LG f q Lw v w
    | .halt _ w=>.ended (.stuck o (f.pos Q)) w) (K':=λr=>match r with
    | .ok v w=>NX P b f' c Lw v w
    | .halt _ w=>.ended (.stuck o (f'.pos P)) w) (λh u g V e _ R _ _=>by cases R) ?_
  intro O r d W F N l T z A _;cases N with
  | ok d F I=>exact mQ z A (a.mono l) (n.imp λ_ _ k=>k.mono l) I b
  | panic d F I=>exact cd
def aF.withTodo{f f':LW}(a:aF Q P Z f f'){k b:Lx PW}(c:LsR (bJ Q Z) k b):aF Q P Z { f with todo:=k } { f' with todo:=b } :=
 ⟨a.fn,a.same,a.okf,a.tmps,c,a.defers,a.mode,a.kind,a.round⟩
def jS{i j:Ly}(h:BR Z i j){d c:NR}(g:fM Z d c):SR Q P (λ_ _ _=>Ro) (VA i d) Z (VA j c):=by
 refine .bnd (eW h) λO r k l b=>?_;refine .bnd (dW b.defers) λV o n a e=>?_;cases e with
 | deferred f=>exact(dV (b.defers.mono a) (.deferred (.cons (g.mono (l.trans a)) f))).imp λ_ _ _ _ _=>trivial
 | deferredNone=>exact Dn
 | _=>exact au
def oq(p:LV)(u:Lt)(f i:Ly):(choose (.order f i)).run p u=.ok (u.tape u.drawn (.order f i)) { u with drawn:=u.drawn+1 }:=rfl
def DG(H:Duo Q P)(hb:base<=Z.length)(L:WR Q base Z wq w)(hG:Gl P Z)(S:bY D wq w)(M:wq.drawn<=D){f f':LW}(B:aF Q P Z f f'){cs N:Lx LW}(s:LsR (aF Q P Z) cs N)(b:MC) :iz Q P base D Z wq w (Pf Q LG LG f cs Lw wq) (Pf P b LG f' N Lw w):=by
 obtain⟨fn,tmps,e9,defers,mode,kind,ro⟩:=f;obtain⟨p,tmps',c8,defers',mode',kind',C⟩:=f';have g8:=B.todo;have b7:∀x,aQ Q x->VR Z (QH ⟨fn,tmps,e9,defers,mode,kind,ro⟩ x) (QH ⟨p,tmps',c8,defers',mode',kind',C⟩ x):=λx hx=>B.eval hG H.gsize hx;have q:∀{k k':Lx PW},LsR (bJ Q Z) k k'->iz Q P base D Z wq w (.go { frame:=⟨fn,tmps,k,defers,mode,kind,ro⟩,callers:=cs,status:=.running,dying:=Lw } wq) (.go { frame:=⟨p,tmps',k',defers',mode',kind',C⟩,callers:=N,status:=.running,dying:=Lw } w) :=
  λz=>bF L S λ_ _=>⟨B.withTodo z,s,rfl,rfl,rfl,rfl⟩
 unfold Pf;dsimp only;dsimp only at g8;cases g8 with
 | nil=>exact kX H hb L S M B s b (j:=Lw) (λx h=>by cases h)
 | @cons x x' k k' hx z=>
  cases hx with
  | @code c hc=>
   cases hc with
   | skip=>exact q z
   | label n=>exact q z
   | ret=>exact kX H hb L S M B s b (j:=Lq .ret) (λx h=>by cases h;exact .ret)
   | seq h1 h2=>exact q (.cons (.code h1) (.cons (.code h2) z))
   | @cond c x y h0 h1 h2=>
    dsimp only;have:=b7 _ h0;revert this;generalize QH _ c=v;generalize QH _ c=v';intro this;cases this with
    | bool t=>cases t<;>exact q (.cons (.code (by assumption)) z)
    | _=>exact cd
   | block h=>exact q (.cons (.code h) (.cons (.inBlock _) z))
   | loop h=>exact q (.cons (.code h) (.cons (.inLoop h) z))
   | scope h=>exact q (.cons (.code h) (.cons (.inScope h) z))
   | exit id=>
    dsimp only;rcases zy (id:=id) z with⟨e1,e2⟩ | ⟨m,m',e1,e2,hm⟩
    ·rw[e1,e2];exact kX H hb L S M B s b (j:=Lq (.exit id)) (λx h=>by cases h;exact .exit id)
    ·rw[e1,e2];exact q hm
   | goto n=>
    dsimp only;rcases zo (j:=n) z with⟨e1,e2⟩ | ⟨m,m',e1,e2,hm⟩
    ·rw[e1,e2];exact kX H hb L S M B s b (j:=Lq (.goto n)) (λx h=>by cases h;exact .goto n)
    ·rw[e1,e2];exact q hm
   | @region id F d I=>
    dsimp only;cases d with
    | false=>exact q (.cons (.inRegion _ I) z)
    | true=>
     simp only[Ri,Mx,if_false];rw[oq,oq];dsimp only;intro n9 m7 p3 e hD n4 n7;cases e;have Y:=B.fn;dsimp only at Y hD;subst Y;have g5:=S 0 (.order p id) (by omega);simp only[Nat.add_zero] at g5;have l7:P.follows .mixedOrders=Q.follows .mixedOrders:=by
      show P.toTables.follows .mixedOrders=Q.toTables.follows .mixedOrders;rw[H.tables]
     have⟨l5,l9⟩:=L.draw;refine⟨Z,_,_,#[],rfl,.k ⟨?_,s,rfl,rfl,rfl,rfl⟩,l5,trivial,l9,by simp,trivial,by simp only;omega⟩;rw[l7,g5];exact B.withTodo (.cons (.inRegion _ I) z)
   | @rangeFunc c ps a bd h0 h1 h2=>
    have Y:=B.fn;dsimp only at Y ⊢;subst Y;simp only[ME];refine mP hb L S M (mM (Q:=Q) (P:=P) p ((H.same p).2 ⟨B.same,B.okf⟩) B.tmps ps ((H.codes a).2 h1) ((H.codes bd).2 h2) B.round) (Dry.run Q (sD p tmps ps a bd ro)) (K:=λr=>match r with
     | .ok (l,mark) w=>Nq Q LG ⟨p,tmps,.inRangeFunc l::k,mark++defers,mode,kind,ro⟩ cs Lw (do let d <- resolve (QH ⟨p,tmps,.inRangeFunc l::k,mark++defers,mode,kind,ro⟩) { callee:=.value c,args:=#[.const (.func (.yield l) #[] #[])],argTypes:=#[] } 0;invoke d.target d.args) w
     | .halt _ w=>.ended (.stuck "range over a function: no such loop" (Wr Q ⟨p,tmps,.code (.rangeFunc c ps a bd)::k,defers,mode,kind,ro⟩)) w) (K':=λr=>match r with
     | .ok (l,mark) w=>Nq P LG ⟨p,tmps',.inRangeFunc l::k',mark++defers',mode',kind',C⟩ N Lw (do let d <- resolve (QH ⟨p,tmps',.inRangeFunc l::k',mark++defers',mode',kind',C⟩) { callee:=.value c,args:=#[.const (.func (.yield l) #[] #[])],argTypes:=#[] } 0;invoke d.target d.args) w
     | .halt _ w=>.ended (.stuck "range over a function: no such loop" (Wr P ⟨p,tmps',.code (.rangeFunc c ps a bd)::k',defers',mode',kind',C⟩)) w) (λh u g u' e ho z _ _=>by cases z) ?_
    intro O r T r' w1 hr l g9 b0 b6 _;cases hr with
    | panic T w1 hv=>exact cd
    | @ok x y T w1 hv=>
     obtain⟨i,m⟩:=x;obtain⟨i',m'⟩:=y;obtain⟨e4,hm⟩:=hv;dsimp only at e4 hm ⊢;have A:=B.mono l;have l8:aF Q P O ⟨p,tmps,.inRangeFunc i::k,m++defers,mode,kind,ro⟩ ⟨p,tmps',.inRangeFunc i'::k',m'++defers',mode',kind',C⟩ :=
      ⟨A.fn,A.same,A.okf,A.tmps,.cons (.inRangeFunc e4) (z.imp λ_ _ k=>k.mono l),hm.append A.defers,A.mode,A.kind,A.round⟩
     refine kY H g9 b0 b6 l8 (s.imp λ_ _ k=>k.mono l) (by intro x l h;cases h) (SR.sm ?_);have hy:AsR O #[Value.func (Fn.yield i) #[] #[]] #[Value.func (Fn.yield i') #[] #[]] :=
      AsR.one (.func (a:=#[]) (a':=#[]) (c:=#[]) (c':=#[]) (.yield e4) rfl (λi x y hx=>by simp at hx) rfl (λi x y hx=>by simp at hx))
     have g6:∀(e:MS->LA) (v:LA),#[Operand.const v].map e=#[e (.const v)]:=λe v=>by simp
     refine .bnd (R:=fM) (lW H.toPair ((b7 _ h0).mono l) (by rw[g6,g6];exact hy)) λV d d' l' hd=>iQ H.toPair (hG.mono (l.trans l')) hd
  | inBlock id=>exact q z
  | inScope h=>exact q z
  | inLoop h=>exact q (.cons (.code h) (.cons (.inLoop h) z))
  | @inRegion F l I=>
   cases l with
   | nil=>exact q z
   | cons i l=>
    dsimp only;have l4:Od F tmps'=Od F tmps:=funext λj=>yd F B.tmps j;rw[l4];by_cases hc:((F[i]?).map (MA · (Od F tmps))).getD LH=LG
    ·rw[if_pos hc,if_pos hc];unfold Ta Frame.oper?;dsimp only;cases ho:F[i]? with
     | none=>exact cd
     | some o=>
      dsimp only;have d6:=I o (by rw[Oy];exact NN ho);have X:=kY H hb L S B s (by intro x l h;cases h) (tf H.toPair b7 hG L.nodup (λv=>rfl) d6);rcases B.round with⟨W,U⟩ | ⟨a,b',W,U,d7⟩
      ·dsimp only at W U;subst W;subst U;exact X
      ·dsimp only at W U;subst W;subst U;by_cases a6:∃c,o.op=.defer c
       ·obtain⟨c,a6⟩:=a6;rw[a6] at d6 ⊢;dsimp only;refine kY H hb L S B s (by intro x l h;cases h) (SR.sm ?_);cases d6 with
        | defer d9=>
         exact .bnd (jq H.toPair b7 d9 _) λO d d' l hd=>.bnd (jS (d7.mono l) hd) λV _ _ _ _=>aj .skip
       ·split
        ·rename_i e1 e2
         exact absurd ⟨_,e2⟩ a6
        ·split
         ·rename_i e1 e2
          exact absurd ⟨_,e2⟩ a6
         ·exact X
    ·rw[if_neg hc,if_neg hc];exact bF L S λ_ _=>⟨B.finish (gz Z),s,rfl,rfl,rfl,rfl⟩
  | inRangeFunc h=>exact cd
  | @endRangeFunc i j h=>
   dsimp only;simp only[ME];refine mP hb L S M (qz H hG h) (Dry.run Q (xJ i)) (K:=λr=>match r with
    | .ok G w=>.go { frame:=⟨fn,tmps,(G.map Item.code).toList++k,defers,mode,kind,ro⟩,callers:=cs,status:=.running,dying:=Lw } w
    | .halt (.panic v) w=>.go { frame:=UN ⟨fn,tmps,.endRangeFunc i::k,defers,mode,kind,ro⟩ [{ v,recovered:=LH }],callers:=cs,status:=.running,dying:=Lw } w
    | .halt _ w=>.ended (.stuck "range over a function: no such loop" (Wr Q ⟨fn,tmps,.endRangeFunc i::k,defers,mode,kind,ro⟩)) w) (K':=λr=>match r with
    | .ok G w=>.go { frame:=⟨p,tmps',(G.map Item.code).toList++k',defers',mode',kind',C⟩,callers:=N,status:=.running,dying:=Lw } w
    | .halt (.panic v) w=>.go { frame:=UN ⟨p,tmps',.endRangeFunc j::k',defers',mode',kind',C⟩ [{ v,recovered:=LH }],callers:=N,status:=.running,dying:=Lw } w
    | .halt _ w=>.ended (.stuck "range over a function: no such loop" (Wr P ⟨p,tmps',.endRangeFunc j::k',defers',mode',kind',C⟩)) w) (λh u g u' e ho z _ _=>by cases h<;>first | (cases ho;done) | cases z) ?_
   intro O r T r' w1 hr l g9 b0 b6 _;have A:=B.mono l;have c3:=s.imp λ_ _ k=>aF.mono l k;have g7:=z.imp λ_ _ k=>bJ.mono l k;cases hr with
   | @ok G c9 T w1 hv=>
    obtain⟨hj,d8⟩:=hv;subst hj;refine bF b0 b6 λ_ _=>⟨A.withTodo ?_,c3,rfl,rfl,rfl,rfl⟩;cases c9 with
    | none=>exact g7
    | some c=>exact .cons (.code ((H.codes c).1 (d8 c rfl))) g7
   | panic T w1 hv=>exact bF b0 b6 λ_ _=>⟨A.raise (.cons ⟨hv,rfl,rfl⟩ .nil),c3,rfl,rfl,rfl,rfl⟩
  | beginRound=>
   dsimp only;refine kY H hb L S B s (by intro x l h;cases h) (SR.sm ?_);refine .bnd (R:=λ_ _ _=>Ro) ?_ λO _ _ _ _=>aj .skip;rcases B.round with⟨W,U⟩ | ⟨i,j,W,U,d7⟩
   ·dsimp only at W U;rw[W,U];exact au
   ·dsimp only at W U;rw[W,U];exact lD H hG d7
def th(H:Duo Q P)(i:base<=Z.length)(f:WR Q base Z wq w)(j:Gl P Z)(h:bY D wq w)(a:wq.drawn<=D){g k:LD}(t:hU Q P Z g k)(b:MC) :iz Q P base D Z wq w (Nb Q LG g wq LG) (Nb P b k w LG):=by
 obtain⟨x,F,A,C,s⟩:=g;obtain⟨l,z,r,y,n⟩:=k;obtain⟨d,e,v,u,q,p⟩:=t;dsimp only at d e v u q p;subst q;subst p;have hm:=d.mode;unfold Nb;dsimp only;generalize c:x.mode=m at hm;generalize o:l.mode=m' at hm;cases hm with
 | run=>exact DG H i f j h a d e b
 | returning=>exact qA H i f j h a d e (by rw[c];simp) b
 | panicking B=>exact qA H i f j h a d e (by rw[c];simp) b
def DF(H:Duo Q P)(z:base<=Z.length)(t:WR Q base Z wq w)(A:Gl P Z)(u:bY D wq w)(r:wq.drawn<=D){g s:LD}(x:hU Q P Z g s)(b:MC) :∀d i n,Nb Q LG g wq LG=.go d i n->i.drawn<=D->d.status=.running->d.dying=Lw->Q.funcs[d.frame.fn]?=P.funcs[d.frame.fn]? ->∃O j o p,Nb P b s w LG=.go j o p/\hU Q P O d j/\WR Q base O i o/\Ro/\Eff base Z O w o/\(∀e∈p,ig base O e)/\Ro/\wq.drawn<=i.drawn:=by
 intro d i n e B v y l;have⟨O,j,o,p,G,F,C⟩:=th H z t A u r x b d i n e B v y;refine⟨O,j,o,p,G,?_,C⟩;rcases F with⟨_,h⟩ | ⟨f,k,a,N,c,M,L,I,q,_,rfl,_⟩
 ·exact h
 ·exact absurd l q
end
end
end Go.Sim
section
namespace Go
def World.tp(w:Lt)(T:Ly->NU->Ly):Lt:={ w with tape:=T }
end Go
namespace Go.Sim
def tpR{Y:Type}(T:Ly->NU->Ly):Qq Y->Qq Y
 | .ok a w=>.ok a (w.tp T)
 | .halt h w=>.halt h (w.tp T)
def AI(T:Ly->NU->Ly)(w:Lt)(n:Ly):Prop:=∀k q,w.drawn<=k->k<n->T k q=w.tape k q
def Knows{Y:Type}(Q:LV)(s:Ps Y)(w:Lt):Prop :=
 (rwR (s.run Q w)).tape=w.tape/\∀T,AI T w (rwR (s.run Q w)).drawn->s.run Q (w.tp T)=tpR T (s.run Q w)
section
variable[JunkSet]{Q P:LV}{base:Ly}
def SR.knows{Y M:Type}{R:Rel Y M}{s:Ps Y}:∀{Z:Ren} {C:Ps M} {wq w:Lt},SR Q P R s Z C->base<=Z.length->WR Q base Z wq w->ji (s.run Q wq)->Knows Q s wq:=by
 induction s with
 | pure a=>intro Z C wq w h t g b;exact⟨rfl,λT _=>rfl⟩
 | load m a k y=>
  intro Z C wq w h t g b;rcases h with d | ⟨rfl,j,H,rfl,p,z⟩
  ·exact absurd b (Bad.not_fine g.nopend d)
  have e0:∀T,(wq.tp T).cell? a=wq.cell? a:=λT=>rfl;unfold Knows;simp only[Nm,e0] at b ⊢;cases hc:wq.cell? a with
  | none=>
   rw[hc] at b;simp only[Vn] at b;split at b
   ·rename_i G
    split at G
    ·rename_i B
     exact absurd B (g.noview p _ _)
    ·cases G
   ·rename_i G
    split at G
    ·rename_i B
     exact absurd B (g.noview p _ _)
    ·cases G;exact absurd b (ec g.nopend _ _ _)
  | some v=>
   have⟨v',B,U⟩:=g.cell p hc;rw[hc] at b;exact y v (z v v' U) t g b
 | store m a v k y=>
  intro Z C wq w h t g b;rcases h with d | ⟨rfl,j,v',H,rfl,p,G,z⟩
  ·exact absurd b (Bad.not_fine g.nopend (s:=.store m a v k) d)
  have N:(∃x,v=.agg x)\/(∃x,v=.tuple x)\/((∀x,v≠.agg x)/\∀x,v≠.tuple x):=by
   cases v<;>simp
  rcases N with⟨x,rfl⟩ | ⟨x,rfl⟩ | ⟨a6,X⟩
  ·simp only[Nm] at b;exact absurd b (λh=>by cases h)
  ·simp only[Nm] at b;exact absurd b (λh=>by cases h)
  ·have e1:∀u:Lt,(Wi .plain a v k).run Q u=match u.cell? a with
     | some _=>if u.frozen? a then .halt (.unsupported (.unsafePointer "a write to bytes that a string shares")) u else k.run Q (u.setCell a v)
     | none=>match u.farStore Q a v LH with
      | .ok (w,_)=>k.run Q w
      | .error h=>.halt h u:=λu=>by
    cases v<;>first | rfl | exact absurd rfl (a6 _) | exact absurd rfl (X _)
   have e0:∀T,(wq.tp T).cell? a=wq.cell? a:=λT=>rfl;have e2:∀T,(wq.tp T).frozen? a=wq.frozen? a:=λT=>rfl;unfold Knows;simp only[e1,e0,e2] at b ⊢;cases hc:wq.cell? a with
   | none=>
    rw[hc] at b;simp only[Rv] at b;split at b
    ·rename_i G
     split at G
     ·rename_i B
      exact absurd B (g.noview p _ _)
     ·cases G
    ·rename_i G
     split at G
     ·rename_i B
      exact absurd B (g.noview p _ _)
     ·cases G;exact absurd b (ec g.nopend _ _ _)
   | some u=>
    rw[hc] at b;cases hfz:wq.frozen? a with
    | true=>
     simp only[hfz,if_true] at b;exact absurd b (λh=>by cases h)
    | false=>
     have⟨O,b8,D,L⟩:=g.set p hc hfz G;simp only[hfz,Mx,if_false] at b ⊢;exact y z t D b
 | new o k y=>
  intro Z C wq w h t g b;rcases h with d | ⟨o',H,rfl,F,z⟩
  ·exact absurd b (Bad.not_fine g.nopend (s:=.new o k) d)
  have⟨D,L⟩:=g.newO t F;have S:=z w.heap.size (λi hi=>Rh _ (g.lt i _ hi));rw[g.len] at S;exact y _ S (by simp;omega) D b
 | shape r k y=>
  intro Z C wq w h t g b;rcases h with d | ⟨j,H,rfl,p,z⟩
  ·exact absurd b (Bad.not_fine g.nopend (s:=.shape r k) d)
  exact y _ (z _ _ (g.shape p)) t g b
 | freeze a n k _=>intro Z C wq w h t g b;exact absurd b (Bad.not_fine g.nopend (s:=.freeze a n k) h)
 | frozen a k _=>intro Z C wq w h t g b;exact absurd b (Bad.not_fine g.nopend (s:=.frozen a k) h)
 | getObj r k y=>
  intro Z C wq w h t g b;rcases h with d | ⟨j,H,rfl,p,z⟩
  ·exact absurd b (Bad.not_fine g.nopend (s:=.getObj r k) d)
  cases F:wq.heap[r]? with
  | none=>simp only[Nm,F] at b;exact absurd b (λh=>by cases h)
  | some o=>
   by_cases l:∃c e f,o=.cells c e f
   ·obtain⟨c,e,f,rfl⟩:=l;simp only[Nm,F] at b;exact absurd b (λh=>by cases h)
   ·have A:∀c e f,o≠.cells c e f:=λc e f x=>l ⟨c,e,f,x⟩;rcases g.obj _ _ _ p F with⟨_,hj,_⟩ | ⟨_,o',c8,U⟩
    ·exact absurd hj (A _ _ _)
    ·rw[eY F A] at b;have I:∀T,(wq.tp T).heap[r]?=Lq o:=λT=>F;unfold Knows;simp only[eY F A,eY (I _) A];exact y o (z _ _ U) t g b
 | setObj r o k y=>
  intro Z C wq w h t g b;rcases h with d | ⟨j,o',H,rfl,p,W,z⟩
  ·exact absurd b (Bad.not_fine g.nopend (s:=.setObj r o k) d)
  cases F:wq.heap[r]? with
  | none=>simp only[Nm,F] at b;exact absurd b (λh=>by cases h)
  | some V=>
   by_cases l:∃c e f,V=.cells c e f
   ·obtain⟨c,e,f,rfl⟩:=l;simp only[Nm,F] at b;exact absurd b (λh=>by cases h)
   ·have A:∀c e f,V≠.cells c e f:=λc e f x=>l ⟨c,e,f,x⟩;have⟨O,⟨c3,b7,U⟩,D,L⟩:=g.setO p F A W;rw[eX F A] at b;have I:∀T,(wq.tp T).heap[r]?=Lq V:=λT=>F;unfold Knows;simp only[eX F A,eX (I _) A];exact y z t D b
 | choose q k y=>
  intro Z C wq w h t g b;rcases h with d | ⟨H,rfl,z⟩
  ·exact absurd b (Bad.not_fine g.nopend (s:=.choose q k) d)
  unfold Knows;simp only[Nm] at b ⊢;cases hq:q.forced with
  | true=>
   rw[hq] at b;simp only[if_true] at b ⊢;exact y _ (z _) t g b
  | false=>
   rw[hq] at b;simp only[Mx,if_false] at b ⊢;have⟨D,L⟩:=g.draw;have⟨h1,h2⟩:=y _ (z _) t D b;refine⟨h1,λT hT=>?_⟩;have:=iU Q (k (q.cut (wq.tape wq.drawn q))) { wq with drawn:=wq.drawn+1 };have e:(wq.tp T).tape (wq.tp T).drawn q=wq.tape wq.drawn q:=hT _ q (LC _) (by simp only at this;exact LY (QM _) this);rw[e];exact h2 T λn q hn=>hT n q (by simp only at hn;omega)
 | sys c k y=>
  intro Z C wq w h t g b;rcases h with d | ⟨rfl,H,rfl,z⟩
  ·exact absurd b (Bad.not_fine g.nopend (s:=.sys c k) d)
  have e1:∀u:Lt,u.sys .env=(.strings u.os.env,u):=λu=>rfl;unfold Knows;simp only[Nm,e1] at b ⊢;exact y _ (z _) t g b
 | program k y=>
  intro Z C wq w h t g b;rcases h with d | ⟨H,rfl,z⟩
  ·exact absurd b (Bad.not_fine g.nopend (s:=.program k) d)
  exact y _ z t g b
 | mark m k y=>
  intro Z C wq w h t g b;rcases h with d | ⟨rfl,H,rfl,z⟩
  ·exact absurd b (Bad.not_fine g.nopend (s:=.mark m k) d)
  exact y z t g b
 | halt x=>intro Z C wq w h t g b;exact⟨rfl,λT _=>rfl⟩
end
end Go.Sim
end
namespace Go.Sim
section
section
variable[JunkSet]{Q P:LV}{Z:Ren}{base:Ly}{wq w:Lt}
def nj(b:P.toTables=Q.toTables)(l:Gl P Z)(i:base<=Z.length)(c:WR Q base Z wq w){t:LZ}(u:qR Q t=LG){m o k k' v v':LA}(hm:VR Z m o)(q:VR Z k k')(p:VR Z v v')(e:ji ((NI t m k v).run Q wq)):Knows Q (NI t m k v) wq:=by
 rcases wR (k':=k') (v':=v') b l c hm e with h | ⟨r,j,kt,z,A,x,a,rfl,rfl,f,d,g,y,s⟩
 ·exact h.knows i c e
 ·have n:=λT=>(fy (P:=Q) (t:=t) (k:=k) (v:=v) (w:=wq.tp T) d g).1;have r0:=(fy (P:=Q) (t:=t) (k:=k) (v:=v) d g).1;have:=(sX b l (wV u d) q p f s a 0).knows i c (by rw[<- r0];exact e);unfold Knows at this ⊢;rw[r0];exact⟨this.1,λT b=>by rw[n T];exact this.2 T b⟩
def Kf{s:Ps Unit}(h:Knows Q s wq):Knows Q (do s;pure Next.skip:Ps Qz) wq:=by
 have b:∀(u:Lt),((do s;pure Next.skip:Ps Qz)).run Q u=match s.run Q u with | .ok _ u'=>.ok .skip u' | .halt h u'=>.halt h u':=λu=>by
  rw[NF];cases s.run Q u<;>rfl
 unfold Knows at h ⊢;rw[b];refine⟨?_,λT a=>?_⟩
 ·have:=h.1;cases hx:s.run Q wq<;>(rw[hx] at this;exact this)
 ·rw[b,h.2 T]
  ·cases hx:s.run Q wq<;>rfl
  ·cases hx:s.run Q wq<;>(rw[hx] at a;exact a)
end
end
section
def Live(g:LD):Prop:=g.status=.running/\g.dying=Lw
def xZ(g:LD):Prop:=g.status=.blocked\/g.status=.waiting\/g.status=.finished\/(g.status=.running/\∃d,g.dying=Lq d/\d.calling=LH/\d.fatal.isSome=LG)
def Flat(a:Lx LW):OA->Prop
 | .go g _ _=>Live g\/xZ g\/a=[]
 | .ended ..=>Ro
 | _=>PC
def flx{p:Prop}(h:p:=by first | exact trivial | exact .inl ⟨rfl,rfl⟩ | exact .inr (.inl (.inl rfl)) | exact .inr (.inl (.inr (.inl rfl))) | exact .inr (.inl (.inr (.inr (.inl rfl)))) | exact .inr (.inl (.inr (.inr (.inr ⟨rfl,_,rfl,rfl,rfl⟩)))) | exact .inr (.inr rfl)):p:=h
structure One(cs:Lx LW)(wq:Lt)(r:Lt->OA):Prop where
 flat:Flat cs (r wq)
 go:∀g' w' es,r wq=.go g' w' es->g'.status=.running->g'.dying=Lw->w'.tape=wq.tape/\wq.drawn<=w'.drawn/\∀T,AI T wq w'.drawn->∃es',r (wq.tp T)=.go g' (w'.tp T) es'
def mz{a:Lx LW}{b:LM Ns}{s:OA}(h:Flat a s):Flat a (Ni b s):=by
 cases s<;>first | exact h | exact h.elim
def rp{p:LV}{e:LW}{c:Lx LW}{f:LU Re}{m:String}{u:Lt}:Flat c (To p e c f m u):=by
 unfold To;dsimp only;generalize (Nm p _ u:Qq (Lx (ByteArray × String) × Lx ByteArray))=r;cases r with
 | ok a d=>obtain⟨t,b⟩:=a;exact flx
 | halt x d=>cases x<;>exact flx
section
variable[JunkSet]{Q P:LV}{Z:Ren}{base:Ly}{wq w:Lt}
def ff{c:Lx LW}{r:Lt->OA}(h:∃o u a,r wq=.ended o u a):One c wq r:=by
 obtain⟨o,u,a,e⟩:=h;exact⟨by rw[e];trivial,λf d b h _ _=>by rw[e] at h;cases h⟩
def SR.tri{Y M:Type}{R:Rel Y M}{s:Ps Y}{j:Ps M}(k:SR Q P R s Z j)(l:base<=Z.length)(d:WR Q base Z wq w) :(Knows Q s wq/\((∃a u,s.run Q wq=.ok a u/\∃O b p,R O a b/\Le Z O/\WR Q base O u p)\/∃v u,s.run Q wq=.halt (.panic v) u))\/∃h u,s.run Q wq=.halt h u/\odd h=LH:=by
 by_cases e:ji (s.run Q wq)
 ·refine .inl ⟨k.knows l d e,?_⟩;have g:WR Q base Z wq { w with tape:=λn q=>wq.tape (n - w.drawn+wq.drawn) q }:=⟨d.len,d.nodup,d.lt,d.obj,d.low,d.env,d.below,d.gar⟩;have⟨O,o,x,t,c,_,_,f,_,i,_⟩:=SR.runs (es:=#[]) (D:=(rwR (s.run Q wq)).drawn) k l g (λn q _=>by
   show wq.tape (wq.drawn+n) q=wq.tape (w.drawn+n - w.drawn+wq.drawn) q;rw[show w.drawn+n - w.drawn+wq.drawn=wq.drawn+n by omega]) (LC _) e
  generalize s.run Q wq=r at c;generalize (Nm P j _)=r' at c;cases c with
  | ok _ _ h=>exact .inl ⟨_,_,rfl,O,_,_,h,i.le,f⟩
  | panic _ _ _=>exact .inr ⟨_,_,rfl⟩
 ·refine .inr ?_;cases hr:s.run Q wq with
  | ok a u=>rw[hr] at e;exact absurd trivial e
  | halt h u=>
   rw[hr] at e;exact⟨h,u,rfl,by cases ho:odd h with | false=>rfl | true=>exact absurd ho e⟩
def Tri[JunkSet](Q:LV){Y M:Type}(R:Rel Y M)(s:Ps Y)(Z:Ren)(base:Ly)(wq:Lt):Prop :=
 (Knows Q s wq/\((∃a u,s.run Q wq=.ok a u/\∃O b c,R O a b/\Le Z O/\WR Q base O u c)\/∃v u,s.run Q wq=.halt (.panic v) u))\/∃h u,s.run Q wq=.halt h u/\odd h=LH
def wN{Y M:Type}{R:Rel Y M}{s:Ps Y}(hs:Tri Q R s Z base wq){F:Lx LW}{K:Lt->Qq Y->OA}{r:Lt->OA}(I:∀u x,s.run Q u=x->∃j,r u=Ni j (K u x))(L:∀a u O b G,R O a b->Le Z O/\WR Q base O u G->Flat F (K wq (.ok a u))/\∀d f j,K wq (.ok a u)=.go d f j->d.status=.running->d.dying=Lw->f.tape=u.tape/\u.drawn<=f.drawn/\∀T,AI T u f.drawn->∃t,K (wq.tp T) (.ok a (u.tp T))=.go d (f.tp T) t)(l:∀v u,Flat F (K wq (.halt (.panic v) u))/\∀d f j,K wq (.halt (.panic v) u)=.go d f j->d.status=.running->d.dying=Lw->f=u/\∀T,∃t,K (wq.tp T) (.halt (.panic v) (u.tp T))=.go d (u.tp T) t)(z:∀h u,odd h=LH->Flat F (K wq (.halt h u))/\∀d f j,K wq (.halt h u)=.go d f j->d.status=.running->d.dying=Lw->PC) :One F wq r:=by
 have c:=iU Q s wq;have⟨b9,n⟩:=I wq _ rfl;rcases hs with⟨⟨y,o⟩,⟨a,u,e,O,b,G,hR,hl,H⟩ | ⟨v,u,e⟩⟩ | ⟨h,u,e,ho⟩
 ·rw[e] at n o y c;have⟨C,B⟩:=L a u O b G hR ⟨hl,H⟩;refine⟨by rw[n];exact mz C,λd f j h g i=>?_⟩;rw[n] at h;have⟨e0,A,_⟩:=dc h;have⟨h4,h5,V⟩:=B _ _ _ A g i;have c:wq.drawn<=u.drawn:=c;refine⟨h4.trans y,LN c h5,λT D=>?_⟩;have⟨X,U⟩:=I (wq.tp T) _ rfl;have p:s.run Q (wq.tp T)=.ok a (u.tp T):=o T λk q o N=>D k q o (LY N h5);have⟨W,S⟩:=V T λk q o N=>by rw[show u.tape=wq.tape from y];exact D k q (LN c o) N
  exact⟨_,by rw[U,p,S];rfl⟩
 ·rw[e] at n o y c;have⟨C,B⟩:=l v u;refine⟨by rw[n];exact mz C,λd f j h g i=>?_⟩;rw[n] at h;have⟨e0,A,_⟩:=dc h;obtain⟨rfl,V⟩:=B _ _ _ A g i;refine⟨y,c,λT D=>?_⟩;have⟨X,U⟩:=I (wq.tp T) _ rfl;have p:s.run Q (wq.tp T)=.halt (.panic v) (f.tp T):=o T D;have⟨W,S⟩:=V T;exact⟨_,by rw[U,p,S];rfl⟩
 ·rw[e] at n;have⟨C,B⟩:=z h u ho;refine⟨by rw[n];exact mz C,λd f j h g i=>?_⟩;rw[n] at h;have⟨e0,A,_⟩:=dc h;exact(B _ _ _ A g i).elim
def kZ{Y M:Type}{R:Rel Y M}{s:Ps Y}{n:Ps M}(p:SR Q P R s Z n)(t:base<=Z.length)(o:WR Q base Z wq w){j:Lx LW}{K:Lt->Qq Y->OA}{r:Lt->OA}(q:∀u x,s.run Q u=x->∃g,r u=Ni g (K u x))(k:∀a u O b l,R O a b->Le Z O/\WR Q base O u l->Flat j (K wq (.ok a u))/\∀c d g,K wq (.ok a u)=.go c d g->c.status=.running->c.dying=Lw->d.tape=u.tape/\u.drawn<=d.drawn/\∀T,AI T u d.drawn->∃f,K (wq.tp T) (.ok a (u.tp T))=.go c (d.tp T) f)(e:∀v u,Flat j (K wq (.halt (.panic v) u))/\∀c d g,K wq (.halt (.panic v) u)=.go c d g->c.status=.running->c.dying=Lw->d=u/\∀T,∃f,K (wq.tp T) (.halt (.panic v) (u.tp T))=.go c (u.tp T) f)(i:∀h u,odd h=LH->Flat j (K wq (.halt h u))/\∀c d g,K wq (.halt h u)=.go c d g->c.status=.running->c.dying=Lw->PC) :One j wq r:=wN (p.tri t o) q k e i
def qL(H:Duo Q P)(A:base<=Z.length)(z:WR Q base Z wq w){f:LW}{cs:Lx LW}(q:∀d r s k,f.todo≠.call d LG r s::k){s:Ps Qz}(p:Tri Q (cQ) s Z base wq):One cs wq (λu=>Nq Q LG f cs Lw s u):=by
 apply wN p
 ·intro u x o;apply QV;unfold Nq;simp only[if_true,ME,o];exact rfl
 ·intro a u O b y t _;cases t with
  | recover=>
   rcases hX:Mq f cs with _ | ⟨v,k⟩<;>cases hro:f.roundOf<;>simp only[hX,hro,H.rfr,if_true] <;>
    exact⟨flx,λi e j h _ _=>by cases h;exact⟨rfl,LC _,λT _=>⟨_,rfl⟩⟩⟩
  | _=>exact⟨flx,λi e j h _ _=>by cases h;exact⟨rfl,LC _,λT _=>⟨_,rfl⟩⟩⟩
 ·intro v u;exact⟨flx,λi e j h _ _=>by cases h;exact⟨rfl,λT=>⟨_,rfl⟩⟩⟩
 ·intro h u n;cases h with
  | panic v=>cases n
  | goexit=>cases n
  | unsupported x=>
   cases x with
   | initOrder g=>cases n
   | _=>exact⟨flx,λi e j h _ _=>by cases h⟩
  | blocked=>exact⟨flx,λi e j h l _=>by cases h;cases l⟩
  | waiting=>exact⟨flx,λi e j h l _=>by cases h;cases l⟩
  | throw m=>exact⟨flx,λi e j h _ c=>by simp only[SF,Yj,PX] at h;rw[<- h.1] at c;cases c⟩
  | fatal m=>exact⟨rp,λi e j h _ c=>absurd c (bz h)⟩
  | _=>exact⟨flx,λi e j h _ _=>by cases h⟩
def SM.tri{Y M:Type}{R:Rel Y M}{s:Ps Y}{i:Ps M}(k:SM Q P R s Z i)(l:ji (s.run Q wq)->Knows Q s wq)(o:base<=Z.length)(c:WR Q base Z wq w):Tri Q R s Z base wq:=by
 by_cases d:ji (s.run Q wq)
 ·refine .inl ⟨l d,?_⟩;have f:WR Q base Z wq { w with tape:=λn q=>wq.tape (n - w.drawn+wq.drawn) q }:=⟨c.len,c.nodup,c.lt,c.obj,c.low,c.env,c.below,c.gar⟩;have⟨O,j,t,p,b,_,_,e,g⟩:=k (D:=(rwR (s.run Q wq)).drawn) o f (λn q _=>by
   show wq.tape (wq.drawn+n) q=wq.tape (w.drawn+n - w.drawn+wq.drawn) q;rw[show w.drawn+n - w.drawn+wq.drawn=wq.drawn+n by omega]) (LC _) d
  generalize s.run Q wq=r at b;generalize (Nm P i _)=r' at b;cases b with
  | ok _ _ h=>exact .inl ⟨_,_,rfl,O,_,_,h,g.le,e⟩
  | panic _ _ _=>exact .inr ⟨_,_,rfl⟩
 ·refine .inr ?_;cases hr:s.run Q wq with
  | ok a u=>rw[hr] at d;exact absurd trivial d
  | halt h u=>
   rw[hr] at d;exact⟨h,u,rfl,by cases ho:odd h with | false=>rfl | true=>exact absurd ho d⟩
def ym(H:Pair Q P)(g:base<=Z.length)(d:WR Q base Z wq w){e t:MS->LA}(b:∀x,aQ Q x->VR Z (e x) (t x))(i:Gl P Z)(p:Inj Z)(q:∀v,e (.const v)=v){o:NB}(f:aX Q o.op) :Tri Q (@cQ _) (OZ e o) Z base wq:=by
 cases hmu:Eu o.op with
 | false=>exact(sZ H b i p q f hmu).tri g d
 | true=>
  refine SM.tri (tf H b i p q f) (λc=>?_) g d;obtain⟨y,A,z,r,after,guard⟩:=o;dsimp only at f hmu;have fin:∀{s:Ps Unit},ji ((do s;pure Next.skip:Ps Qz).run Q wq)->ji (s.run Q wq):=λ{s} c=>by
   rw[NF] at c;cases hx:s.run Q wq with
   | ok a u=>trivial
   | halt h u=>rw[hx] at c;exact c
  cases f with
  | mapUpdate n l k j=>exact Kf (nj H.tables i g d n (b _ l) (b _ k) (b _ j) (fin c))
  | insert n l k j=>exact Kf (nj H.tables i g d n (b _ l) (b _ k) (b _ j) (fin c))
  | _=>cases hmu
def ot(H:Duo Q P)(c:base<=Z.length)(b:WR Q base Z wq w){f:LW}{cs:Lx LW}(a:∀d r s k,f.todo≠.call d LG r s::k){s s':Ps Qz}(e:SR Q P cQ s Z s'):One cs wq (λu=>Nq Q LG f cs Lw s u):=qL H c b a (e.tri c b)
def lJ(f:LW)(a:Lx LW)(v:LA):(∃g,(Live g\/xZ g\/a=[])/\∀u,NX Q LG f a Lw v u=.go g u #[])\/∃o,∀u,NX Q LG f a Lw v u=.ended o u #[]:=by
 unfold NX;cases a with
 | cons c a=>
  dsimp only;split;all_goals exact .inl ⟨_,flx,λu=>rfl⟩
 | nil=>
  dsimp only;split
  ·rename_i h;cases h
  ·exact .inr ⟨_,λu=>rfl⟩
  ·simp only[Ri,Mx,if_false];split
   ·exact .inl ⟨_,flx,λu=>rfl⟩
   ·exact .inr ⟨_,λu=>rfl⟩
def dz{a:Lx LW}{r:Lt->OA}{g:LD}(h:∀u,r u=.go g u #[])(b:Live g\/xZ g\/a=[]:=by exact flx):One a wq r :=
 ⟨by rw[h];exact b,λd c f e _ _=>by rw[h] at e;cases e;exact⟨rfl,LC _,λT _=>⟨_,h _⟩⟩⟩
def eG(y:base<=Z.length)(s:WR Q base Z wq w){f:LW}{n:Lx LW}{d:NR}{q:Ps Qz}(t:SR Q P cQ (invoke d.target d.args) Z q):One n wq (λu=>NT Q f n Lw d u):=by
 by_cases p:(gK d.target && gJ f.mode)=LG
 ·refine ff ⟨.unsupported (.noEntry "machine/Return: a deferred call of a nil function value, made while the frame is unwinding") (f.pos Q),wq,#[],?_⟩;show NT Q f n Lw d wq=_;unfold NT;exact if_pos p
 apply kZ t y s
 ·intro u x r;apply QV;show NT Q f n Lw d u=_;unfold NT;refine(if_neg p).trans ?_;simp only[ME,r];exact rfl
 ·intro a u O b A z _;cases z with
  | recover=>
   rcases hX:Mq f n with _ | ⟨v,k⟩<;>cases hm:f.mode<;>simp only[hX,hm] <;>
    exact⟨flx,λi e j h _ _=>by cases h;exact⟨rfl,LC _,λT _=>⟨_,rfl⟩⟩⟩
  | _=>exact⟨flx,λi e j h _ _=>by cases h;exact⟨rfl,LC _,λT _=>⟨_,rfl⟩⟩⟩
 ·intro v u;exact⟨flx,λi e j h _ _=>by cases h;exact⟨rfl,λT=>⟨_,rfl⟩⟩⟩
 ·intro h u o;cases h with
  | panic v=>cases o
  | goexit=>cases o
  | unsupported x=>
   cases x with
   | initOrder g=>cases o
   | _=>exact⟨flx,λi e j h _ _=>by cases h⟩
  | blocked=>exact⟨flx,λi e j h l _=>by cases h;cases l⟩
  | waiting=>exact⟨flx,λi e j h l _=>by cases h;cases l⟩
  | throw m=>exact⟨flx,λi e j h _ c=>by simp only[SF,Yj,PX] at h;rw[<- h.1] at c;cases c⟩
  | fatal m=>exact⟨rp,λi e j h _ c=>absurd c (bz h)⟩
  | _=>exact⟨flx,λi e j h _ _=>by cases h⟩
def qK(H:Duo Q P)(C:base<=Z.length)(s:WR Q base Z wq w)(Y:Gl P Z){f f':LW}(R:aF Q P Z f f')(V:Lx LW) :One V wq (λu=>Qw Q LG f V Lw u):=by
 have B:=R.defers;unfold Qw;generalize b9:f.defers=ds at B;generalize W:f'.defers=U at B;cases B with
 | @cons d d' ds U X b8=>
  obtain⟨t,a⟩:=d;obtain⟨t',a'⟩:=d';have G:SR Q P cQ (invoke t a) Z (invoke t' a'):=iQ H.toPair Y X;rcases id X with⟨F,_⟩ | ⟨S,_,n,c,h3⟩
  case bound=>
   dsimp only at S h3;subst S;subst h3;exact eG C s G
  dsimp only at F;cases F with
  | @collected i j N=>
   apply kZ (zV (Q:=Q) (P:=P) N) C s
   ·intro u x M;apply QV;simp only[ME,M];exact rfl
   ·intro l u O b D hR _;exact⟨flx,λq k r h _ _=>by cases h;exact⟨rfl,LC _,λT _=>⟨_,rfl⟩⟩⟩
   ·intro v u;exact⟨flx,λq k r h _ _=>by cases h⟩
   ·intro h u ho;exact⟨flx,λq k r h _ _=>by cases h⟩
  | fn S h2=>exact eG C s G
  | meth n h=>exact eG C s G
  | nil=>exact eG C s G
  | builtin x y z c h=>exact eG C s G
 | nil=>
  dsimp only;have⟨gf,I,b7⟩:=R.same;cases hm:f.mode with
  | run=>exact ff ⟨_,_,_,rfl⟩
  | panicking l=>
   dsimp only;have L:f.catches Q=LH:=by unfold TZ;rw[I]
   rw[L];simp only[Mx,if_false]
   repeat' split
   all_goals first
    | exact dz λu=>rfl
    | exact ff ⟨_,_,_,rfl⟩
    | exact⟨flx,λq k r h A p=>by cases h;cases A⟩
    | exact⟨flx,λq k r h A p=>by cases h;cases p⟩
    | skip
   constructor
   ·show Flat _ (match (WB l LH).run Q wq with | .ok todo w=>_ | .halt (.unsupported u) w=>_ | .halt h w=>_);cases(WB l LH).run Q wq with
    | ok a D=>exact flx
    | halt x D=>cases x<;>exact flx
   ·intro q k r h A p;exfalso;revert h;cases(WB l LH).run Q wq with
    | ok a D=>intro h;cases h;cases p
    | halt x D=>cases x<;>(intro h;cases h)
  | returning=>
   dsimp only;rw[I];dsimp only;apply kZ (lV H Y gf R.tmps) C s
   ·intro u x M;apply QV;simp only[ME,M];exact rfl
   ·intro v u O b D hR _;rcases lJ (Q:=Q) f V v with⟨g,hl,h⟩ | ⟨o,h⟩
    ·refine⟨?_,λq k r e _ _=>?_⟩
     ·dsimp only;rw[h];exact hl
     ·dsimp only at e ⊢;rw[h] at e;cases e;exact⟨rfl,LC _,λT _=>⟨_,h _⟩⟩
    ·refine⟨?_,λq k r e _ _=>?_⟩
     ·dsimp only;rw[h];trivial
     ·dsimp only at e ⊢;rw[h] at e;cases e
   ·intro v u;exact⟨flx,λq k r h _ _=>by cases h⟩
   ·intro h u ho;cases h<;>exact⟨flx,λq k r h _ _=>by cases h⟩
def lg(G:base<=Z.length)(B:WR Q base Z wq w){f I:LW}(F:aF Q P Z f I)(c:Lx LW)(H:Duo Q P){j:LU Og}(D:∀x,j=Lq x->aI Q x){s z:String} :
  One c wq (λu=>match f.roundOf with
   | none=>if qV j=LG then .go { frame:={ f with mode:=.returning },callers:=c,status:=.running,dying:=Lw } u else .ended (.stuck s (f.pos Q)) u
   | some l=>
    let (r,a):=(OR l j).runT Q u #[]
    Ni (seen Q f.fn a) <| match r with
    | .ok v w=>NX Q LG f c Lw v w
    | .halt _ w=>.ended (.stuck z (f.pos Q)) w):=by
 rcases F.round with⟨n,A⟩ | ⟨i,k,n,A,q⟩
 ·rw[n];dsimp only;by_cases y:qV j=LG
  ·simp only[if_pos y];exact dz λu=>rfl
  ·simp only[if_neg y];exact ff ⟨_,_,_,rfl⟩
 ·rw[n];apply kZ (oP (Q:=Q) (P:=P) q λx p=>(H.codes x).2 (D x p)) G B
  ·intro u x p;apply QV;simp only[ME,p];exact rfl
  ·intro v u O b L N _;rcases lJ (Q:=Q) f c v with⟨g,C,h⟩ | ⟨o,h⟩
   ·refine⟨?_,λt d a e _ _=>?_⟩
    ·dsimp only;rw[h];exact C
    ·dsimp only at e ⊢;rw[h] at e;cases e;exact⟨rfl,LC _,λT _=>⟨_,h _⟩⟩
   ·refine⟨?_,λt d a e _ _=>?_⟩
    ·dsimp only;rw[h];trivial
    ·dsimp only at e ⊢;rw[h] at e;cases e
  ·intro v u;exact⟨flx,λt d a h _ _=>by cases h⟩
  ·intro h u M;exact⟨flx,λt d a h _ _=>by cases h⟩
def Ea(H:Duo Q P)(S:base<=Z.length)(N:WR Q base Z wq w)(hG:Gl P Z){f f':LW}(B:aF Q P Z f f')(cs:Lx LW) :One cs wq (λu=>Pf Q LG LG f cs Lw u):=by
 obtain⟨X,p,b8,g,t,z,ro⟩:=f;obtain⟨d6,C,Y,q,L,M,a6⟩:=f';have c3:=B.todo;have b0:∀x,aQ Q x->VR Z (QH ⟨X,p,b8,g,t,z,ro⟩ x) (QH ⟨d6,C,Y,q,L,M,a6⟩ x):=λx A=>B.eval hG H.gsize A;unfold Pf;dsimp only at c3 ⊢;cases c3 with
 | nil=>exact lg S N B cs H (j:=Lw) (λx h=>by cases h)
 | @cons x x' k k' A hk=>
  cases A with
  | @code c hc=>
   cases hc with
   | skip=>exact dz λu=>rfl
   | label n=>exact dz λu=>rfl
   | ret=>exact lg S N B cs H (j:=Lq .ret) (λx h=>by cases h;exact .ret)
   | seq h1 h2=>exact dz λu=>rfl
   | @cond c x y h0 h1 h2=>
    dsimp only;split
    ·exact dz λu=>rfl
    ·exact ff ⟨_,_,_,rfl⟩
   | block h=>exact dz λu=>rfl
   | loop h=>exact dz λu=>rfl
   | scope h=>exact dz λu=>rfl
   | exit id=>
    dsimp only;cases Rz id k with
    | none=>exact lg S N B cs H (j:=Lq (.exit id)) (λx h=>by cases h;exact .exit id)
    | some m=>exact dz λu=>rfl
   | goto n=>
    dsimp only;cases Sl n k with
    | none=>exact lg S N B cs H (j:=Lq (.goto n)) (λx h=>by cases h;exact .goto n)
    | some m=>exact dz λu=>rfl
   | @region id I d W=>
    dsimp only;cases d with
    | false=>exact dz λu=>rfl
    | true=>
     simp only[Ri,Mx,if_false,oq];refine⟨flx,λg' w' es h _ _=>?_⟩;cases h;refine⟨rfl,Wz _,λT hT=>?_⟩;have e:(wq.tp T).tape (wq.tp T).drawn (.order X id)=wq.tape wq.drawn (.order X id):=hT _ _ (LC _) (QM _);rw[e];exact⟨_,rfl⟩
   | @rangeFunc c ps a bd h0 h1 h2=>
    dsimp only;apply kZ (mM (Q:=Q) (P:=P) X ((H.same X).2 ⟨B.same,B.okf⟩) B.tmps ps ((H.codes a).2 h1) ((H.codes bd).2 h2) B.round) S N
    ·intro u x A;apply QV;simp only[ME];dsimp only at A;rw[A]
    ·intro x u O y w1 hR ⟨hl,e6⟩;obtain⟨i,m⟩:=x;obtain⟨i',m'⟩:=y;obtain⟨c8,hm⟩:=hR;dsimp only at c8 hm ⊢;have hy:AsR O #[Value.func (Fn.yield i) #[] #[]] #[Value.func (Fn.yield i') #[] #[]] :=
      AsR.one (.func (a:=#[]) (a':=#[]) (c:=#[]) (c':=#[]) (.yield c8) rfl (λi x y A=>by simp at A) rfl (λi x y A=>by simp at A))
     have b9:∀(e:MS->LA) (v:LA),#[Operand.const v].map e=#[e (.const v)]:=λe v=>by simp
     have:=ot (cs:=cs) (f:=⟨X,p,.inRangeFunc i::k,m++g,t,z,ro⟩) H (LN S hl.len) e6 (λd r s k e=>by cases e)
      (s:=do let d <- resolve (QH ⟨X,p,.inRangeFunc i::k,m++g,t,z,ro⟩) { callee:=.value c,args:=#[.const (.func (.yield i) #[] #[])],argTypes:=#[] } 0;invoke d.target d.args)
      (s':=do let d <- resolve (QH ⟨d6,C,.inRangeFunc i'::k',m'++q,L,M,a6⟩) { callee:=.value c,args:=#[.const (.func (.yield i') #[] #[])],argTypes:=#[] } 0;invoke d.target d.args)
      (.bnd (R:=fM) (lW H.toPair ((b0 _ h0).mono hl) (by rw[b9,b9];exact hy)) λV d d' l' hd=>iQ H.toPair (hG.mono (hl.trans l')) hd)
     exact⟨this.flat,this.go⟩
    ·intro v u;exact⟨flx,λg' w' es h _ _=>by cases h⟩
    ·intro h u ho;exact⟨flx,λg' w' es h _ _=>by cases h⟩
  | inBlock id=>exact dz λu=>rfl
  | inScope h=>exact dz λu=>rfl
  | inLoop h=>exact dz λu=>rfl
  | @inRegion I l W=>
   cases l with
   | nil=>exact dz λu=>rfl
   | cons i l=>
    dsimp only;by_cases hc:((I[i]?).map (MA · (Od I p))).getD LH=LG
    ·simp only[if_pos hc];unfold Ta Frame.oper?;dsimp only;cases ho:I[i]? with
     | none=>exact ff ⟨_,_,_,rfl⟩
     | some o=>
      dsimp only;have a7:=W o (by rw[Oy];exact NN ho);have G:=qL (cs:=cs) H S N (f:=⟨X,p,.inRegion I (i::l)::k,g,t,z,ro⟩) (λd r s k e=>by cases e) (ym H.toPair S N b0 hG N.nodup (λv=>rfl) a7);rcases B.round with⟨F,D⟩ | ⟨a,b',F,D,a8⟩
      ·dsimp only at F D;subst F;subst D;exact G
      ·dsimp only at F D;subst F;subst D;by_cases U:∃c,o.op=.defer c
       ·obtain⟨c,U⟩:=U;rw[U] at a7 ⊢;dsimp only;cases a7 with
        | defer b6=>
         exact ot H S N (λd r s k e=>by cases e) (SR.bnd (jq H.toPair b0 b6 _) λO d d' l hd=>.bnd (jS (a8.mono l) hd) λV _ _ _ _=>aj .skip)
       ·split
        ·rename_i e1 e2
         exact absurd ⟨_,e2⟩ U
        ·exact G
    ·simp only[if_neg hc];exact dz λu=>rfl
  | inRangeFunc h=>exact ff ⟨_,_,_,rfl⟩
  | @endRangeFunc i j h=>
   dsimp only;apply kZ (qz H hG h) S N
   ·intro u x A;apply QV;simp only[ME,A];exact rfl
   ·intro l u O b w1 hR _;exact⟨flx,λg' w' es h _ _=>by cases h;exact⟨rfl,LC _,λT _=>⟨_,rfl⟩⟩⟩
   ·intro v u;exact⟨flx,λg' w' es h _ _=>by cases h;exact⟨rfl,λT=>⟨_,rfl⟩⟩⟩
   ·intro h u ho;cases h<;>first | (cases ho;done) | exact⟨flx,λg' w' es h _ _=>by cases h⟩
  | beginRound=>
   dsimp only;refine ot (P:=P) (s':=(do a6.elim (stuck "beginRound: no round") Uf;pure .skip)) H S N (λd r s k e=>by cases e) ?_;refine .bnd (R:=λ_ _ _=>Ro) ?_ λO _ _ _ _=>aj .skip;rcases B.round with⟨F,D⟩ | ⟨i,j,F,D,a8⟩
   ·dsimp only at F D;rw[F,D];exact au
   ·dsimp only at F D;rw[F,D];exact lD H hG a8
def wM(H:Duo Q P)(c:base<=Z.length)(b:WR Q base Z wq w)(d:Gl P Z){g i:LD}(l:hU Q P Z g i):One g.callers wq (λu=>Nb Q LG g u LG):=by
 obtain⟨r,e,s,v,j⟩:=g;obtain⟨a,q,p,o,h,n⟩:=l;dsimp only at a q p o h n;subst h;have hm:=a.mode;unfold Nb;dsimp only;generalize k:r.mode=m at hm;generalize f:i.frame.mode=m' at hm;cases hm with
 | run=>exact Ea H c b d a e
 | returning=>exact qK H c b d a e
 | panicking t=>exact qK H c b d a e
end
end
section
inductive LP (Q:LV) (F:LD->Lt->Prop):LD->Lt->Prop
 | done {g:LD} {u:Lt}:F g u->LP Q F g u
 | step {g g1:LD} {u u1:Lt} {es:LM Ns}:Nb Q LG g u LG=.go g1 u1 es->g1.status=.running->g1.dying=Lw->LP Q F g1 u1->LP Q F g u
inductive LT (Q:LV) (F:LD->Lt->Prop):LD->Lt->Prop
 | done {g:LD} {u:Lt}:F g u->LT Q F g u
 | step {g:LD} {u:Lt}:¬ F g u->(∀T,∃g1 u1 es,Nb Q LG g (u.tp T) LG=.go g1 u1 es/\g1.status=.running/\g1.dying=Lw) ->
   (∀T g1 u1 es,Nb Q LG g (u.tp T) LG=.go g1 u1 es->LT Q F g1 u1)->LT Q F g u
section
variable[JunkSet]{Q:LV}{base:Ly}{F:LD->Lt->Prop}
def jP(Q:LV)(base:Ly)(g:LD)(u:Lt):Prop :=
 ∃Z a w,base<=Z.length/\WR Q base Z u w/\Gl Q Z/\hU Q Q Z g a
def WR.tape{Z:Ren}{u w:Lt}(h:WR Q base Z u w)(T a:Ly->NU->Ly):WR Q base Z (u.tp T) (w.tp a):=⟨h.len,h.nodup,h.lt,h.obj,h.low,h.env,h.below,h.gar⟩
def jP.tape{g:LD}{u:Lt}(h:jP Q base g u)(T:Ly->NU->Ly):jP Q base g (u.tp T) :=
 let ⟨Z,g',w,h1,h2,h3,h4⟩:=h
 ⟨Z,g',w,h1,h2.tape T w.tape,h3,h4⟩
def jP.one(H:Duo Q Q){g:LD}{u:Lt}(h:jP Q base g u):One g.callers u (λu=>Nb Q LG g u LG) :=
 let ⟨_,_,_,h1,h2,h3,h4⟩:=h
 wM H h1 h2 h3 h4
def jP.next(H:Duo Q Q){g a:LD}{u u1:Lt}{y:LM Ns}(h:jP Q base g u)(e:Nb Q LG g u LG=.go a u1 y)(i:a.status=.running)(j:a.dying=Lw):jP Q base a u1:=by
 have hm:=((h.one H).go _ _ _ e i j).2.1;obtain⟨Z,z,w,l,v,k,t⟩:=h;have b:=v.tape u.tape (λn q=>u.tape (n - w.drawn+u.drawn) q);have s:bY u1.drawn u (w.tp λn q=>u.tape (n - w.drawn+u.drawn) q):=λn q _=>by
  show u.tape (u.drawn+n) q=u.tape (w.drawn+n - w.drawn+u.drawn) q;rw[show w.drawn+n - w.drawn+u.drawn=u.drawn+n by omega]
 have⟨O,c,o,x,_,r,p,_,d,_⟩:=DF H l b k s hm t LG _ _ _ e (LC _) i j rfl;exact⟨O,c,o,LN l d.le.len,p,k.mono d.le,r⟩
def vI(u:Lt)(T a:Ly->NU->Ly):(u.tp T).tp a=u.tp a:=rfl
def pP(u:Lt):u.tp u.tape=u:=rfl
def LP.ext(H:Duo Q Q)(j:∀g u T,F g u->F g (u.tp T)){g:LD}{u:Lt}(h:LP Q F g u)(d:jP Q base g u){T:Ly->NU->Ly}(f:∀k q,u.drawn<=k->T k q=u.tape k q):LP Q F g (u.tp T):=by
 induction h with
 | done h=>exact .done (j _ _ _ h)
 | @step g s u u1 t e a c _ i=>
  have⟨o,n,l⟩:=(d.one H).go _ _ _ e a c;have⟨p,r⟩:=l T λk q b _=>f k q b;exact .step r a c (i (d.next H e a c) λk q b=>by rw[o];exact f k q (LN n b))
def LP.inv{g:LD}{u:Lt}(d:¬ F g u)(h:LP Q F g u):∃a u1 f,Nb Q LG g u LG=.go a u1 f/\a.status=.running/\a.dying=Lw/\LP Q F a u1:=by
 cases h with
 | done h=>exact absurd h d
 | step e b c h=>exact⟨_,_,_,e,b,c,h⟩
def LP.rest(H:Duo Q Q)(p:∀g u T,F g u->F g (u.tp T)){g b:LD}{u u1:Lt}{y:LM Ns}(n:jP Q base g u)(r:¬ F g u)(h:∀T,LP Q F g (u.tp T)){T:Ly->NU->Ly}(e:Nb Q LG g (u.tp T) LG=.go b u1 y)(l:b.status=.running)(o:b.dying=Lw)(a:Ly->NU->Ly):LP Q F b (u1.tp a):=by
 have d:=(n.tape T).next H e l o
 have⟨B,A,v⟩:=((n.tape T).one H).go _ _ _ e l o
 let c:Ly->NU->Ly:=λk q=>if k<u1.drawn then T k q else a k q
 have⟨x,j⟩:=v c λk q _ i=>by show(if k<u1.drawn then T k q else a k q)=T k q;rw[if_pos i]
 rw[vI] at j;have f:¬ F g (u.tp c):=λs=>r (by have:=p _ _ u.tape s;rwa [vI,pP] at this);have⟨C,u2,w,z,_,_,t⟩:=LP.inv f (h c);rw[z] at j;cases j;have:=LP.ext H p t (d.tape c) (T:=a) λk q i=>by
  show a k q=if k<u1.drawn then T k q else a k q;rw[if_neg (by have:u1.drawn<=k:=i;omega)]
 exact this
def LT.of_all(H:Duo Q Q)(X:∀g u T,F g u->F g (u.tp T)){g:LD}{u:Lt}(A:jP Q base g u)(h:∀T,LP Q F g (u.tp T)):LT Q F g u:=by
 classical
 refine MX λp=>?_
 let D:LD × Lt->Prop:=λx=>jP Q base x.1 x.2/\(∀T,LP Q F x.1 (x.2.tp T))/\¬ LT Q F x.1 x.2
 have next:∀x:{x // D x},∃y:(Ly->NU->Ly) × {y // D y},∃j,Nb Q LG x.1.1 (x.1.2.tp y.1) LG=.go y.2.1.1 y.2.1.2 j/\y.2.1.1.status=.running/\y.2.1.1.dying=Lw:=by
  rintro⟨⟨g,u⟩,A,t,P⟩;dsimp only at A t P ⊢;have s:¬ F g u:=λs=>P (.done s);have C:∀T,¬ F g (u.tp T):=λT hh=>s (by have:=X _ _ u.tape hh;rwa [vI,pP] at this);refine MX λp=>P (.step s (λT=>?_) λT G u1 j e=>?_)
  ·have⟨G,u1,j,e,l,o,_⟩:=LP.inv (C T) (t T);exact⟨G,u1,j,e,l,o⟩
  ·have⟨g2,u2,Z,I,l,o,_⟩:=LP.inv (C T) (t T);rw[e] at I;cases I;refine MX λr=>p ⟨(T,⟨(G,u1),(A.tape T).next H e l o,λT'=>LP.rest H X A s t e l o T',r⟩),j,e,l,o⟩
 let d:{x // D x}->(Ly->NU->Ly) × {y // D y}:=λx=>ND (next x)
 have B:∀x,∃j,Nb Q LG x.1.1 (x.1.2.tp (d x).1) LG=.go (d x).2.1.1 (d x).2.1.2 j/\(d x).2.1.1.status=.running/\(d x).2.1.1.dying=Lw:=λx=>Nk (next x)
 let a:Ly->{x // D x}:=λn=>Nat.rec ⟨(g,u),A,h,p⟩ (λ_ x=>(d x).2) n
 have a7:∀n,a (n+1)=(d (a n)).2:=λn=>rfl
 let b:Ly->Ly:=λn=>(a n).1.2.drawn
 have i:∀n,b n<=b (n+1):=λn=>by
  have⟨j,e,l,o⟩:=B (a n);exact((((a n).2.1.tape _).one H).go _ _ _ e l o).2.1
 have c:∀m n,m<=n->b m<=b n:=λm n R=>by
  induction R with
  | refl=>exact LC _
  | step _ N=>exact LN N (i _)
 let L:Ly->NU->Ly:=λk q=>if f:∃n,b n<=k/\k<b (n+1) then(d (a (ND f))).1 k q else 0
 have W:∀n k q,b n<=k->k<b (n+1)->L k q=(d (a n)).1 k q:=λn k q z w=>by
  have f:∃n,b n<=k/\k<b (n+1):=⟨n,z,w⟩;show(if f:∃n,b n<=k/\k<b (n+1) then(d (a (ND f))).1 k q else 0)=_;rw[dif_pos f];have⟨Y,h4⟩:=Nk f;have:ND f=n:=by
   rcases Nat.lt_trichotomy (ND f) n with r | he | U
   ·exact absurd (LY h4 (LN (c (ND f+1) n r) z)) (Rh _)
   ·exact he
   ·exact absurd (LY w (LN (c (n+1) (ND f) U) Y)) (Rh _)
  rw[this]
 have M:∀(x:LD) (v:Lt),LP Q F x v->∀n,x=(a n).1.1->v=(a n).1.2.tp L->PC:=by
  intro x v t;induction t with
  | @done g u s=>
   intro n z w;subst z;subst w;exact(a n).2.2.2 (.done (by have:=X _ _ (a n).1.2.tape s;rwa [vI,pP] at this))
  | @step g G u u1 j e l o _ N=>
   intro n z w;subst z;subst w;have⟨Z,I,O,V⟩:=B (a n);have⟨_,_,Y⟩:=(((a n).2.1.tape _).one H).go _ _ _ I O V;have⟨b8,e3⟩:=Y L λk q hk S=>W n k q hk S;rw[vI] at e3;rw[e] at e3;cases e3;exact N (n+1) rfl rfl
 exact M _ _ (h L) 0 rfl rfl
end
end
section
def ax(f:Nh):LW:={ fn:=f,tmps:=#[],todo:=[.code (.exit 0)],defers:=[{ target:=.nil,args:=#[] }],mode:=.run,kind:=.normal }
def Popped(f:Nh)(a:LW):Prop:=a=ax f\/∃l,a={ ax f with mode:=.panicking l }
def Stk(f:Nh)(g:LD):Prop:=(∃pre,g.callers=pre++[ax f])\/(g.callers=[]/\Popped f g.frame)
def di(f:Nh)(r:OA):Prop:=∀a u1 b,r=.go a u1 b->a.status=.running->a.dying=Lw->Stk f a
section
variable[JunkSet]{Q:LV}{f:Nh}
def ed{s:OA}{g:LM Ns}(h:di f s):di f (Ni g s):=λi u1 d e a b=>by
 have⟨j,c,_⟩:=dc e;exact h _ _ _ c a b
def aO{o:Uo}{u:Lt}{a:LM Ns}:di f (.ended o u a):=λ_ _ _ e _ _=>by cases e
def bp{d:LW}{pre b:Lx LW}{c:OS}{i:LU Re}{a:LU (LM Pg × OK)}{u:Lt}{g:LM Ns}(h:b=pre++[ax f]):di f (.go { frame:=d,callers:=b,status:=c,dying:=i,offers:=a } u g):=λ_ _ _ e _ _=>by
 cases e;exact .inl ⟨pre,h⟩
def xh{g:LD}{u:Lt}{b:LM Ns}(h:g.dying≠Lw):di f (.go g u b):=λ_ _ _ e _ a=>by cases e;exact absurd a h
def fH{s:OA}(h:∀g u a,s≠.go g u a):di f s:=λg u a e _ _=>absurd e (h g u a)
def pd{b:LW}{c:Lx LW}{m:String}{u:Lt}:di f (To Q b c Lw m u):=λd u1 g e _ a=>absurd a (bz e)
def kI{a:LW}{m:String}{u:Lt}:di f (SF a m u):=xh (by simp)
def iW{c:LW}{a:Lx LW}{pre:Lx LW}(h:c::a=pre++[ax f]){b:LW}{d:OS}{j:LU Re}{u:Lt}{i:LM Ns}(g:c=ax f->Popped f b) :di f (.go { frame:=b,callers:=a,status:=d,dying:=j } u i):=λ_ _ _ e _ _=>by
 cases e;cases pre with
 | nil=>
  simp only[Mu,OT] at h;exact .inr ⟨h.2,g h.1⟩
 | cons p pre=>
  simp only[Mk,OT] at h;exact .inl ⟨pre,h.2⟩
def oV:Popped f (ax f):=.inl rfl
def lF(v:LA):Popped f ((ax f).finish v):=.inl rfl
def uD(l:Lx QU):Popped f ((ax f).raise l):=.inr ⟨l,rfl⟩
def lE:∀{b:Lx LW} {d:LW} {pre k:Lx LW} {v:LA},b=pre++[ax f]->Mq d b=Lq (v,k)->∃a,k=a++[ax f]:=by
 intro b;induction b with
 | nil=>intro d pre k v h;cases pre<;>simp at h
 | cons c b g=>
  intro d pre k v h e;unfold Mq at e;cases hk:d.kind with
  | deferred=>
   rw[hk] at e;dsimp only at e;cases pre with
   | nil=>
    simp only[Mu,OT] at h;rw[h.1] at e;cases e
   | cons p pre=>
    simp only[Mk,OT] at h;split at e
    ·simp only[MM,Prod.mk.injEq] at e;exact⟨_::pre,by rw[<- e.2,h.2];rfl⟩
    ·cases e
  | wrapped=>
   rw[hk] at e;dsimp only at e;cases pre with
   | nil=>
    simp only[Mu,OT] at h;rw[h.1,h.2] at e;cases e
   | cons p pre=>
    simp only[Mk,OT] at h;cases ht:Mq c b with
    | none=>rw[ht] at e;cases e
    | some x=>
     obtain⟨j,l⟩:=x;rw[ht] at e;simp only[Ng,MM,Prod.mk.injEq] at e;have⟨a,i⟩:=g h.2 ht;exact⟨c::a,by rw[<- e.2,i];rfl⟩
  | _=>rw[hk] at e;cases e
def jF{d:LW}{a pre:Lx LW}(h:a=pre++[ax f])(v:LA)(u:Lt):di f (NX Q LG d a Lw v u):=by
 unfold NX;cases a with
 | nil=>cases pre<;>simp at h
 | cons c b=>
  dsimp only;split
  ·exact iW h λe=>e ▸ lF v
  ·exact iW h λe=>e ▸ lF v
  ·exact iW h λe=>e ▸ oV
  ·exact iW h λe=>by subst e;exact oV
def BM{e a:LW}{X pre c:Lx LW}{d:OS}{i:LU Re}{b:LU (LM Pg × OK)}{u:Lt}{g:LM Ns}(h:c=pre++[ax f]):di f (.go { frame:=e,callers:=X++a::c,status:=d,dying:=i,offers:=b } u g) :=
 bp (pre:=X++a::pre) (by rw[h];simp)
def qZ{e a:LW}{pre c:Lx LW}{d:OS}{i:LU Re}{b:LU (LM Pg × OK)}{u:Lt}{g:LM Ns}(h:c=pre++[ax f]):di f (.go { frame:=e,callers:=a::c,status:=d,dying:=i,offers:=b } u g) :=
 bp (pre:=a::pre) (by rw[h];simp)
def xg{b:LW}{d pre:Lx LW}(h:d=pre++[ax f])(g:Ly)(u:Lt):di f (early Q b d Lw g u):=by
 unfold early;have e:∀w:Lt,di f (match w.heap[g]? with
  | some (.pending c a)=>.go { frame:=b,callers:=d,status:=.running,dying:=Lw } { w with heap:=w.heap.setIfInBounds g (.cells c a) }
  | _=>.ended (.stuck "early: the variable does not wait" (b.pos Q)) w):=λw=>by
  split
  ·exact bp h
  ·exact aO
 dsimp only;split
 ·exact e _
 ·split
  ·exact aO
  ·repeat' split
   all_goals first
    | exact e _
    | exact aO
    | exact bp h
    | exact BM h
    | skip
def fI(hrf:Q.follows .rangeFuncRecover=LG){b:LW}{c pre:Lx LW}(h:c=pre++[ax f])(s:Ps Qz)(u:Lt):di f (Nq Q LG b c Lw s u):=by
 unfold Nq;simp only[if_true,ME,hrf];refine ed ?_;cases s.run Q u with
 | ok a w=>
  cases a with
  | recover=>
   have i:∀{v k},Mq b c=Lq (v,k)->di f (.go { frame:=b.finish v,callers:=k,status:=.running,dying:=Lw } w):=λe=>by
    have⟨g,j⟩:=lE h e;exact bp j
   rcases hX:Mq b c with _ | ⟨v,k⟩<;>cases hro:b.roundOf<;>simp only[hX,hro]<;>first | exact i hX | exact bp h
  | spawn d=>
   dsimp only
   repeat' split
   all_goals first
    | exact kI
    | exact fH (λ_ _ _ e=>by cases e)
  | _=>
   dsimp only
   repeat' split
   all_goals first
    | exact bp h
    | exact qZ h
    | exact fH (λ_ _ _ e=>by cases e)
 | halt x w=>
  cases x with
  | fatal m=>exact pd
  | throw m=>exact kI
  | unsupported x=>cases x<;>first | exact xg h _ _ | exact aO
  | _=>first | exact bp h | exact aO
def rf{g:LW}{n pre:Lx LW}(h:n=pre++[ax f])(d:NR)(u:Lt):di f (NT Q g n Lw d u):=by
 unfold NT;by_cases k:(gK d.target && gJ g.mode)=LG
 ·have:∀(a b:OA),(∃o u l,a=.ended o u l)->di f (if(gK d.target && gJ g.mode)=LG then a else b):=λa b ⟨o,u,l,e⟩=>by
   rw[if_pos k,e];exact aO
  exact this _ _ ⟨_,_,_,rfl⟩
 have i:∀(a b:OA),di f b->di f (if(gK d.target && gJ g.mode)=LG then a else b):=λa b q=>by rw[if_neg k];exact q
 refine i _ _ ?_;simp only[ME];refine ed ?_;cases Nm Q (invoke d.target d.args) u with
 | ok a w=>
  cases a with
  | recover=>
   dsimp only;split
   ·rename_i e
    have⟨j,p⟩:=lE h e;exact bp p
   ·exact bp h
  | coroswitch c e=>cases e<;>first | exact aO | exact fH (λ_ _ _ e=>by cases e)
  | alone on v=>cases on<;>first | exact aO | exact fH (λ_ _ _ e=>by cases e)
  | _=>
   first
    | exact bp h
    | exact qZ h
    | exact aO
    | exact fH (λ_ _ _ e=>by cases e)
 | halt x w=>
  cases x with
  | fatal m=>exact pd
  | throw m=>exact kI
  | _=>first | exact bp h | exact aO
def nk{d:LW}{a pre:Lx LW}(h:a=pre++[ax f])(u:Lt):di f (Qw Q LG d a Lw u):=by
 unfold Qw;split
 ·simp only[ME];refine ed ?_;split
  ·exact bp h
  ·exact aO
 ·exact rf h _ _
 ·split
  ·exact aO
  ·split
   ·exact aO
   ·cases a with
    | nil=>cases pre<;>simp at h
    | cons c b=>exact iW h λe=>e ▸ uD _
  ·split
   ·exact jF h _ _
   ·simp only[ME];refine ed ?_;split
    ·exact jF h _ _
    all_goals exact aO
def zf(hrf:Q.follows .rangeFuncRecover=LG){fr:LW}{b pre:Lx LW}(h:b=pre++[ax f])(u:Lt):di f (Pf Q LG LG fr b Lw u):=by
 have a:∀(j:MC) (d:LU Og) (s c:String),di f (match fr.roundOf with
   | none=>if j=LG then .go { frame:={ fr with mode:=.returning },callers:=b,status:=.running,dying:=Lw } u else .ended (.stuck s (fr.pos Q)) u
   | some l=>
    let (r,es):=(OR l d).runT Q u #[]
    Ni (seen Q fr.fn es) <| match r with
    | .ok v w=>NX Q LG fr b Lw v w
    | .halt _ w=>.ended (.stuck c (fr.pos Q)) w):=λj d s c=>by
  split
  ·split
   ·exact bp h
   ·exact aO
  ·simp only[ME];refine ed ?_;split
   ·exact jF h _ _
   ·exact aO
 unfold Pf;dsimp only;split
 ·exact a LG _ _ _
 ·exact a LG _ _ _
 all_goals first
  | exact bp h
  | exact aO
  | exact fI hrf h _ _
  | (
    generalize Rz _ _=X;cases X
    ·exact a LH _ _ _
    ·exact bp h)
  | (
    generalize Sl _ _=X;cases X
    ·exact a LH _ _ _
    ·exact bp h)
  | (
    unfold Ta
    repeat' split
    all_goals first
     | exact bp h
     | exact aO
     | exact fI hrf h _ _)
  | (
    simp only[ME];refine ed ?_
    repeat' split
    all_goals first
     | exact bp h
     | exact aO
     | exact fI hrf h _ _)
  | (
    repeat' split
    all_goals first
     | exact bp h
     | exact aO
     | exact fI hrf h _ _)
  | (
    generalize Extern.next _=X
    cases X
    ·exact aO
    ·exact fI hrf h _ _)
def ky(hrf:Q.follows .rangeFuncRecover=LG){g:LD}{pre:Lx LW}(h:g.callers=pre++[ax f])(a:g.dying=Lw)(u:Lt):di f (Nb Q LG g u LG):=by
 obtain⟨c,i,d,e,b⟩:=g;dsimp only at h a;subst a;unfold Nb;dsimp only;cases c.mode with
 | run=>exact zf hrf h u
 | returning=>exact nk h u
 | panicking l=>exact nk h u
def kB{b:LW}(h:Popped f b)(d:OS)(a:LU (LM Pg × OK))(u:Lt):∃o c e,Nb Q LG { frame:=b,callers:=[],status:=d,dying:=Lw,offers:=a } u LG=.ended o c e:=by
 rcases h with rfl | ⟨l,rfl⟩
 ·exact⟨_,_,_,rfl⟩
 ·exact⟨_,_,_,rfl⟩
end
end
section
def cH(g:LD)(u:Lt):Machine:={ world:=u,gs:=#[g],rest:={ timers:=#[],alone:=Lw,slice:=Lw } }
section
variable{Q:LV}
def tA{g:LD}{u:Lt}(h:g.status=.running):move Q (cH g u)=.goroutine (cH g u) 0:=by
 simp[move,ask,askOn,cH,WZ,runnable.go,due,ahead,Goroutine.canRun,Qx,choose,pure,Nm,Question.forced,h]
def mI{g a:LD}{u u1:Lt}{b:LM Ns}(h:g.status=.running)(e:Nb Q LG g u LG=.go a u1 b):step Q (cH g u)=.next (cH a u1):=by
 rw[step,stepT,tA h];simp[UP,cH,Xl,e]
def fN{g:LD}{u u1:Lt}{o:Uo}{a:LM Ns}(h:g.status=.running)(e:Nb Q LG g u LG=.ended o u1 a):step Q (cH g u)=.ended o u1:=by
 rw[step,stepT,tA h];simp[UP,cH,Xl,e]
def Cg{g:LD}(u:Lt)(h:xZ g):(∃o u1,step Q (cH g u)=.ended o u1)\/∃c u1,step Q (cH g u)=.next (cH c u1)/\xZ c:=by
 have ew:(g.status=.blocked\/g.status=.waiting\/g.status=.finished)->(∃o u1,step Q (cH g u)=.ended o u1)\/∃c u1,step Q (cH g u)=.next (cH c u1)/\xZ c:=by
  intro x;by_cases p:g.status=.waiting
  ·refine .inr ⟨g,u,?_,.inr (.inl p)⟩;rw[step,stepT];simp[move,ask,askOn,cH,WZ,runnable.go,due,ahead,Goroutine.canRun,Qx,choose,pure,Nm,Question.forced,p]
  ·refine .inl ?_;have j:WZ #[g] u.os.mono=[]:=by
    rcases x with h | h | h<;>simp[WZ,runnable.go,Goroutine.canRun,h]
   have s:∀b,ahead (cH g u) b=Lw:=by
    intro b;rcases x with h | h | h<;>simp[ahead,cH,h]
   rw[step,stepT];have hm:∃o u1,move Q (cH g u)=.machine (.ended o u1):=by
    have a:=s LH;simp only[cH] at a;simp only[move,ask,askOn,cH,j,due,a];simp[pure,Nm,p];split
    ·rename_i t w
     rw[a] at w;cases w
    ·split
     ·exact⟨_,_,rfl⟩
     ·exact⟨_,_,rfl⟩
   obtain⟨o,u1,e⟩:=hm;rw[e];exact⟨o,u1,rfl⟩
 rcases h with h | h | h | ⟨h,d,z,A,y⟩
 ·exact ew (.inl h)
 ·exact ew (.inr (.inl h))
 ·exact ew (.inr (.inr h))
 ·have q:(∃o u1 k,Nb Q LG g u LG=.ended o u1 k)\/∃c u1 k,Nb Q LG g u LG=.go c u1 k/\xZ c:=by
   obtain⟨H,L,D,I,C⟩:=g;obtain⟨v,n,l,i,G,B,fatal⟩:=d;dsimp only at h z A y;subst z;subst A;cases fatal with
   | none=>cases y
   | some f=>
    unfold Nb;dsimp only;unfold die writeOn;dsimp only;split
    ·exact .inl ⟨_,_,_,rfl⟩
    ·split
     ·exact .inr ⟨_,_,_,rfl,.inr (.inr (.inr ⟨rfl,_,rfl,rfl,rfl⟩))⟩
     ·exact .inr ⟨_,_,_,rfl,.inl rfl⟩
     ·exact .inl ⟨_,_,_,rfl⟩
     ·exact .inl ⟨_,_,_,rfl⟩
  rcases q with⟨o,u1,k,e⟩ | ⟨c,u1,k,e,r⟩
  ·exact .inl ⟨o,u1,fN h e⟩
  ·exact .inr ⟨c,u1,mI h e,r⟩
def zC:∀(n:Ly) {g c:LD} {u u1:Lt},xZ g->runN Q n (cH g u)=.next (cH c u1)->¬ Live c:=by
 intro n;induction n with
 | zero=>
  intro g c u u1 b e k;simp only[runN,Stepped.next.injEq,cH,Machine.mk.injEq] at e;obtain⟨_,e,_⟩:=e;have e:g=c:=by simpa using e
  subst e;obtain⟨a,i⟩:=k;rcases b with h | h | h | ⟨h,d,b,_⟩
  ·rw[h] at a;cases a
  ·rw[h] at a;cases a
  ·rw[h] at a;cases a
  ·rw[b] at i;cases i
 | succ n j=>
  intro g c u u1 b e;rcases Cg (Q:=Q) u b with⟨o,u2,h⟩ | ⟨l,u2,h,f⟩
  ·rw[runN,h] at e;cases e
  ·rw[runN,h] at e;exact j f e
end
section
variable[JunkSet]{Q:LV}{base:Ly}{F:LD->Lt->Prop}
def LP.of_runs(H:Duo Q Q){f:Nh}:∀(n:Ly) {g g1:LD} {u u1:Lt} {pre:Lx LW},jP Q base g u->Live g->g.callers=pre++[ax f] ->runN Q n (cH g u)=.next (cH g1 u1)->Live g1->(∃b,g1.callers=b++[ax f])->F g1 u1->LP Q F g u:=by
 intro n;induction n with
 | zero=>
  intro g g1 u u1 pre q k t e h _ v;simp only[runN,Stepped.next.injEq,cH,Machine.mk.injEq] at e;obtain⟨O,e,_⟩:=e;have e:g=g1:=by simpa using e
  subst e;subst O;exact .done v
 | succ n G=>
  intro g g1 u u1 pre q k t e h j v;have B:=q.one H;cases hs:Nb Q LG g u LG with
  | go w u2 D=>
   rw[runN,mI k.1 hs] at e;have c:=B.flat;rw[hs] at c;have r:g.callers≠[]:=by rw[t];simp
   rcases c with a | I | s
   ·have p:=q.next H hs a.1 a.2
    rcases ky (f:=f) H.rfr t k.2 u w u2 D hs a.1 a.2 with⟨x,d⟩ | ⟨d,A⟩
    ·exact .step hs a.1 a.2 (G p a d e h j v)
    ·exfalso;cases n with
     | zero=>
      simp only[runN,Stepped.next.injEq,cH,Machine.mk.injEq] at e;obtain⟨_,e,_⟩:=e;have e:w=g1:=by simpa using e
      subst e;obtain⟨b,C⟩:=j;rw[d] at C;cases b<;>simp at C
     | succ n=>
      obtain⟨M,R,l,P,i⟩:=w;obtain⟨z,y⟩:=a;dsimp only at d A z y;subst d;subst y;have⟨o,u3,N,L⟩:=kB (Q:=Q) A l i u2;unfold runN at e;dsimp only at e;rw[fN z L] at e;cases e
   ·exact absurd h (zC n I e)
   ·exact absurd s r
  | ended o u2 D=>
   rw[runN,fN k.1 hs] at e;cases e
  | _=>have c:=B.flat;rw[hs] at c;exact c.elim
def AtRet(Q:LV)(f:Nh)(a:Lx LW)(R:Ending->Lt->Prop)(g:LD)(u:Lt):Prop :=
 Live g/\g.callers=a/\g.frame.fn=f/\∃T e,R e (u.tp T)/\g.frame.leaving Q (u.tp T) e
def AtRet.tape{f:Nh}{a:Lx LW}{R:Ending->Lt->Prop}{g:LD}{u:Lt}(T:Ly->NU->Ly)(h:AtRet Q f a R g u):AtRet Q f a R g (u.tp T):=by
 obtain⟨j,i,d,k,e,c,b⟩:=h;exact⟨j,i,d,k,e,c,b⟩
def eJ(Q:LV)(f:Nh)(a:LM LA)(b:Lx LW):LD:={ frame:=MO Q f a .normal,callers:=b,status:=.running,dying:=Lw }
def LT.of_calls(H:Duo Q Q){f:Nh}{a:LM LA}{w:Lt}{R:Ending->Lt->Prop}(s:∀T,MH Q f a (w.tp T) R)(i:∀u,¬ R .outgrown u)(o:jP Q base (eJ Q f a [ax f]) w):LT Q (AtRet Q f [ax f] R) (eJ Q f a [ax f]) w:=by
 refine LT.of_all H (λg u T h=>h.tape T) o λT=>?_;have⟨e,l,q,p,b,k,j⟩:=s T [ax f];have d:Steps Q (lone (MO Q f a .normal) [ax f] (w.tp T)) (lone q [ax f] l):=by
  cases e with
  | returned v=>exact b
  | panicked c=>exact b
  | outgrown=>exact absurd p (i _)
 obtain⟨n,r⟩:=d;exact LP.of_runs H (f:=f) n (g:=eJ Q f a [ax f]) (g1:={ frame:=q,callers:=[ax f],status:=.running,dying:=Lw }) (u:=w.tp T) (pre:=[]) (o.tape T) ⟨rfl,rfl⟩ rfl r ⟨rfl,rfl⟩ ⟨[],rfl⟩ ⟨⟨rfl,rfl⟩,rfl,k,l.tape,e,p,j⟩
end
end
section
section
variable[JunkSet]{Q P:LV}{Z:Ren}{base:Ly}{wq w:Lt}{F:LD->Lt->Prop}
def LT.next{g:LD}{u:Lt}(h:LT Q F g u)(d:¬ F g u)(T:Ly->NU->Ly):∃a u1 b,Nb Q LG g (u.tp T) LG=.go a u1 b/\a.status=.running/\a.dying=Lw/\LT Q F a u1:=by
 cases h with
 | done h=>exact absurd h d
 | step _ k j=>
  have⟨a,u1,b,e,c,i⟩:=k T;exact⟨a,u1,b,e,c,i,j T a u1 b e⟩
def Below(Q:LV)(F:LD->Lt->Prop)(a b:LD × Lt):Prop :=
 ¬ F b.1 b.2/\∃T c,Nb Q LG b.1 (b.2.tp T) LG=.go a.1 a.2 c
def LT.acc{g:LD}{u:Lt}(h:LT Q F g u):Acc (Below Q F) (g,u):=by
 induction h with
 | done h=>exact .intro _ λy a=>absurd h a.1
 | step _ _ _ b=>exact .intro _ λy a=>let ⟨T,es,e⟩:=a.2;b T y.1 y.2 es e
def qT(H:Duo Q P)(r:base<=Z.length)(c:WR Q base Z wq w)(s:Gl P Z){g x:LD}(v:hU Q P Z g x)(G:LT Q F g wq)(u:¬ F g wq)(b:MC) :∃O f d a h j,Nb P b x w LG=.go a h j/\rW Q P O f a/\WR Q base O d h/\Gl P O/\base<=O.length/\LT Q F f d/\Below Q F (f,d) (g,wq)/\Eff base Z O w h/\(∀e∈j,ig base O e)/\f.status=.running/\f.dying=Lw:=by
 let T:Ly->NU->Ly:=λn q=>w.tape (n - wq.drawn+w.drawn) q
 have⟨f,u1,j,e,l,p,o⟩:=G.next u T
 have i:WR Q base Z (wq.tp T) w:=⟨c.len,c.nodup,c.lt,c.obj,c.low,c.env,c.below,c.gar⟩;have D:=wM H r i s v;have hm:=(D.go _ _ _ e l p).2.1;have C:bY u1.drawn (wq.tp T) w:=λn q _=>by
  show w.tape (wq.drawn+n - wq.drawn+w.drawn) q=w.tape (w.drawn+n) q;rw[show wq.drawn+n - wq.drawn+w.drawn=w.drawn+n by omega]
 have⟨O,a,h,t,B,A,z,_,k,y,_⟩:=th H r i s C hm v b _ _ _ e (LC _) l p;exact⟨O,f,u1,a,h,t,B,A,z,s.mono k.le,LN r k.le.len,o,⟨u,T,j,e⟩,k,y,l,p⟩
def WR.rely(h:WR Q base Z wq w){a:Lt}(g:w.heap.size<=a.heap.size)(b:a.os.env=w.os.env)(p:∀i j,BR Z i j->¬ JunkSet.jk i->a.heap[j]?=w.heap[j]?)(q:∀i j,BR Z i j->JunkSet.jk i->∃c e f,a.heap[j]?=Lq (.cells c e f)):WR Q base Z wq a where
 len:=h.len
 nodup:=h.nodup
 lt i j hb:=LY (h.lt i j hb) g
 obj i j o hb ho:=by
  rcases h.obj i j o hb ho with⟨d,l,k,_⟩ | ⟨d,n,l,k⟩
  ·exact .inl ⟨d,l,k,q i j hb d⟩
  ·exact .inr ⟨d,n,by rw[p i j hb d];exact l,k⟩
 low:=h.low
 env:=h.env.trans b.symm
 below:=h.below
 gar:=h.gar
end
end
section
def AG(g:LD):Prop:=∀r a k,g.frame.todo≠.extern r a::k
def swap(real:Lx LW)(g:LD):LD:={ g with callers:=g.callers.dropLast++real }
def bU(real:Lx LW)(r c:OA):Prop:=∀a u1 b,r=.go a u1 b->Live a->a.callers≠[]->AG a->c=.go (swap real a) u1 b
section
variable[JunkSet]{P:LV}{f:Nh}{real:Lx LW}
def iL{r a:OA}{b:LM Ns}(h:bU real r a):bU real (Ni b r) (Ni b a):=λk u1 j e d g c=>by
 obtain⟨l,i,rfl⟩:=dc e;rw[h _ _ _ i d g c];rfl
def bu{o:Uo}{u:Lt}{b:LM Ns}{a:OA}:bU real (.ended o u b) a:=λ_ _ _ e _ _ _=>by cases e
def ku{r b:OA}(h:∀g u a,r≠.go g u a):bU real r b:=λg u a e _ _ _=>absurd e (h g u a)
def FR{g:LD}{u:Lt}{c:LM Ns}{a:OA}(h:¬ Live g):bU real (.go g u c) a:=λ_ _ _ e b _ _=>by cases e;exact absurd b h
def vP{c:LW}{d:Lx LW}{m:String}{u:Lt}{a:OA}:bU real (To P c d Lw m u) a:=λg u1 h e b _ _=>absurd b.2 (bz e)
def qj{b:LW}{m:String}{u:Lt}{a:OA}:bU real (SF b m u) a:=FR λh=>by cases h.2
def eO{c:LW}{pre:Lx LW}{b:OS}{g:LU Re}{a:LU (LM Pg × OK)}{u:Lt}{d:LM Ns} :bU real (.go { frame:=c,callers:=pre++[ax f],status:=b,dying:=g,offers:=a } u d) (.go { frame:=c,callers:=pre++real,status:=b,dying:=g,offers:=a } u d):=λ_ _ _ e _ _ _=>by
 cases e;simp[swap]
def zT{d a:LW}{pre:Lx LW}{c:OS}{g:LU Re}{b:LU (LM Pg × OK)}{u:Lt}{e:LM Ns} :bU real (.go { frame:=d,callers:=a::(pre++[ax f]),status:=c,dying:=g,offers:=b } u e) (.go { frame:=d,callers:=a::(pre++real),status:=c,dying:=g,offers:=b } u e) :=
 eO (pre:=a::pre)
def Iz{d a:LW}{X pre:Lx LW}{c:OS}{h:LU Re}{b:LU (LM Pg × OK)}{u:Lt}{g:LM Ns} :bU real (.go { frame:=d,callers:=X++a::(pre++[ax f]),status:=c,dying:=h,offers:=b } u g) (.go { frame:=d,callers:=X++a::(pre++real),status:=c,dying:=h,offers:=b } u g):=λ_ _ _ e _ _ _=>by
 cases e;have:X++a::(pre++[ax f])=(X++a::pre)++[ax f]:=by simp
 simp only[swap,this,Tq];simp
def Da{d:LW}{a:OS}{h:LU Re}{u:Lt}{g:LM Ns}{b:OA}:bU real (.go { frame:=d,callers:=[],status:=a,dying:=h } u g) b:=λ_ _ _ e _ c _=>by
 cases e;exact absurd rfl c
def Db{b:LW}{l:Lx LW}{c:OS}{j:LU Re}{u:Lt}{i:LM Ns}{d:OA}{x:String}{a:LM LA}{k:Lx PW}(h:b.todo=.extern x a::k):bU real (.go { frame:=b,callers:=l,status:=c,dying:=j } u i) d:=λ_ _ _ e _ _ g=>by
 cases e;exact absurd h (g _ _ _)
def eD(a:LW):Mq a [ax f]=Lw:=by
 unfold Mq;cases a.kind<;>rfl
def mS(g:∀b,Mq b real=Lw):∀(pre:Lx LW) (b:LW),(Mq b (pre++[ax f])=Lw/\Mq b (pre++real)=Lw)\/∃v a,Mq b (pre++[ax f])=Lq (v,a++[ax f])/\Mq b (pre++real)=Lq (v,a++real):=by
 intro pre;induction pre with
 | nil=>intro b;exact .inl ⟨eD b,g b⟩
 | cons p pre e=>
  intro b;simp only[Mk];unfold Mq;cases hk:b.kind with
  | deferred=>
   dsimp only;split
   ·exact .inr ⟨_,_::pre,rfl,rfl⟩
   ·exact .inl ⟨rfl,rfl⟩
  | wrapped=>
   dsimp only;rcases e p with⟨d,c⟩ | ⟨v,a,d,c⟩
   ·rw[d,c];exact .inl ⟨rfl,rfl⟩
   ·rw[d,c];exact .inr ⟨v,p::a,rfl,rfl⟩
  | _=>exact .inl ⟨rfl,rfl⟩
def nM{a:LW}{pre:Lx LW}(b c:MC)(v:LA)(u:Lt):bU real (NX P b a (pre++[ax f]) Lw v u) (NX P c a (pre++real) Lw v u):=by
 unfold NX;cases pre with
 | nil=>
  simp only[Mu];split<;>exact Da
 | cons p pre=>
  simp only[Mk];split<;>exact eO
def Dc{a:LW}{pre:Lx LW}(g:Ly)(u:Lt):bU real (early P a (pre++[ax f]) Lw g u) (early P a (pre++real) Lw g u):=by
 unfold early;dsimp only
 repeat' split
 all_goals first
  | exact eO
  | exact bu
  | exact Iz
def kx(hrf:P.follows .rangeFuncRecover=LG)(i:∀b,Mq b real=Lw){b:LW}{pre:Lx LW}(s:Ps Qz)(u:Lt):bU real (Nq P LG b (pre++[ax f]) Lw s u) (Nq P LG b (pre++real) Lw s u):=by
 unfold Nq;simp only[if_true,ME,hrf];refine iL ?_;cases s.run P u with
 | ok a w=>
  cases a with
  | recover=>
   rcases mS (f:=f) i pre b with⟨h,g⟩ | ⟨v,c,h,g⟩<;>cases hro:b.roundOf<;>simp only[h,g,hro]<;>exact eO
  | stack r j=>
   dsimp only;split
   ·exact Db rfl
   ·exact Db rfl
  | spawn d=>
   dsimp only
   repeat' split
   all_goals first
    | exact qj
    | exact ku (λ_ _ _ e=>by cases e)
  | _=>
   dsimp only
   repeat' split
   all_goals first
    | exact eO
    | exact zT
    | exact ku (λ_ _ _ e=>by cases e)
 | halt x w=>
  cases x with
  | fatal m=>exact vP
  | throw m=>exact qj
  | unsupported x=>cases x<;>first | exact Dc _ _ | exact bu
  | _=>first | exact eO | exact bu
def vQ(t:∀g,Mq g real=Lw){g:LW}{pre:Lx LW}(d:NR)(u:Lt):bU real (NT P g (pre++[ax f]) Lw d u) (NT P g (pre++real) Lw d u):=by
 unfold NT;by_cases h:(gK d.target && gJ g.mode)=LG
 ·have:∀(a b k:OA),(∃o u q,a=.ended o u q)->bU real (if(gK d.target && gJ g.mode)=LG then a else b) k:=λa b k ⟨o,u,q,e⟩=>by
   rw[if_pos h,e];exact bu
  exact this _ _ _ ⟨_,_,_,rfl⟩
 have i:∀(a b r j:OA),bU real b j->bU real (if(gK d.target && gJ g.mode)=LG then a else b) (if(gK d.target && gJ g.mode)=LG then r else j):=λa b r j s=>by rw[if_neg h,if_neg h];exact s
 refine i _ _ _ _ ?_;simp only[ME];refine iL ?_;cases Nm P (invoke d.target d.args) u with
 | ok a w=>
  cases a with
  | recover=>
   dsimp only;rcases mS (f:=f) t pre g with⟨p,n⟩ | ⟨v,l,p,n⟩<;>rw[p,n]<;>cases g.mode<;>exact eO
  | coroswitch c e=>cases e<;>first | exact bu | exact ku (λ_ _ _ e=>by cases e)
  | alone on v=>cases on<;>first | exact bu | exact ku (λ_ _ _ e=>by cases e)
  | _=>
   first
    | exact eO
    | exact zT
    | exact bu
    | exact ku (λ_ _ _ e=>by cases e)
 | halt x w=>
  cases x with
  | fatal m=>exact vP
  | throw m=>exact qj
  | _=>first | exact eO | exact bu
def sQ(c:∀a,Mq a real=Lw){a:LW}{pre:Lx LW}(b d:MC)(u:Lt):bU real (Qw P b a (pre++[ax f]) Lw u) (Qw P d a (pre++real) Lw u):=by
 unfold Qw;split
 ·simp only[ME];refine iL ?_;split
  ·exact eO
  ·exact bu
 ·exact vQ c _ _
 ·split
  ·exact bu
  ·split
   ·exact bu
   ·cases pre with
    | nil=>exact Da
    | cons p pre=>exact eO
  ·split
   ·exact nM _ _ _ _
   ·simp only[ME];refine iL ?_;split
    ·exact nM _ _ _ _
    all_goals exact bu
def FQ(hrf:P.follows .rangeFuncRecover=LG)(c:∀fr,Mq fr real=Lw){fr:LW}{pre:Lx LW}(b g:MC)(u:Lt) :bU real (Pf P b LG fr (pre++[ax f]) Lw u) (Pf P g LG fr (pre++real) Lw u):=by
 have a:∀(j:MC) (e:LU Og) (s d:String),bU real (match fr.roundOf with
   | none=>if j=LG then .go { frame:={ fr with mode:=.returning },callers:=pre++[ax f],status:=.running,dying:=Lw } u else .ended (.stuck s (fr.pos P)) u
   | some l=>
    let (r,es):=(OR l e).runT P u #[]
    Ni (seen P fr.fn es) <| match r with
    | .ok v w=>NX P b fr (pre++[ax f]) Lw v w
    | .halt _ w=>.ended (.stuck d (fr.pos P)) w) (match fr.roundOf with
   | none=>if j=LG then .go { frame:={ fr with mode:=.returning },callers:=pre++real,status:=.running,dying:=Lw } u else .ended (.stuck s (fr.pos P)) u
   | some l=>
    let (r,es):=(OR l e).runT P u #[]
    Ni (seen P fr.fn es) <| match r with
    | .ok v w=>NX P g fr (pre++real) Lw v w
    | .halt _ w=>.ended (.stuck d (fr.pos P)) w):=λj e s d=>by
  split
  ·split
   ·exact eO
   ·exact bu
  ·simp only[ME];refine iL ?_;split
   ·exact nM _ _ _ _
   ·exact bu
 unfold Pf;dsimp only;split
 ·exact a LG _ _ _
 ·exact a LG _ _ _
 all_goals first
  | exact eO
  | exact bu
  | exact kx hrf c _ _
  | (
    generalize Rz _ _=X;cases X
    ·exact a LH _ _ _
    ·exact eO)
  | (
    generalize Sl _ _=X;cases X
    ·exact a LH _ _ _
    ·exact eO)
  | (
    unfold Ta
    repeat' split
    all_goals first
     | exact eO
     | exact bu
     | exact kx hrf c _ _)
  | (
    simp only[ME];refine iL ?_
    repeat' split
    all_goals first
     | exact eO
     | exact bu
     | exact kx hrf c _ _)
  | (
    repeat' split
    all_goals first
     | exact eO
     | exact bu
     | exact kx hrf c _ _)
  | (
    generalize Extern.next _=X
    cases X
    ·exact bu
    ·exact kx hrf c _ _)
def sP(hrf:P.follows .rangeFuncRecover=LG)(c:∀d,Mq d real=Lw){g:LD}{pre:Lx LW}(h:g.callers=pre++[ax f])(e:g.dying=Lw)(b a:MC)(u:Lt) :bU real (Nb P b g u LG) (Nb P a (swap real g) u LG):=by
 obtain⟨d,n,j,k,i⟩:=g;dsimp only at h e;subst e;subst h;unfold Nb;simp only[swap,Tq];cases d.mode with
 | run=>exact FQ hrf c b a u
 | returning=>exact sQ c b a u
 | panicking l=>exact sQ c b a u
end
end
section
section
variable[JunkSet]{Q P:LV}{base:Ly}{F:LD->Lt->Prop}{f:Nh}{real:Lx LW}
def zH{Z:Ren}{b:LW}(h:aF Q P Z (ax f) b):b=ax f:=by
 obtain⟨D,g,e,c,i,n,x⟩:=b;obtain⟨j,_,_,w,v,u,s,r,q⟩:=h;dsimp only[ax] at j w v u s r q;have C:g=#[]:=by
  have:=w.1;exact QN (by simpa using this.symm)
 have B:e=[.code (.exit 0)]:=by
  cases v with
  | cons k l=>cases k;cases l;rfl
 have A:c=[{ target:=.nil,args:=#[] }]:=by
  cases u with
  | cons k l=>
   cases l
   rename_i d
   obtain⟨t,a⟩:=d;rcases k with⟨o,p⟩ | ⟨j,_,_⟩
   case bound=>cases j
   dsimp only at o p;cases o;have:a=#[]:=QN (by simpa using p.1.symm);rw[this]
 have z:i=.run:=by cases s;rfl
 have y:x=Lw:=by
  rcases q with⟨_,h⟩ | ⟨_,_,h,_⟩
  ·exact h
  ·cases h
 subst C B A z y;subst j;subst r;rfl
def iO{Z:Ren}:∀{pre b:Lx LW},LsR (aF Q P Z) (pre++[ax f]) b->∃a,b=a++[ax f]/\LsR (aF Q P Z) pre a:=by
 intro pre;induction pre with
 | nil=>
  intro b h;cases h with
  | cons c d=>cases d;exact⟨[],by rw[zH c];rfl,.nil⟩
 | cons p pre g=>
  intro b h;cases h with
  | cons c d=>
   have⟨a,e,i⟩:=g d;exact⟨_::a,by rw[e];rfl,.cons c i⟩
structure Sub(Q P:LV)(base:Ly)(F:LD->Lt->Prop)(f:Nh)(real:Lx LW)(Z:Ren)(g:LD)(wq:Lt)(g':LD)(w:Lt):Prop where
 len:base<=Z.length
 wr:WR Q base Z wq w
 gl:Gl P Z
 tree:LT Q F g wq
 stack:∃pre,g.callers=pre++[ax f]
 rel:∃gv,hU Q P Z g gv/\g'=swap real gv
def qM{Z:Ren}{g b:LD}(h:hU Q P Z g b):AG b:=λr a k e=>by
 have:=h.frame.todo;rw[e] at this;generalize g.frame.todo=l at this;cases this with
 | cons c _=>cases c
def Sub.ret(H:Duo Q P){c:LW}{Z:Ren}{g:LD}{o:Lt}{g':LD}{w:Lt}(h:Sub Q P base F f (c::real) Z g o g' w)(A:g.callers=[ax f]){T:Ly->NU->Ly}{v:LA}(U:g.frame.leaving Q (o.tp T) (.returned v))(b:MC) :∃O p v' C es,Nb P b g' w LG=.go { frame:=c.finish v',callers:=real,status:=.running,dying:=Lw } C es/\VR O v v'/\WR Q base O p C/\p=o.tp T/\Eff base Z O w C/\(∀e∈es,ig base O e):=by
 obtain⟨gv,hg,rfl⟩:=h.rel;obtain⟨hm,hd,hk,j,x,i⟩:=U;obtain⟨fr,cs,st,dy,d5⟩:=g;obtain⟨a,b0,G,g6,s⟩:=gv;obtain⟨k,h2,h3,h4,h5,h6⟩:=hg;dsimp only at k h2 h3 h4 h5 h6 hm hd hk x i A;subst h6;subst A;have⟨b6,R,U⟩:=iO (pre:=[]) h2;cases U;have R:b0=[ax f]:=R;subst R;have⟨gf,t,W⟩:=k.same;have X:j=gf:=by rw[x] at t;exact OQ t
 subst X;have S:a.mode=.returning:=by
  have:=k.mode;rw[hm] at this;generalize a.mode=m at this;cases this;rfl
 have a8:a.defers=[]:=by
  have:=k.defers;rw[hd] at this;generalize a.defers=m at this;cases this;rfl
 have V:a.kind=.normal:=k.kind.trans hk;have hs:=lV H h.gl j k.tmps (Q:=Q) (P:=P);have z:=Dry.run Q (w:=o.tp T) (pj j fr.tmps);have L:WR Q base Z (o.tp T) w:=⟨h.wr.len,h.wr.nodup,h.wr.lt,h.wr.obj,h.wr.low,h.wr.env,h.wr.below,h.wr.gar⟩;have⟨O,c9,B,l,d,a6,Y,I,_,a7,_⟩:=SR.runs (es:=#[]) (D:=(o.tp T).drawn) hs h.len L (λn q hn=>absurd hn (by omega)) (Py z) (by rw[i];trivial);rw[i] at d;have M:∀{v'},Nm P (Om j a.tmps) w=.ok v' B->Nb P b (swap (c::real) { frame:=a,callers:=[ax f],status:=G,dying:=Lw,offers:=s }) w LG =
   .go { frame:=c.finish v',callers:=real,status:=.running,dying:=Lw } B (seen P a.fn l):=by
  intro v' N;have y:(Om j a.tmps).events P w #[]=l:=by
   show((Om j a.tmps).runT P w #[]).2=l;rw[a6];simp
  have u:P.funcs[a.fn]?=Lq j:=by rw[k.fn];exact W
  simp[Nb,swap,S,Qw,a8,u,ME,N,y,NX,V,Ni]
 generalize N:Nm P (Om j a.tmps) w=r at d;cases d with
 | ok _ _ hv=>exact⟨O,_,_,B,_,M N,hv,I,rfl,a7,λe he=>Y e (gH _ _ _ e he)⟩
def vh{Z:Ren}(c:Q.inits.idxOf? f=Lw)(b:∃g,Q.funcs[f]?=Lq g/\P.funcs[f]?=Lq g):aF Q P Z (ax f) (ax f) :=
 ⟨rfl,b,c,⟨rfl,λi x y a=>by simp[ax] at a⟩,.cons (.code (.exit 0)) .nil,.cons (.mk .nil ⟨rfl,λi x y a=>by simp at a⟩) .nil,.run,rfl,.inl ⟨rfl,rfl⟩⟩
def rA(H:Duo Q P){Z:Ren}(c:JunkSet.okf f)(b:Q.funcs[f]?=P.funcs[f]?){a i:LM LA}(j:AsR Z a i):hU Q P Z (eJ Q f a [ax f]) (eJ P f i [ax f]):=by
 have⟨k,h,g,d,_⟩:=H.funcs f c;have e:h=k:=by rw[g,d] at b;exact(OQ b).symm
 subst e;exact⟨EP H c b j .normal,.cons (vh (H.inits f c) ⟨h,g,d⟩) .nil,rfl,rfl,rfl,rfl⟩
def Sub.enter(H:Duo Q P){Z:Ren}(h:JunkSet.okf f)(g:Q.funcs[f]?=P.funcs[f]?){a c:LM LA}(j:AsR Z a c){b w:Lt}(i:base<=Z.length)(d:WR Q base Z b w)(k:Gl P Z)(e:LT Q F (eJ Q f a [ax f]) b) :Sub Q P base F f real Z (eJ Q f a [ax f]) b { frame:=MO P f c .normal,callers:=real,status:=.running,dying:=Lw } w :=
 ⟨i,d,k,e,⟨[],rfl⟩,eJ P f c [ax f],rA H h g j,rfl⟩
end
end
section
section
variable[JunkSet]{Q:LV}{Z:Ren}{base:Ly}{wq w:Lt}
end
end
section
section
variable[JunkSet]{Q P:LV}{base:Ly}{F:LD->Lt->Prop}{f:Nh}{real:Lx LW}
structure KE(Q P:LV)(base:Ly)(F:LD->Lt->Prop)(f:Nh)(real:Lx LW)(Z:Ren)(fk:Nh)(k:WY)(a a':LM LA)(c c':LW)(pre pre':Lx LW)(wq w:Lt):Prop where
 len:base<=Z.length
 wr:WR Q base Z wq w
 gl:Gl P Z
 tree:LT Q F { frame:=MO Q fk a k,callers:=c::(pre++[ax f]),status:=.running,dying:=Lw } wq
 diff:Q.funcs[fk]?≠P.funcs[fk]?
 okf:JunkSet.okf fk
 args:AsR Z a a'
 top:aF Q P Z c c'
 rest:LsR (aF Q P Z) pre pre'
def Sub.stepK(H:Duo Q P)(hrf:P.follows .rangeFuncRecover=LG)(hR:∀fr,Mq fr real=Lw){Z:Ren}{g:LD}{U:Lt}{g':LD}{w:Lt}(h:Sub Q P base F f real Z g U g' w)(hn:¬ F g U)(b:MC)(hF:∀g u,F g u->g.callers≠[]) :∃O z i D A N,Nb P b g' w LG=.go D A N/\Below Q F (z,i) (g,U)/\Eff base Z O w A/\(∀e∈N,ig base O e)/\Live D /\(Sub Q P base F f real O z i D A\/∃fk k a a' c S pre t,KE Q P base F f real O fk k a a' c S pre t i A /\z={ frame:=MO Q fk a k,callers:=c::(pre++[ax f]),status:=.running,dying:=Lw } /\D={ frame:=MO P fk a' k,callers:=S::(t++real),status:=.running,dying:=Lw }):=by
 obtain⟨gv,R,rfl⟩:=h.rel;have⟨pre,y⟩:=h.stack;have a6:=R.callers;rw[y] at a6;have⟨t,v,_⟩:=iO a6;have⟨O,z,i,M,A,N,k0,B,k2,k3,k4,k5,k6,k7,k8,W,C⟩:=qT H h.len h.wr h.gl R h.tree hn b;obtain⟨_,T,G,e1⟩:=k6;dsimp only at e1;have X:Q.follows .rangeFuncRecover=LG:=H.rfr;have s:z.callers≠[]:=λs=>by
  rcases ky (f:=f) X y R.dy (U.tp T) z i G e1 W C with⟨d,I⟩ | ⟨_,hp⟩
  ·rw[s] at I;cases d<;>simp at I
  ·cases k5 with
   | done I=>exact hF _ _ I s
   | step _ h1 _=>
    have⟨g2,u2,l5,e2,_,_⟩:=h1 i.tape;obtain⟨h9,l7,b6,l6,V⟩:=z;dsimp only at s hp C;subst s;subst C;have⟨o,u3,l4,h3⟩:=kB (Q:=Q) hp b6 V (i.tp i.tape);rw[h3] at e2;cases e2
 have b8:∃d,z.callers=d++[ax f]:=by
  rcases ky (f:=f) X y R.dy (U.tp T) z i G e1 W C with I | ⟨I,_⟩
  ·exact I
  ·exact absurd I s
 obtain⟨d,q⟩:=b8;rcases B with⟨_,B⟩ | ⟨fk,k,a,a',c,S,cs,l8,c3,b9,rfl,rfl,ha,hc,n,hm⟩
 ·have n:=B.callers;rw[q] at n;have⟨j,Y,_⟩:=iO n;have L:=sP hrf hR (f:=f) v R.dy' b b w M A N k0 ⟨B.st',B.dy'⟩ (by rw[Y];simp) (qM B);exact⟨O,z,i,swap real M,A,N,L,⟨hn,T,G,e1⟩,k7,k8,⟨B.st',B.dy'⟩,.inl ⟨k4,k2,k3,k5,⟨d,q⟩,M,B,rfl⟩⟩
 ·cases d with
  | nil=>
   exfalso;simp only[Mu,OT] at q;rw[q.1] at hm;rcases hm with hm | hm
   ·exact hm rfl
   ·exact hm _ _ rfl
  | cons p d=>
   simp only[Mk,OT] at q;obtain⟨rfl,rfl⟩:=q;obtain⟨j,rfl,hl⟩:=iO n;have L:=sP hrf hR (f:=f) v R.dy' b b w _ A N k0 ⟨rfl,rfl⟩ (by simp) (by intro r x l hx;unfold MO at hx;simp at hx);refine⟨O,_,i,_,A,N,L,⟨hn,T,G,e1⟩,k7,k8,⟨rfl,rfl⟩,.inr ⟨fk,k,a,a',c,S,d,j,⟨k4,k2,k3,k5,c3,b9,ha,hc,hl⟩,rfl,?_⟩⟩;have:S::(j++[ax f])=(S::j)++[ax f]:=rfl;simp only[swap,this,Tq];rfl
end
end
end Go.Sim
namespace Go.Co
section
open Go.Conc Go.ConcN
inductive Cl where
 | mine (g:Ly)
 | ro (lo:Ly)
 | sync
def blk:Loc->LU Ly
 | .cell a=>Lq a.block
 | .obj r=>Lq r
 | _=>Lw
def Hm{l:Loc}(h:l.isMemory=LG):∃b,blk l=Lq b:=by
 cases l<;>first | exact⟨_,rfl⟩ | cases h
structure Tr(cl:Ly->Cl)(n size:Ly)(t:Ty):Prop where
 inb:∀i a b,RN t i=Lq a->blk a.loc=Lq b->b<size
 sync:∀i a b,RN t i=Lq a->blk a.loc=Lq b->cl b=.sync->a.kind≠.plain/\(a.kind=.said->t.g? i=Lq 0)
 plain:∀i a b,RN t i=Lq a->blk a.loc=Lq b->cl b≠.sync->a.kind=.plain
 mine:∀i a b g,RN t i=Lq a->blk a.loc=Lq b->cl b=.mine g->Knows t g i
 ro:∀i a b lo,RN t i=Lq a->blk a.loc=Lq b->cl b=.ro lo->a.write=LG->Knows t 0 i/\∀g,lo<=g->g<n->Knows t g i
 nr:∀said,¬ Race said t
 gs:∀(i:Ly) (op:UC),t[i]?=Lq op->op.g<n
def KC(cl:Ly->Cl)(size g:Ly)(x:Touch):Prop:=∀b,blk x.loc=Lq b->b<size /\
 ((cl b=.mine g/\x.kind=.plain)\/(∃a,cl b=.ro a/\(g=0\/a<=g)/\x.write=LH/\x.kind=.plain)\/(cl b=.sync/\x.kind≠.plain/\(x.kind=.said->g=0)))
def Iq(cl:Ly->Cl)(size g:Ly)(a:UC):Prop:=a.g=g/\∀x,a.act.touch?=Lq x->KC cl size g x
section
variable{cl cl':Ly->Cl}{n size size' g:Ly}{t u:Ty}
def gk{i:Ly}{a:Touch}(h:RN (t++u) i=Lq a):(i<t.size/\RN t i=Lq a)\/(t.size<=i/\∃c,(t++u)[i]?=Lq c/\c∈u/\c.act.touch?=Lq a):=by
 have⟨x,j,b⟩:=touch_of h;rcases Rp j with⟨f,e⟩ | ⟨f,d⟩
 ·exact .inl ⟨f,by rw[touchAt_of e];exact b⟩
 ·exact .inr ⟨f,x,j,d,b⟩
def tM{i:Ly}{a:UC}(h:t[i]?=Lq a):t.g? i=Lq a.g:=by simp[Trace.g?,h]
def Tr.fresh'(h:Tr cl n size t){m:Ly}(hm:∀i a b,RN t i=Lq a->blk a.loc=Lq b->b<m)(f:∀b,b<m->cl' b=cl b):Tr cl' n size t :=
 ⟨h.inb,λi a b d c e=>h.sync i a b d c (by rw[<- f b (hm i a b d c)];exact e),λi a b d c e=>h.plain i a b d c (by rw[<- f b (hm i a b d c)];exact e),
  λi a b g d c e=>h.mine i a b g d c (by rw[<- f b (hm i a b d c)];exact e),
  λi a b j d c e=>h.ro i a b j d c (by rw[<- f b (hm i a b d c)];exact e),h.nr,h.gs⟩
def Tr.grow(h:Tr cl n size t)(c:size<=size'):Tr cl n size' t :=
 ⟨λi a b e d=>LY (h.inb i a b e d) c,h.sync,h.plain,h.mine,h.ro,h.nr,h.gs⟩
def Tr.step(h:Tr cl n size t)(V:g<n)(o:∀d∈u,Iq cl size g d):Tr cl n size (t++u):=by
 refine⟨λi a b f l=>?_,λi a b f l j=>?_,λi a b f l j=>?_,λi a b U f l j=>?_,λi a b s f l j W=>?_,λB=>?_,λi d R=>?_⟩
 ·rcases gk f with⟨_,f⟩ | ⟨_,d,_,c,q⟩
  ·exact h.inb i a b f l
  ·exact((o d c).2 a q b l).1
 ·rcases gk f with⟨R,f⟩ | ⟨_,d,C,c,q⟩
  ·have⟨p,x⟩:=h.sync i a b f l j;exact⟨p,λe=>by rw[g?_old R];exact x e⟩
  ·rcases((o d c).2 a q b l).2 with⟨k,_⟩ | ⟨s,k,_⟩ | ⟨_,p,x⟩
   ·rw[j] at k;cases k
   ·rw[j] at k;cases k
   ·exact⟨p,λe=>by rw[tM C,(o d c).1,x e]⟩
 ·rcases gk f with⟨_,f⟩ | ⟨_,d,C,c,q⟩
  ·exact h.plain i a b f l j
  ·rcases((o d c).2 a q b l).2 with⟨_,k⟩ | ⟨s,_,_,_,k⟩ | ⟨k,_⟩
   ·exact k
   ·exact k
   ·exact absurd k j
 ·rcases gk f with⟨_,f⟩ | ⟨_,d,C,c,q⟩
  ·exact(h.mine i a b U f l j).app u
  ·rcases((o d c).2 a q b l).2 with⟨k,_⟩ | ⟨s,k,_⟩ | ⟨k,_⟩
   ·rw[j] at k;cases k;have:=knows_own C
    rwa [(o d c).1] at this
   ·rw[j] at k;cases k
   ·rw[j] at k;cases k
 ·rcases gk f with⟨_,f⟩ | ⟨_,d,C,c,q⟩
  ·have⟨p,x⟩:=h.ro i a b s f l j W;exact⟨p.app u,λU Z Y=>(x U Z Y).app u⟩
  ·rcases((o d c).2 a q b l).2 with⟨k,_⟩ | ⟨s,_,_,k,_⟩ | ⟨k,_⟩
   ·rw[j] at k;cases k
   ·rw[W] at k;cases k
   ·rw[j] at k;cases k
 ·refine Vt (h.nr B) (λd c=>(o d c).1) (λi a T d c b hb hc=>?_);obtain⟨F,D,N,y⟩:=hc;have⟨H,r⟩:=Hm D;have G:blk b.loc=Lq H:=by rw[<- F];exact r
  rcases((o d c).2 b hb H G).2 with⟨k,_⟩ | ⟨s,k,A,p,_⟩ | ⟨k,p,x⟩
  ·exact h.mine i a H g T r k
  ·have S:a.write=LG:=N.resolve_right (by simp[p]);have⟨L,I⟩:=h.ro i a H s T r k S;rcases A with rfl | A
   ·exact L
   ·exact I g A V
  ·have⟨L,I⟩:=h.sync i a H T r k;rcases y with y | y | ⟨_,y,O⟩
   ·exact absurd y L
   ·exact absurd y p
   ·have e:=I y;have e':=x O;have⟨z,X,M⟩:=Qi.1 e;have:=knows_own X
    rwa [M,<- e'] at this
 ·rcases Rp R with⟨_,Q⟩ | ⟨_,P⟩
  ·exact h.gs i d Q
  ·rw[(o d P).1];exact V
def iK{x y:UC}{k:Ly}{p:Ly}(e:x.g=p/\x.act=.go k)(d:y.g=k/\y.act=.start){i:Ly}{a:Touch}(h:RN (t++#[x,y]) i=Lq a):i<t.size/\RN t i=Lq a:=by
 rcases gk h with h | ⟨_,f,_,b,c⟩
 ·exact h
 ·simp only[Pl,MK,NQ,or_false] at b;rcases b with rfl | rfl
  ·rw[e.2] at c;cases c
  ·rw[d.2] at c;cases c
def Tr.fork(h:Tr cl n size t)(L:0<n){x y:UC}(k:x.g=0/\x.act=.go n)(j:y.g=n/\y.act=.start)(H:UG t 0=0):Tr cl (n+1) size (t++#[x,y]):=by
 have F:UG t n=0:=Deaf_absent λi d v e=>by have:=h.gs i d v;omega
 refine⟨λi a b f l=>h.inb i a b (iK k j f).2 l,λi a b f l p=>?_,λi a b f l p=>h.plain i a b (iK k j f).2 l p,λi a b g f l p=>(h.mine i a b g (iK k j f).2 l p).app _,
  λi a b C f l p I=>?_,λq=>?_,λi d v=>?_⟩
 ·have⟨v,f⟩:=iK k j f;have⟨w,z⟩:=h.sync i a b f l p;exact⟨w,λe=>by rw[g?_old v];exact z e⟩
 ·have⟨w,z⟩:=h.ro i a b C (iK k j f).2 l p I;refine⟨w.app _,λg D M=>?_⟩;rcases NK g n with A | G
  ·exact(z g D A).app _
  ·obtain rfl:g=n:=by omega
   exact fork_knows k j H F w
 ·have r:∀d∈#[x,y],∀b,d.act.touch?=Lq b->PC:=by
   intro d c b o;simp only[Pl,MK,NQ,or_false] at c;rcases c with rfl | rfl
   ·rw[k.2] at o;cases o
   ·rw[j.2] at o;cases o
  have e:t++#[x,y]=(t++#[x])++#[y]:=by apply Array.ext';simp
  rw[e];exact Vt (g:=n) (Vt (g:=0) (h.nr q) (λd c=>by simp at c;rw[c];exact k.1) (λi a _ d c b o _=>(r d (by simp at c ⊢;exact .inl c) b o).elim))
   (λd c=>by simp at c;rw[c];exact j.1) (λi a _ d c b o _=>(r d (by simp at c ⊢;exact .inr c) b o).elim)
 ·rcases Rp v with⟨_,B⟩ | ⟨_,s⟩
  ·exact Nat.lt_succ_of_lt (h.gs i d B)
  ·simp only[Pl,MK,NQ,or_false] at s;rcases s with rfl | rfl
   ·rw[k.1];omega
   ·rw[j.1];exact QM _
def Tr.fork_deaf(h:Tr cl n size t){x y:UC}(d:x.g=0/\x.act=.go n)(c:y.g=n/\y.act=.start)(g:Ly):UG (t++#[x,y]) n=0/\UG (t++#[x,y]) g=UG t g:=by
 have f:UG t n=0:=Deaf_absent λi b j e=>by have:=h.gs i b j;omega
 have a:∀g,UG (t++#[x,y]) g=UG t g:=λg=>by
  have:=Deaf_append t g [x,y];simp only[OI,List.foldl_nil] at this;rw[show t++#[x,y]=t++[x,y].toArray from rfl,this];simp only[deafStep,d.2,c.2]
 exact⟨by rw[a,f],a g⟩
def Tr.recl(h:Tr cl n size t)(j:∀b,b<size->cl' b=cl b\/(cl b=.mine 0/\cl' b=.ro n)\/(cl b≠.sync/\cl' b=.mine 0/\∀i a,RN t i=Lq a->blk a.loc=Lq b->Knows t 0 i)\/(cl' b=.sync/\∀i a,RN t i=Lq a->blk a.loc≠Lq b)):Tr cl' n size t:=by
 refine⟨h.inb,λi a b f d c=>?_,λi a b f d c=>?_,λi a b g f d c=>?_,λi a b l f d c o=>?_,h.nr,h.gs⟩
 ·rcases j b (h.inb i a b f d) with e | ⟨_,e⟩ | ⟨_,e,_⟩ | ⟨_,e⟩
  ·exact h.sync i a b f d (e ▸ c)
  ·rw[c] at e;cases e
  ·rw[c] at e;cases e
  ·exact absurd d (e i a f)
 ·rcases j b (h.inb i a b f d) with e | ⟨k,_⟩ | ⟨k,_,_⟩ | ⟨e,_⟩
  ·exact h.plain i a b f d (e ▸ c)
  ·exact h.plain i a b f d (by rw[k];simp)
  ·exact h.plain i a b f d k
  ·exact absurd e c
 ·rcases j b (h.inb i a b f d) with e | ⟨_,e⟩ | ⟨_,e,k⟩ | ⟨e,_⟩
  ·exact h.mine i a b g f d (e ▸ c)
  ·rw[c] at e;cases e
  ·rw[c] at e;cases e;exact k i a f d
  ·rw[c] at e;cases e
 ·rcases j b (h.inb i a b f d) with e | ⟨k,e⟩ | ⟨_,e,_⟩ | ⟨e,_⟩
  ·exact h.ro i a b l f d (e ▸ c) o
  ·rw[c] at e;cases e;exact⟨h.mine i a b 0 f d k,λg q p=>by omega⟩
  ·rw[c] at e;cases e
  ·rw[c] at e;cases e
def Hd(a:Ly)(t:Ty):Prop:=∀i g,t.g? i=Lq g->g≠0->g<a->t.counts i->Knows t 0 i
def Hd.app{f:Ly}(h:Hd f t)(s:∀a∈u,a.g=0\/f<=a.g\/a.act.touch?=Lw):Hd f (t++u):=by
 intro i g w d l q;have⟨a,p,c⟩:=Qi.1 w;rcases Rp p with⟨v,k⟩ | ⟨_,j⟩
 ·exact(h i g (by rw[tM k,c]) d l ((counts_old v).1 q)).app u
 ·rcases s a j with e | e | e
  ·rw[c] at e;exact absurd e d
  ·omega
  ·obtain⟨x,r,_⟩:=q;have⟨y,o,b⟩:=touch_of r;rw[p] at o;cases o;rw[e] at b;cases b
def Hd.join{lo:Ly}{a:MN}(h:Hd lo t){q:Ly}(all:∀g,lo<=g->g≠0->(∃i,t.g? i=Lq g)->∃r,RelBy a t g r/\r<q)(w:NoRelease a t)(v:t.act? q=Lq (.mark (.acquire a)))(A:t.g? q=Lq 0)(y:t.heard q)(m:Ly):Hd m t:=by
 intro i g c e _ p;rcases NK g lo with b | f
 ·exact h i g c e b p
 ·have⟨r,j,o⟩:=all g f e ⟨i,c⟩;have d:HappensBefore t r q:=.single (.inr ⟨.marked o (.inr j.act) v (λk _ _=>w k),j.heard,y⟩);have x:i<=r:=Wq λb=>j.after i b c p;have⟨z,s,l⟩:=Qi.1 A;refine⟨q,z,s,l,.inr ?_⟩;rcases NK i r with b | f
  ·exact .trans (.single (.inl ⟨b,g,c,j.g⟩)) d
  ·obtain rfl:i=r:=by omega
   exact d
def Tr.known0(h:Tr cl n size t){m:Ly}(k:Hd m t)(hm:n<=m){i:Ly}{a:Touch}{b:Ly}(f:RN t i=Lq a)(d:blk a.loc=Lq b)(l:cl b≠.sync):Knows t 0 i:=by
 have⟨x,c,j⟩:=touch_of f;by_cases e:x.g=0
 ·have:=knows_own c
  rwa [e] at this
 ·refine k i x.g (tM c) e (LY (h.gs i x c) hm) ⟨a,f,?_,.inl ?_⟩
  ·cases hl:a.loc<;>rw[hl] at d<;>first | rfl | cases d
  ·rw[h.plain i a b f d l];decide
def BS{m:Ly}(l:Hd m t)(d:∀(i:Ly) (c:UC),t[i]?=Lq c->c.g<m):t.HandedOver:=by
 intro i g j b o;have⟨c,h,a⟩:=Qi.1 j;have⟨q,z,f,k,e⟩:=l i g j b (by rw[<- a];exact d i c h) o;refine⟨q,by rw[tM f,k],?_⟩;rcases e with rfl | e
 ·rw[h] at f;cases f;exact absurd (a.symm.trans k) b
 ·exact e
end
end
end Go.Co
