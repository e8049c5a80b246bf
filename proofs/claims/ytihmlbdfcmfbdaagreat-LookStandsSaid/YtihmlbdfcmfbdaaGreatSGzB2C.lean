/-
  Part 3 of the proof: what the machine does and what the functions answer.
  Conditions: those that each lemma names.
-/
import Derived.Orders
import Derived.LoopN
import Derived.Scope
import Derived.Test.YtihmlbdfcmfbdaaGreatSGzB2B
set_option linter.unusedSimpArgs false
set_option linter.unusedVariables false
set_option maxRecDepth 100000
namespace Gv
open Go
section
variable {Z:Nat→Prop} {μ μ':Mu} {w w':World} {P:Program} {H:View} {n:Nat} {v:V} {eff:bC} {rd:List Nat}
theorem sd {ρ:Operand→Value} {o:Oper} {b:Builtin} {args:Array Operand} {ats:Array TypeId} (ho:o.op=.call { callee:=.builtin b,args:=args,argTypes:=ats }) :
  execOp ρ o=builtin b ats o.type (args.map fun | .const _=>true | _=>false) (args.map ρ):=by
 unfold execOp
 rw[ho]
 rfl
def pU (k:Nat) (x:Value) (b:Bool):Prop:=match k,x with
 | 0,.slice a _ _=>a.isNone=b
 | 1,.pointer a=>a.isNone=b
 | 2,.map a=>a.isNone=b
 | 3,.nilFunc=>b=true
 | 3,.func _ _ _=>b=false
 | _,_=>False
theorem Nx {k:Nat} {x:V} {xv:Value} {b:Bool} (h:ae k x=some b) (hx:aF Z μ w.heap x xv):pU k xv b:=by
 unfold ae at h
 split at h
 ·simp at h; subst h; cases hx with | emp k a h1 h2=>rw[h1 rfl]; rfl
 ·simp at h; subst h
  cases hx with
  | emp k a h1 h2 =>
   cases a with
   | none=>exact absurd rfl (h2 rfl)
   | some a=>rfl
 ·simp at h; subst h; cases hx; rfl
 ·simp at h; subst h; cases hx; rfl
 ·simp at h; subst h; cases hx; rfl
 ·simp at h; subst h; cases hx; rfl
 ·simp at h; subst h; cases hx; rfl
 ·simp at h; subst h; cases hx; rfl
 ·simp at h; subst h; cases hx; rfl
 ·simp at h; subst h; cases hx; rfl
 ·simp at h; subst h; cases hx; rfl
 ·simp at h; subst h; cases hx; rfl
 ·simp at h
theorem Ih {t:TypeId} {k:Nat} (h:jm P t=some k):(k=0∧∃ e,P.underlying t=some (.slice e))∨(k=1∧∃ e,P.underlying t=some (.pointer e)) ∨
  (k=2∧∃ e f,P.underlying t=some (.map e f))∨(k=3∧∃ p q r,P.underlying t=some (.func p q r)):=by
 unfold jm at h
 split at h
 ·rename_i e hu; simp at h; exact .inl ⟨h.symm,e,hu⟩
 ·rename_i e hu; simp at h; exact .inr (.inl ⟨h.symm,e,hu⟩)
 ·rename_i e f hu; simp at h; exact .inr (.inr (.inl ⟨h.symm,e,f,hu⟩))
 ·rename_i p q r hu; simp at h; exact .inr (.inr (.inr ⟨h.symm,p,q,r,hu⟩))
 ·simp at h
def qp (P:Program) (w:World) (t:TypeId) (x y:Operand) (xv yv:Value) (b:Bool):Prop :=
 (Op.equal t xv yv).run P w=.ok b w∧(∀ op,(eqGuard op t x y xv yv).run P w=.ok () w)∧(binOp .eql t xv yv=(do pure (.bool (← Op.equal t xv yv))))∧(binOp .neq t xv yv=(do pure (.bool (!(← Op.equal t xv yv)))))
theorem kO (t:TypeId) (x y:Value):Op.equal t x y=Op.equalIn (9999+1) t x y:=rfl
theorem Np {t e:TypeId} {x y:Operand} {a a':Option Addr} {l c l' c':Nat} {b:Bool} (hu:P.underlying t=some (.slice e)) (h:(a.isNone=true∧a'.isNone=b)∨(a.isNone=b∧a'.isNone=true)):qp P w t x y (.slice a l c) (.slice a' l' c') b:=by
 refine ⟨?_,fun op=>by cases op <;> rfl,rfl,rfl⟩
 rw[kO]
 generalize (9999:Nat)=depth
 simp only[Op.equalIn,Sem.run_bind,bA hu,Result.andThen_ok]
 cases a with
 | none=>cases a' <;> simp_all
 | some a=>cases a' <;> simp_all
theorem Iz {t e:TypeId} {x y:Operand} {a a':Option Addr} {b:Bool} (hu:P.underlying t=some (.pointer e)) (h:(a.isNone=true∧a'.isNone=b)∨(a.isNone=b∧a'.isNone=true)):qp P w t x y (.pointer a) (.pointer a') b:=by
 refine ⟨?_,fun op=>by cases op <;> rfl,rfl,rfl⟩
 rw[kO]
 generalize (9999:Nat)=depth
 simp only[Op.equalIn,Sem.run_bind,bA hu,Result.andThen_ok]
 cases a with
 | none=>cases a' <;> simp_all
 | some a=>cases a' <;> simp_all
theorem QQ {t e f:TypeId} {x y:Operand} {a a':Option Nat} {b:Bool} (hu:P.underlying t=some (.map e f)) (h:(a.isNone=true∧a'.isNone=b)∨(a.isNone=b∧a'.isNone=true)):qp P w t x y (.map a) (.map a') b:=by
 refine ⟨?_,fun op=>by cases op <;> rfl,rfl,rfl⟩
 rw[kO]
 generalize (9999:Nat)=depth
 simp only[Op.equalIn,Sem.run_bind,bA hu,Result.andThen_ok]
 cases a with
 | none=>cases a' <;> simp_all
 | some a=>cases a' <;> simp_all
theorem PJ {t:TypeId} {p q:Array TypeId} {r:Bool} {x y:Operand} (hu:P.underlying t=some (.func p q r)) :
  qp P w t x y .nilFunc .nilFunc true∧(∀ f m k,qp P w t x y .nilFunc (.func f m k) false)∧(∀ f m k,qp P w t x y (.func f m k) .nilFunc false):=by
 refine ⟨⟨?_,fun op=>by cases op <;> rfl,rfl,rfl⟩,fun f m k=>⟨?_,fun op=>by cases op <;> rfl,rfl,rfl⟩,fun f m k=>⟨?_,fun op=>by cases op <;> rfl,rfl,rfl⟩⟩
 all_goals
  rw[kO]
  generalize (9999:Nat)=depth
  simp only[Op.equalIn,Sem.run_bind,bA hu,Result.andThen_ok,Sem.run_pure]
theorem Qz {t:TypeId} {x y:Operand} {xa ya:V} {xv yv:Value} {b:Bool} (h0:aF Z μ w.heap xa xv) (h1:aF Z μ w.heap ya yv) (h:C7 P t xa ya=some b):qp P w t x y xv yv b:=by
 have hcase:∃ k bx b',jm P t=some k∧ae k xa=some bx∧ae k ya=some b'∧((bx=true∧b'=b)∨(bx=b∧b'=true)):=by
  unfold C7 at h
  split at h
  ·rename_i k hk
   split at h
   ·rename_i b' h2 h3
    simp at h; subst h
    exact ⟨k,true,_,hk,h2,h3,.inl ⟨rfl,rfl⟩⟩
   ·rename_i b' _ h2 h3
    simp at h; subst h
    exact ⟨k,_,true,hk,h2,h3,.inr ⟨rfl,rfl⟩⟩
   ·simp at h
  ·simp at h
 obtain ⟨k,bx,b',hk,hx,hy,hb⟩:=hcase
 have nx:=Nx hx h0
 have ny:=Nx hy h1
 clear h h0 h1 hx hy
 rcases Ih hk with ⟨rfl,e,hu⟩ | ⟨rfl,e,hu⟩ | ⟨rfl,e,f,hu⟩ | ⟨rfl,p,q,r,hu⟩
 ·cases xv <;> simp only[pU] at nx
  cases yv <;> simp only[pU] at ny
  exact Np hu (by rw[nx,ny]; exact hb)
 ·cases xv <;> simp only[pU] at nx
  cases yv <;> simp only[pU] at ny
  exact Iz hu (by rw[nx,ny]; exact hb)
 ·cases xv <;> simp only[pU] at nx
  cases yv <;> simp only[pU] at ny
  exact QQ hu (by rw[nx,ny]; exact hb)
 ·obtain ⟨g1,g2,g3⟩:=PJ (P:=P) (w:=w) (x:=x) (y:=y) hu
  cases xv <;> simp only[pU] at nx
  ·cases yv <;> simp only[pU] at ny
   ·subst nx ny
    simp at hb
   ·subst nx ny
    have:b=false:=by simpa using hb.symm
    subst this; exact g3 _ _ _
  ·cases yv <;> simp only[pU] at ny
   ·subst nx ny
    have:b=false:=by simpa using hb.symm
    subst this; exact g2 _ _ _
   ·subst nx ny
    have:b=true:=by simpa using hb.symm
    subst this; exact g1
theorem RA {o:Oper} {T:Env} {a:Act} (h:cm P o T H n=some (v,eff,rd)) (hT:∀ x∈o.op.operands,aF Z μ w.heap (ev T x) (a.eval x)) (c:Ctx Z μ w.heap H rd n eff) :
  bk Z μ w n v eff ((execOp a.eval o).run P w):=by
 unfold cm at h
 split at h
 ·
  rename_i x ho
  simp only[T7,Ua] at h
  obtain ⟨rfl,rfl,rfl⟩:=h
  rw[ho] at hT
  refine ⟨.value (a.eval x),w,μ,by simp[execOp,ho],.inl ⟨_,rfl,hT x (by simp[Op.operands])⟩,eE.refl _,iJ⟩
 ·rename_i x ho
  simp only[T7,Ua] at h
  obtain ⟨rfl,rfl,rfl⟩:=h
  rw[ho] at hT
  refine ⟨.value (a.eval x),w,μ,by simp[execOp,ho],.inl ⟨_,rfl,hT x (by simp[Op.operands])⟩,eE.refl _,iJ⟩
 ·
  rename_i cc x y ho
  rw[ho] at hT
  split at h
  ·rename_i t ht
   simp only[T7,Ua] at h
   obtain ⟨rfl,rfl,rfl⟩:=h
   have h1:=hT cc (by simp[Op.operands])
   rw[ht] at h1
   have h1:=eT h1
   refine ⟨.value (if t then a.eval x else a.eval y),w,μ,by simp[execOp,ho,h1,asBool],.inl ⟨_,rfl,?_⟩,eE.refl _,iJ⟩
   cases t with
   | true=>exact hT x (by simp[Op.operands])
   | false=>exact hT y (by simp[Op.operands])
  ·simp at h
 ·
  rename_i e ho
  split at h
  ·rename_i z hz
   have hinf:∃ i zv,P.info? e=some i∧i.zero=some zv∧z=(fi zv).cells:=by
    cases hi:P.info? e with
    | none=>simp[zeroCells,hi] at hz
    | some i =>
     obtain ⟨zv,h1,h2⟩:=iH hi hz
     exact ⟨i,zv,rfl,h1,h2⟩
   obtain ⟨i,zv,hi,hzv,rfl⟩:=hinf
   have:=JM (P:=P) (x:=zv) (t:=e) h (fun hok=>gH (gE _) hok) c
   have e1:(execOp a.eval o).run P w=((do pure (Next.value (.pointer (some (← newVar e zv)))):Sem Next).run P w):=by
    unfold execOp
    rw[ho]
    simp[Instr.alloc,jA hi hzv]
   rw[e1]; exact this
  ·simp at h
 ·
  rename_i e x ho
  rw[ho] at hT
  have:=Rj (P:=P) (t:=e) h (fun hok=>gH (hT x (by simp[Op.operands])) hok) c
  have e1:execOp a.eval o=(do pure (Next.value (← Instr.box e (a.eval x)))):=by
   unfold execOp; rw[ho]
  rw[e1]; exact this
 ·
  rename_i t parts ho
  rw[ho] at hT
  have e1:execOp a.eval o=(do pure (Next.value (← Instr.build t (parts.map fun (i,x)=>(i,a.eval x))))):=by
   unfold execOp; rw[ho]
  rw[e1]
  refine LS h ?_
  rw[Array.toList_map]
  exact AP _ (fun x hx=>hT x (by simpa [Op.operands] using hx))
 ·
  rename_i t len parts ho
  rw[ho] at hT
  have e1:execOp a.eval o=(do pure (Next.value (← Instr.buildSlice t len (parts.map fun (i,x)=>(i,a.eval x))))):=by
   unfold execOp; rw[ho]
  rw[e1]
  refine CL h ?_ c
  rw[Array.toList_map]
  exact AP _ (fun x hx=>hT x (by simpa [Op.operands] using hx))
 ·
  rename_i t x ho
  rw[ho] at hT
  have e1:execOp a.eval o=(do pure (Next.value (← Instr.loadAt t (a.eval x)))):=by
   unfold execOp; rw[ho]
  rw[e1]
  exact Ov h (hT x (by simp[Op.operands])) c
 ·
  rename_i t x y ho
  rw[ho] at hT
  have e1:execOp a.eval o=(do Instr.storeAt t (a.eval x) (a.eval y); pure Next.skip):=by
   unfold execOp; rw[ho]
  rw[e1]
  exact LX h (hT x (by simp[Op.operands])) (hT y (by simp[Op.operands])) c
 ·
  rename_i x ho
  rw[ho] at hT
  have h1:=hT x (by simp[Op.operands])
  split at h
  ·rename_i id i j hx
   simp only[T7,Ua] at h
   obtain ⟨rfl,rfl,rfl⟩:=h
   rw[hx] at h1
   have h2:=h1
   obtain ⟨b,o0,s,hm,he⟩:=nu h1
   exact ⟨.value (a.eval x),w,μ,by simp[execOp,ho,he],.inl ⟨_,rfl,h2⟩,eE.refl _,iJ⟩
  ·rename_i e j hx
   simp only[T7,Ua] at h
   obtain ⟨rfl,rfl,rfl⟩:=h
   rw[hx] at h1
   have h2:=h1
   obtain ⟨b,off,hz,hrow,he⟩:=si h1
   exact ⟨.value (a.eval x),w,μ,by simp[execOp,ho,he],.inl ⟨_,rfl,h2⟩,eE.refl _,iJ⟩
  ·rename_i f p q hx
   simp only[T7,Ua] at h
   obtain ⟨rfl,rfl,rfl⟩:=h
   rw[hx] at h1
   have h2:=h1
   generalize he:a.eval x=y at h1 h2
   cases h1 with
   | fn _ _ _ aas bs _ _ _ _=>exact ⟨.value (.func (.func f) aas bs),w,μ,by simp[execOp,ho,he],.inl ⟨_,rfl,h2⟩,eE.refl _,iJ⟩
  ·simp at h
 ·
  rename_i t x f ho
  rw[ho] at hT
  have e1:execOp a.eval o=(do pure (Next.value (← Instr.fieldAt t (a.eval x) f))):=by
   unfold execOp; rw[ho]
  rw[e1]
  exact Fb h (hT x (by simp[Op.operands]))
 ·
  rename_i t x f ho
  rw[ho] at hT
  have e1:execOp a.eval o=(do pure (Next.value (← Instr.field t (a.eval x) f))):=by
   unfold execOp; rw[ho]
  rw[e1]
  exact LF h (hT x (by simp[Op.operands]))
 ·
  rename_i t x i ho
  rw[ho] at hT
  have e1:execOp a.eval o=(do pure (Next.value (← Instr.indexAt t (a.eval x) (a.eval i)))):=by
   unfold execOp; rw[ho]
  rw[e1]
  exact Fi h (hT x (by simp[Op.operands])) (hT i (by simp[Op.operands]))
 ·
  rename_i t x lo hi mx ho
  split at h
  ·refine rP h hT (fun ρ hρ=>?_)
   rw[ho] at hρ
   have h0:=hρ x (by simp[Op.operands])
   have h1:lo.map ρ=lo.map a.eval:=by cases lo with | none=>rfl | some y=>simp[hρ y (by simp[Op.operands])]
   have h2:hi.map ρ=hi.map a.eval:=by cases hi with | none=>rfl | some y=>simp[hρ y (by simp[Op.operands])]
   have h3:mx.map ρ=mx.map a.eval:=by cases mx with | none=>rfl | some y=>simp[hρ y (by simp[Op.operands])]
   unfold execOp; rw[ho]; simp only[h0,h1,h2,h3]
  ·rw[ho] at hT
   have e1:execOp a.eval o=(do pure (Next.value (← Instr.sliceAt t (a.eval x) (lo.map a.eval) (hi.map a.eval) (mx.map a.eval)))):=by
    unfold execOp; rw[ho]
   rw[e1]
   exact Oj h (hT x (by simp[Op.operands])) (Da lo (fun y hy=>hT y (by simp[Op.operands] at hy ⊢; simp[hy]))) (Da hi (fun y hy=>hT y (by simp[Op.operands] at hy ⊢; simp[hy]))) (Da mx (fun y hy=>hT y (by simp[Op.operands] at hy ⊢; simp[hy])))
 ·
  rename_i t l cc ho
  rw[ho] at hT
  have e1:execOp a.eval o=(do pure (Next.value (← Instr.makeSlice t (a.eval l) (a.eval cc)))):=by
   unfold execOp; rw[ho]
  rw[e1]
  exact E8 h (hT l (by simp[Op.operands])) (hT cc (by simp[Op.operands])) c
 ·
  rename_i t r ho
  split at h
  ·simp only[T7,Ua] at h
   obtain ⟨rfl,rfl,rfl⟩:=h
   refine ⟨.value (.map (some w.heap.size)),w.alloc (.map #[] 0),μ.set n (w.heap.size,0,0),by simp[execOp,ho,Instr.makeMap],.inl ⟨_,rfl,.mp n w.heap.size 0 0 (by simp[Mu.set])⟩,iV _ _,?_⟩
   refine ⟨w.heap.size,0,0,Ug _,by rw[heap_alloc]; simp,rfl,by rw[heap_alloc]; exact eF _ _,?_⟩
   intro b o0 s hx
   simp only[Mu.set,if_true,T7,Ua] at hx
   obtain ⟨rfl,rfl,rfl⟩:=hx
   exact ⟨#[],by rw[heap_alloc]; simp,rfl,fun i hi=>by simp at hi⟩
  ·simp at h
 ·
  rename_i f first cap ho
  simp only[T7,Ua] at h
  obtain ⟨rfl,rfl,rfl⟩:=h
  rw[ho] at hT
  have h1:=JE (T:=T) (a:=a) first (fun x hx=>hT x (by simp[Op.operands,hx]))
  have h2:=JE (T:=T) (a:=a) cap (fun x hx=>hT x (by simp[Op.operands,hx]))
  exact ⟨.value (.func (.func f) (first.map a.eval) (cap.map a.eval)),w,μ,by simp[execOp,ho,Instr.makeFunc],.inl ⟨_,rfl,.fn f _ _ _ _ h1.1 h2.1 h1.2 h2.2⟩,eE.refl _,iJ⟩
 ·
  rename_i t m k ok ho
  rw[ho] at hT
  have e1:execOp a.eval o=(do pure (Next.value (← Instr.lookup t (a.eval m) (a.eval k) ok))):=by
   unfold execOp; rw[ho]
  rw[e1]
  exact Lg h (hT m (by simp[Op.operands])) (hT k (by simp[Op.operands])) c
 ·rename_i t m k x ho
  rw[ho] at hT
  have e1:execOp a.eval o=(do Instr.mapUpdate t (a.eval m) (a.eval k) (a.eval x); pure Next.skip):=by
   unfold execOp; rw[ho]
  rw[e1]
  exact xn h (hT m (by simp[Op.operands])) (hT k (by simp[Op.operands])) (hT x (by simp[Op.operands])) c
 ·rename_i t m k x ho
  rw[ho] at hT
  have e1:execOp a.eval o=(do Instr.mapUpdate t (a.eval m) (a.eval k) (a.eval x); pure Next.skip):=by
   unfold execOp; rw[ho]
  rw[e1]
  exact xn h (hT m (by simp[Op.operands])) (hT k (by simp[Op.operands])) (hT x (by simp[Op.operands])) c
 ·rename_i t m k ho
  rw[ho] at hT
  have e1:execOp a.eval o=(do pure (Next.value (← Instr.mapEntry t (a.eval m) (a.eval k)))):=by
   unfold execOp; rw[ho]
  rw[e1]
  exact GO h (hT m (by simp[Op.operands])) (hT k (by simp[Op.operands])) c
 ·rename_i t m s x ho
  rw[ho] at hT
  have e1:execOp a.eval o=(do Instr.entryStore t (a.eval m) (a.eval s) (a.eval x); pure Next.skip):=by
   unfold execOp; rw[ho]
  rw[e1]
  exact C9 h (hT m (by simp[Op.operands])) (hT s (by simp[Op.operands])) (hT x (by simp[Op.operands])) c
 ·
  rename_i t i ho
  rw[ho] at hT
  have h1:=hT t (by simp[Op.operands])
  split at h
  ·rename_i vs hvs
   split at h
   ·rename_i hi
    simp only[T7,Ua] at h
    obtain ⟨rfl,rfl,rfl⟩:=h
    rw[hvs] at h1
    generalize he:a.eval t=y at h1
    cases h1 with
    | bE _ aas hl hr =>
     have h3:=hr i hi
     have hlt:i < aas.size:=hl ▸ hi
     simp only[Ui,Up hlt,Un] at h3
     exact ⟨.value aas[i],w,μ,by simp[execOp,ho,he,Instr.extract,hlt],.inl ⟨_,rfl,h3⟩,eE.refl _,iJ⟩
   ·simp at h
  ·simp at h
 ·
  rename_i t x ho
  rw[ho] at hT
  have h1:=hT x (by simp[Op.operands])
  split at h
  ·rename_i s hs
   split at h
   ·rename_i hstr
    simp only[T7,Ua] at h
    obtain ⟨rfl,rfl,rfl⟩:=h
    rw[hs] at h1
    have h1:=eT h1
    have hu:P.underlying t=some .string:=by
     rw[ho] at hstr
     unfold isStr at hstr
     simp only at hstr
     split at hstr <;> simp_all
    refine ⟨.value (.pointer (some ⟨w.heap.size,0,none⟩)),w.alloc (.stringIter s 0),μ.set n (w.heap.size,0,0),by simp[execOp,ho,h1,Instr.range,bA hu],.inl ⟨_,rfl,?_⟩,iV _ _,?_⟩
    ·have:=aF.ptr (Z:=Z) (μ:=μ.set n (w.heap.size,0,0)) (hp:=(w.alloc (.stringIter s 0)).heap) n 0 0 w.heap.size 0 0 (by simp[Mu.set])
     simpa using this
    ·refine ⟨w.heap.size,0,0,Ug _,by rw[heap_alloc]; simp,rfl,by rw[heap_alloc]; exact eF _ _,?_⟩
     intro b o0 s' hx
     simp only[Mu.set,if_true,T7,Ua] at hx
     obtain ⟨rfl,rfl,rfl⟩:=hx
     exact ⟨rfl,by rw[heap_alloc]; simp⟩
   ·simp at h
  ·simp at h
 ·
  rename_i it ho
  rw[ho] at hT
  have e1:execOp a.eval o=(do pure (Next.value (← Instr.next (a.eval it) true o.type))):=by
   unfold execOp; rw[ho]
  rw[e1]
  exact Pe h (hT it (by simp[Op.operands])) c
 ·
  rename_i s d x ho
  split at h
  ·rw[ho] at hT
   have e1:execOp a.eval o=(do pure (Next.value (← convert s d (a.eval x)))):=by
    unfold execOp; rw[ho]
   rw[e1]
   exact Iy h (hT x (by simp[Op.operands])) c
  ·refine rP h hT (fun ρ hρ=>?_)
   rw[ho] at hρ
   have h0:=hρ x (by simp[Op.operands])
   unfold execOp; rw[ho]; simp only[h0]
 ·
  rename_i b args ats ho
  have hcall:execOp a.eval o=builtin b ats o.type (args.map fun | .const _=>true | _=>false) (args.map a.eval):=sd ho
  have hpure:dL P o T=some (v,eff,rd)→bk Z μ w n v eff ((execOp a.eval o).run P w):=by
   intro h
   refine rP h hT (fun ρ hρ=>?_)
   rw[ho] at hρ
   rw[sd ho,sd ho]
   have:args.map ρ=args.map a.eval:=by
    apply Array.map_congr_left
    intro x hx
    exact hρ x (by simp[Op.operands,Call.operands,hx])
   rw[this]
  have hTT:∀ x∈args.toList,aF Z μ w.heap (ev T x) (a.eval x):=fun x hx=>hT x (by rw[ho]; simp[Op.operands,Call.operands]; simpa using hx)
  have h0:∀ {k:Nat},k < ats.size→ats[k]?=some (ats.getD k 0):=by
   intro k hk
   simp[Ui,hk]
  have harg1:∀ x,args.toList=[x]→args.map a.eval = #[a.eval x]:=by
   intro x hx
   apply Array.ext'
   simp[hx]
  have harg2:∀ x y,args.toList=[x,y]→args.map a.eval = #[a.eval x,a.eval y]:=by
   intro x y hx
   apply Array.ext'
   simp[hx]
  split at h
  ·rename_i x hargs
   split at h
   ·rename_i hsz
    rw[hcall,harg1 x hargs]
    exact QC h (h0 hsz) (hTT x (by rw[hargs]; simp)) c
   ·simp at h
  ·rename_i x y hargs
   split at h
   ·rename_i hsz
    rw[hcall,harg2 x y hargs]
    exact Lf h (h0 (by omega)) (h0 (by omega)) hsz.2 (hTT x (by rw[hargs]; simp)) (hTT y (by rw[hargs]; simp)) c
   ·split at h
    ·rename_i hsz
     rw[hcall,harg2 x y hargs]
     exact PL h (h0 (by omega)) (h0 (by omega)) hsz.2 (hTT x (by rw[hargs]; simp)) (hTT y (by rw[hargs]; simp)) c
    ·simp at h
  ·rename_i x hargs
   split at h
   ·rename_i hsz
    rw[hcall,harg1 x hargs]
    exact QT h (h0 hsz) (hTT x (by rw[hargs]; simp)) c
   ·simp at h
  ·rename_i x y hargs
   split at h
   ·rename_i hsz
    rw[hcall,harg2 x y hargs]
    exact Pq h (h0 hsz) (hTT x (by rw[hargs]; simp)) (hTT y (by rw[hargs]; simp)) c
   ·simp at h
  ·rename_i x y hargs
   split at h
   ·rename_i hsz
    rw[hcall,harg2 x y hargs]
    exact KR h (h0 hsz) (hTT x (by rw[hargs]; simp)) (hTT y (by rw[hargs]; simp)) c
   ·simp at h
  ·rename_i x hargs
   split at h
   ·rename_i hsz
    rw[hcall,harg1 x hargs]
    exact MQ h (h0 hsz) (hTT x (by rw[hargs]; simp)) c
   ·simp at h
  ·exact hpure h
  ·exact hpure h
  ·exact hpure h
  ·exact hpure h
  ·exact hpure h
  ·simp at h
 ·rename_i op t x y yt ho
  split at h
  ·rw[ho] at hT
   have h0:=hT x (by simp[Op.operands])
   have h1:=hT y (by simp[Op.operands])
   have go:∀ b,C7 P t (ev T x) (ev T y)=some b→qp P w t x y (a.eval x) (a.eval y) b:=fun b hb=>Qz h0 h1 hb
   split at h
   ·rename_i b hb
    simp only[T7,Ua] at h
    obtain ⟨rfl,rfl,rfl⟩:=h
    obtain ⟨g1,g2,g3,_⟩:=go _ hb
    refine ⟨.value (.bool b),w,μ,?_,.inl ⟨_,rfl,.val _ rfl⟩,eE.refl _,iJ⟩
    unfold execOp; rw[ho]
    simp only[Sem.run_bind,g2,Result.andThen_ok,g3,g1,Sem.run_pure]
   ·rename_i b hb
    simp only[T7,Ua] at h
    obtain ⟨rfl,rfl,rfl⟩:=h
    obtain ⟨g1,g2,_,g4⟩:=go _ hb
    refine ⟨.value (.bool (!b)),w,μ,?_,.inl ⟨_,rfl,.val _ rfl⟩,eE.refl _,iJ⟩
    unfold execOp; rw[ho]
    simp only[Sem.run_bind,g2,Result.andThen_ok,g4,g1,Sem.run_pure]
   ·simp at h
  ·refine rP h hT (fun ρ hρ=>?_)
   rw[ho] at hρ
   have h0:=hρ x (by simp[Op.operands])
   have h1:=hρ y (by simp[Op.operands])
   unfold execOp; rw[ho]; simp only[h0,h1]
 ·rename_i op t x ho
  refine rP h hT (fun ρ hρ=>?_)
  rw[ho] at hρ
  have h0:=hρ x (by simp[Op.operands])
  unfold execOp; rw[ho]; simp only[h0]
 ·rename_i t x y ho
  refine rP h hT (fun ρ hρ=>?_)
  rw[ho] at hρ
  have h0:=hρ x (by simp[Op.operands])
  have h1:=hρ y (by simp[Op.operands])
  unfold execOp; rw[ho]; simp only[h0,h1]
 ·simp at h
end
def bC.wr:bC→List Nat
 | .none | .new _=>[]
 | .eW id _ | .bP id _=>[id]
def jb (μ:Mu) (b:Nat):Prop:=∃ id o s,μ id=some (b,o,s)
structure Ext (Z:Nat→Prop) (μ:Mu) (w:World) (m:Nat) (Z':Nat→Prop) (μ':Mu) (w':World):Prop where
 same:eE w w'
 mono:gR Z Z' μ μ' w.heap w'.heap
 frame:fV w.heap w'.heap (jb μ)
 OJ:∀ b,Z' b→Z b∨w.heap.size≤b
 Cf:∀ id b o s,μ' id=some (b,o,s)→μ id=some (b,o,s)∨(m≤id∧(w.heap.size≤b∨jb μ b))
theorem Ext.refl (Z:Nat→Prop) (μ:Mu) (w:World) (m:Nat):Ext Z μ w m Z μ w :=
 ⟨eE.refl _,gR.refl _ _ _,fun _ _ _=>rfl,fun _ h=>.inl h,fun _ _ _ _ h=>.inl h⟩
theorem Ext.trans {Z Z' Z'':Nat→Prop} {μ μ' μ'':Mu} {w w' w'':World} {m m':Nat} (h:Ext Z μ w m Z' μ' w') (k:Ext Z' μ' w' m' Z'' μ'' w'') (hm:m≤m') (hlt:∀ id b o s,μ id=some (b,o,s)→b < w.heap.size):Ext Z μ w m Z'' μ'' w'':=by
 have hmu:∀ b,jb μ' b→w.heap.size≤b∨jb μ b:=by
  rintro b ⟨id,o,s,hx⟩
  rcases h.Cf _ _ _ _ hx with h1 | ⟨_,h1 | h1⟩
  ·exact .inr ⟨_,_,_,h1⟩
  ·exact .inl h1
  ·exact .inr h1
 refine ⟨h.same.trans k.same,h.mono.trans k.mono,fun b hb hn=>?_,fun b hb=>?_,fun id b o s hx=>?_⟩
 ·rw[k.frame b (UD hb h.same.size) (fun hm'=>?_),h.frame b hb hn]
  rcases hmu b hm' with h1 | h1
  ·omega
  ·exact hn h1
 ·rcases k.OJ b hb with h1 | h1
  ·exact h.OJ b h1
  ·exact .inr (U0 h.same.size h1)
 ·rcases k.Cf _ _ _ _ hx with h1 | ⟨h1,h2⟩
  ·exact h.Cf _ _ _ _ h1
  ·refine .inr ⟨by omega,?_⟩
   rcases h2 with h2 | h2
   ·exact .inl (U0 h.same.size h2)
   ·exact hmu b h2
def cat (h:aJ) (F:View):View:=fun id=>if id < h.length then h.view id else F id
def bW (P:Program) (f:FuncId) (vs:List V) (h:aJ) (r:V) (h':aJ):Prop :=
 h.length≤h'.length∧∀ Z μ (F:View) (w:World) (xs:List Value),fU Z μ w.heap vs xs→gY Z μ w.heap (cat h F)→(∀ id,h.length≤id→id < h'.length→μ id=none) →
  Calls P f xs.toArray w fun e w'=>∃ x Z' μ',e=.returned x∧aF Z' μ' w'.heap r x∧gY Z' μ' w'.heap (cat h' F)∧Ext Z μ w h.length Z' μ' w'∧(∀ id,id < h.length∨h'.length≤id→μ' id=μ id)
def dG (P:Program) (f:FuncId):Bool:=match P.funcs[f]? with
 | some fn=>fn.name != "runtime.NumGoroutine" && fn.body.isSome
 | none=>false
def rE (n:Nat) (o:Oper):Bool:=match o.dst with
 | some d=>d < n
 | none=>true
def dB (n:Nat) (all:List Oper) (T:Env) (o:Oper):Option Bool:=match o.guard with
 | none=>some true
 | some (j,want)=>match (all[j]?).bind (·.dst) with
  | some d=>if d < n then (match T d with
   | .val (.bool b)=>some (b == want)
   | .bE []=>some false
   | _=>none) else none
  | none=>none
inductive dM (P:Program) (n:Nat) (all:List Oper):Oper→Env→aJ→V→aJ→List Nat→List Nat→Bool→Prop
 | skip {o:Oper} {T:Env} {h:aJ} : dB n all T o=some false→dM P n all o T h (.bE []) h [] [] false
 | op {o:Oper} {T:Env} {h:aJ} {v:V} {eff:bC} {rd:List Nat} : dB n all T o=some true→cm P o T h.view h.length=some (v,eff,rd)→dM P n all o T h v (eff.apply h) rd eff.wr false
 | jn {o:Oper} {T:Env} {h:aJ} {e:TypeId} {x:Operand} : dB n all T o=some true→o.op=.box e x→(ev T x).cells.all aX=true→dM P n all o T h (.aO (ev T x).cells 0) h [] [] false
 | gf {o:Oper} {T:Env} {h:aJ} {s d e:TypeId} {x:Operand} {st:ByteArray} : dB n all T o=some true→o.op=.convert s d x→P.underlying s=some .string→P.underlying d=some (.slice e)→P.underlying e=some (.int .u8)→ev T x=.val (.string st)→dM P n all o T h (.aL (gC st)) h [] [] false
 | call {o:Oper} {T:Env} {h h':aJ} {r:V} {f:Operand} {args:Array Operand} {ats:Array TypeId} {g:FuncId} {first cap:List V} {wr:List Nat} : dB n all T o=some true →
  o.op=.call { callee:=.value f,args:=args,argTypes:=ats }→ev T f=.fn g first cap→dG P g=true→bW P g (first ++ args.toList.map (ev T) ++ cap) h r h' →
  (∀ id,id < h.length→¬ id∈wr→h'.view id=h.view id)→(∀ id,id∈wr→id < h.length)→dM P n all o T h r h' [] wr true
theorem ig {h:aJ} {id:Nat} (hd:h.view id≠.dead):id < h.length:=by
 rcases Uv id h.length with h1 | h1
 ·exact h1
 ·exfalso; apply hd; simp[aJ.view,T0,UF h1]
theorem jI {h:aJ} {id:Nat} {o:dy} (hid:id < h.length):aJ.view (h.set id o)=View.set h.view id o:=by
 funext k
 simp only[aJ.view,View.set,T0,Vm]
 by_cases e:id=k
 ·subst e; simp[hid]
 ·rw[T6 e,T6 (fun q=>e q.symm)]
theorem Ej (h:aJ) (o:dy):aJ.view (h ++ [o])=View.set h.view h.length o:=by
 funext k
 simp only[aJ.view,View.set,T0]
 by_cases e:k=h.length
 ·subst e; simp
 ·rw[T6 e]
  rcases Uv k h.length with h1 | h1
  ·rw[Us h1]
  ·rw[UH h1,UF (by simp; omega),UF h1]
theorem kX {h:aJ} {eff:bC} (hl:∀ id,id∈eff.wr→h.view id≠.dead):aJ.view (eff.apply h)=eff.view h.view h.length:=by
 cases eff with
 | none=>rfl
 | new o=>exact Ej h o
 | eW id o=>exact jI (ig (hl id (by simp[bC.wr])))
 | bP id o =>
  have:=ig (hl id (by simp[bC.wr]))
  simp only[bC.apply,bC.view]
  rw[Ej,jI this]
  simp
theorem gD (h:aJ) (eff:bC):(eff.apply h).length=h.length+(match eff with | .new _ | .bP _ _=>1 | _=>0):=by
 cases eff <;> simp[bC.apply]
theorem mD {P:Program} {o:Oper} {T:Env} {H:View} {n:Nat} {v:V} {eff:bC} {rd:List Nat} (h:cm P o T H n=some (v,eff,rd)):∀ id,id∈eff.wr→H id≠.dead∧id∈rd:=by
 have nn:∀ {v':V} {e:bC} {r:List Nat},e.wr=[]→some (v',e,r)=some (v,eff,rd)→∀ id,id∈eff.wr→H id≠.dead∧id∈rd:=by
  intro v' e r he heq id hid
  simp only[T7,Ua] at heq
  obtain ⟨_,rfl,_⟩:=heq
  rw[he] at hid; simp at hid
 have pu:dL P o T=some (v,eff,rd)→∀ id,id∈eff.wr→H id≠.dead∧id∈rd:=by
  intro h
  unfold dL at h
  split at h
  ·split at h
   ·split at h
    ·exact nn rfl h
    ·simp at h
   ·simp at h
  ·simp at h
 have up:∀ {id:Nat} {ob:dy} {v':V} {r:List Nat},H id≠.dead→id∈r→some (v',bC.eW id ob,r)=some (v,eff,rd)→∀ i,i∈eff.wr→H i≠.dead∧i∈rd:=by
  intro id ob v' r h1 h2 heq i hi
  simp only[T7,Ua] at heq
  obtain ⟨_,rfl,rfl⟩:=heq
  simp[bC.wr] at hi; subst hi; exact ⟨h1,h2⟩
 have mv:∀ {id:Nat} {ob:dy} {v':V} {r:List Nat},H id≠.dead→id∈r→some (v',bC.bP id ob,r)=some (v,eff,rd)→∀ i,i∈eff.wr→H i≠.dead∧i∈rd:=by
  intro id ob v' r h1 h2 heq i hi
  simp only[T7,Ua] at heq
  obtain ⟨_,rfl,rfl⟩:=heq
  simp[bC.wr] at hi; subst hi; exact ⟨h1,h2⟩
 have bx:∀ {cs:List V},lG cs n=some (v,eff,rd)→∀ id,id∈eff.wr→H id≠.dead∧id∈rd:=by
  intro cs h
  unfold lG at h
  split at h
  ·exact nn rfl h
  ·simp at h
 have mp:∀ {α:Type} {x:Option α} {f:α→V} {r:List Nat},(x.map fun a=>(f a,bC.none,r))=some (v,eff,rd)→∀ id,id∈eff.wr→H id≠.dead∧id∈rd:=by
  intro α x f r h
  simp only[Uf] at h
  obtain ⟨a,_,h⟩:=h
  exact nn rfl (Vl some h)
 unfold cm at h
 split at h
 ·exact nn rfl h
 ·exact nn rfl h
 ·split at h
  ·exact nn rfl h
  ·simp at h
 ·split at h
  ·exact bx h
  ·simp at h
 ·exact bx h
 ·unfold uG at h
  split at h
  ·split at h
   ·exact mp h
   ·simp at h
  ·simp at h
 ·unfold ic at h
  repeat' (split at h)
  all_goals first | exact nn rfl h | (simp at h; done)
 ·unfold mg at h
  repeat' (split at h)
  all_goals first | exact mp h | (simp at h; done)
 ·unfold qq at h
  split at h
  ·split at h
   ·rename_i hH
    split at h
    ·exact up (by rw[hH]; simp) (by simp) h
    ·simp at h
   ·simp at h
  ·simp at h
 ·repeat' (split at h)
  all_goals first | exact nn rfl h | (simp at h; done)
 ·unfold kV at h
  repeat' (split at h)
  all_goals first | exact nn rfl h | (simp at h; done)
 ·unfold vp at h
  split at h
  ·exact mp h
  ·simp at h
 ·unfold kT at h
  repeat' (split at h)
  all_goals first | exact nn rfl h | (simp at h; done)
 ·split at h
  ·exact pu h
  ·unfold rY at h
   repeat' (split at h)
   all_goals first | exact nn rfl h | (simp at h; done)
 ·unfold kW at h
  repeat' (split at h)
  all_goals first | exact nn rfl h | (simp at h; done)
 ·repeat' (split at h)
  all_goals first | exact nn rfl h | (simp at h; done)
 ·exact nn rfl h
 ·unfold fE at h
  simp only at h
  repeat' (split at h)
  all_goals first | exact nn rfl h | (simp at h; done)
 ·unfold eZ at h
  split at h
  ·split at h
   ·rename_i hH
    repeat' (split at h)
    all_goals first | exact up (by rw[hH]; simp) (by simp) h | (simp at h; done)
   ·simp at h
  ·simp at h
 ·unfold eZ at h
  split at h
  ·split at h
   ·rename_i hH
    repeat' (split at h)
    all_goals first | exact up (by rw[hH]; simp) (by simp) h | (simp at h; done)
   ·simp at h
  ·simp at h
 ·unfold eh at h
  split at h
  ·split at h
   ·rename_i hH
    repeat' (split at h)
    all_goals first | exact up (by rw[hH]; simp) (by simp) h | (simp at h; done)
   ·simp at h
  ·simp at h
 ·unfold jM at h
  split at h
  ·split at h
   ·rename_i hH
    repeat' (split at h)
    all_goals first | exact up (by rw[hH]; simp) (by simp) h | (simp at h; done)
   ·simp at h
  ·simp at h
 ·repeat' (split at h)
  all_goals first | exact nn rfl h | (simp at h; done)
 ·repeat' (split at h)
  all_goals first | exact nn rfl h | (simp at h; done)
 ·unfold A4 at h
  split at h
  ·split at h
   ·rename_i hH
    split at h
    ·exact up (by rw[hH]; simp) (by simp) h
    ·exact nn rfl h
   ·simp at h
  ·simp at h
 ·split at h
  ·unfold mH at h
   split at h
   ·repeat' (split at h)
    all_goals first | exact mp h | exact nn rfl h | (simp at h; done)
   ·repeat' (split at h)
    all_goals first | exact mp h | exact nn rfl h | (simp at h; done)
   ·split at h
    ·split at h
     ·split at h
      ·rename_i hH
       exact up (by rw[hH]; simp) (by simp) h
      ·simp at h
     ·simp at h
    ·simp at h
   ·simp at h
  ·exact pu h
 ·split at h
  ·split at h
   ·unfold tV at h
    repeat' (split at h)
    all_goals first | exact mp h | exact nn rfl h | (simp at h; done)
   ·simp at h
  ·split at h
   ·unfold mN at h
    split at h
    ·split at h
     ·simp at h
     ·split at h
      ·split at h
       all_goals first | exact nn rfl h | (simp at h; done)
      ·split at h
       ·simp at h
       ·split at h
        ·split at h
         ·exact nn rfl h
         ·simp at h
        ·split at h
         ·rename_i hH
          split at h
          ·exact mv (by rw[hH]; simp) (by simp) h
          ·simp at h
         ·simp at h
        ·simp at h
    ·simp at h
   ·split at h
    ·unfold wo at h
     split at h
     ·split at h
      ·split at h
       ·exact nn rfl h
       ·split at h
        ·exact nn rfl h
        ·simp at h
      ·simp at h
     ·simp at h
    ·simp at h
  ·split at h
   ·unfold F7 at h
    split at h
    ·exact nn rfl h
    ·simp at h
   ·simp at h
  ·split at h
   ·unfold A3 at h
    split at h
    ·split at h
     ·simp at h
     ·split at h
      ·exact nn rfl h
      ·split at h
       ·split at h
        ·rename_i hH
         split at h
         ·exact up (by rw[hH]; simp) (by simp) h
         ·simp at h
        ·simp at h
       ·simp at h
    ·simp at h
   ·simp at h
  ·split at h
   ·unfold uX at h
    split at h
    ·split at h
     ·rename_i hH
      repeat' (split at h)
      all_goals first | exact up (by rw[hH]; simp) (by simp) h | exact nn rfl h | (simp at h; done)
     ·simp at h
    ·simp at h
   ·simp at h
  ·split at h
   ·unfold uO at h
    split at h
    ·split at h
     ·exact nn rfl h
     ·split at h
      ·split at h
       ·rename_i hH
        split at h
        ·exact up (by rw[hH]; simp) (by simp) h
        ·simp at h
       ·simp at h
      ·simp at h
    ·simp at h
   ·simp at h
  ·exact pu h
  ·exact pu h
  ·exact pu h
  ·exact pu h
  ·exact pu h
  ·simp at h
 ·split at h
  ·split at h
   ·exact nn rfl h
   ·exact nn rfl h
   ·simp at h
  ·exact pu h
 ·exact pu h
 ·exact pu h
 ·simp at h
section
variable {P:Program} {n:Nat} {all:List Oper} {Z:Nat→Prop} {μ:Mu} {w:World}
theorem gY.congr {H H':View} {hp:Array Obj} (h:gY Z μ hp H) (e:∀ id,μ id≠none→H' id=H id):gY Z μ hp H':=by
 refine ⟨fun id=>?_,fun i j b o s o' s' hij hi hj=>?_,h.lt,h.cL,h.gM⟩
 ·by_cases hm:μ id=none
  ·cases hH:H' id with
   | dead=>trivial
   | arr esz es=>intro b o0 s hx; rw[hm] at hx; simp at hx
   | map es c=>intro b o0 s hx; rw[hm] at hx; simp at hx
   | vU s p=>intro b o0 t hx; rw[hm] at hx; simp at hx
  ·rw[e id hm]; exact h.obj id
 ·rw[e i (by rw[hi]; simp),e j (by rw[hj]; simp)]
  exact h.inj i j b o s o' s' hij hi hj
def jc (H:View) (h h':aJ) (wr:List Nat):View:=fun id=>if id∈wr∨(h.length≤id∧id < h'.length) then h'.view id else H id
theorem mh.ext {μ':Mu} {w':World} {eff:bC} {m:Nat} (he:mh Z μ μ' w.heap w'.heap m eff) (hs:eE w w') (hn:eff.fresh (μ m=none)) (cL:∀ b,Z b→b < w.heap.size) (gM:∀ id b o s,μ id=some (b,o,s)→¬ Z b) :
  Ext Z μ w m Z μ' w'∧(∀ id,(∀ (_:¬ (match eff with | .new _ | .bP _ _=>id=m | _=>False)),μ' id=μ id)):=by
 have hm:=he.mono hn cL gM
 cases eff with
 | none =>
  obtain ⟨rfl,ho⟩:=he
  exact ⟨⟨hs,hm,fun b hb _=>ho b hb (fun x=>x),fun _ h=>.inl h,fun _ _ _ _ h=>.inl h⟩,fun _ _=>rfl⟩
 | new o =>
  obtain ⟨b,o0,s,hb1,hb2,rfl,ho,_⟩:=he
  refine ⟨⟨hs,hm,fun b hb _=>ho b hb (fun x=>x),fun _ h=>.inl h,fun id b' o' s' hx=>?_⟩,fun id hid=>by simp[Mu.set]; intro e; exact absurd e hid⟩
  by_cases e:id=m
  ·subst e; simp[Mu.set] at hx; exact .inr ⟨Ug _,.inl (by omega)⟩
  ·simp[Mu.set,e] at hx; exact .inl hx
 | eW id o =>
  obtain ⟨b,o0,s,hμ,rfl,ho,_,_⟩:=he
  exact ⟨⟨hs,hm,fun b' hb' hn'=>ho b' hb' (fun e=>hn' ⟨id,o0,s,e ▸ hμ⟩),fun _ h=>.inl h,fun _ _ _ _ h=>.inl h⟩,fun _ _=>rfl⟩
 | bP id o =>
  obtain ⟨b,o0,s,rfl,_,hc⟩:=he
  refine ⟨⟨hs,hm,?_,fun _ h=>.inl h,fun id' b' o' s' hx=>?_⟩,fun id hid=>by simp[Mu.set]; intro e; exact absurd e hid⟩
  ·rcases hc with h1 | ⟨⟨o1,s1,hμ⟩,ho,_⟩
   ·exact fun b' hb' _=>h1.2.2 b' hb' (fun x=>x)
   ·exact fun b' hb' hn'=>ho b' hb' (fun e=>hn' ⟨id,o1,s1,e ▸ hμ⟩)
  ·by_cases e:id'=m
   ·subst e
    simp[Mu.set] at hx
    obtain ⟨rfl,_,_⟩:=hx
    rcases hc with h1 | ⟨⟨o1,s1,hμ⟩,_,_⟩
    ·exact .inr ⟨Ug _,.inl h1.1⟩
    ·exact .inr ⟨Ug _,.inr ⟨id,o1,s1,hμ⟩⟩
   ·simp[Mu.set,e] at hx; exact .inl hx
theorem Ht {f:FuncId} {args:Array Value} (h:dG P f=true):(callFunc f args).run P w=.ok (.enter f args) w:=by
 unfold dG at h
 split at h
 ·rename_i fn hfn
  simp only[Uh,bne_iff_ne,ne_eq] at h
  have h1:(fn.name == "runtime.NumGoroutine")=false:=by simpa using h.1
  have h2:fn.body.isNone=false:=by cases hb:fn.body <;> simp_all
  have h3:¬ (fn.name = "runtime.NumGoroutine"):=by simpa using h.1
  have h4:¬ (fn.body=none):=by cases hb:fn.body <;> simp_all
  simp[callFunc,hfn,h3,h4]
 ·simp at h
theorem oq {ops:Array Oper} (hops:ops=all.toArray) {a:Act} (hsz:a.tmps.size=n) {T:Env} {o:Oper} {t:Bool} (hg:dB n all T o=some t)
  (hguard:∀ j want d,o.guard=some (j,want)→(all[j]?).bind (·.dst)=some d→aF Z μ w.heap (T d) (a.tmps.getD d undef)):Region.wanted o (yielded ops a.tmps)=t:=by
 unfold dB at hg
 unfold Region.wanted
 cases hgd:o.guard with
 | none=>simp[hgd] at hg; subst hg; rfl
 | some p =>
  obtain ⟨j,want⟩:=p
  simp only[hgd] at hg ⊢
  cases hd:(all[j]?).bind (·.dst) with
  | none=>simp[hd] at hg
  | some d =>
   simp only[hd] at hg
   split at hg
   ·rename_i hlt
    have hv:=hguard j want d hgd hd
    split at hg
    ·rename_i b hb
     rw[hb] at hv
     have hv:=eT hv
     simp only[T7] at hg
     subst hg
     have hlt':d < a.tmps.size:=hsz ▸ hlt
     simp only[Ui,Up hlt',Un] at hv
     have:yielded ops a.tmps j=some b:=by
      unfold yielded
      subst hops
      simp only[U2,hd,UK,Up hlt',hv]
     rw[this]
     cases b <;> cases want <;> rfl
    ·rename_i hb
     rw[hb] at hv
     have hlt':d < a.tmps.size:=hsz ▸ hlt
     generalize hxe:a.tmps.getD d undef=x at hv
     cases hv with
     | bE _ aas h1 h2 =>
      simp only[T7] at hg
      subst hg
      have h3:a.tmps[d]?=some (.tuple aas):=by
       rw[Up hlt']
       simp only[Ui,Up hlt',Un] at hxe
       rw[hxe]
      have:yielded ops a.tmps j=none:=by
       unfold yielded
       subst hops
       simp only[U2,hd,UK,h3]
      rw[this]
      rfl
    ·simp at hg
   ·simp at hg
theorem ym {ops:Array Oper} (hops:ops=all.toArray) {i:Nat} {o:Oper} (hi:ops[i]?=some o) {T:Env} {h h':aJ} {v:V} {rd wr:List Nat} {call:Bool} (st:dM P n all o T h v h' rd wr call) {a:Act} {H:View}
  (hsz:a.tmps.size=n) (hguard:∀ j want d,o.guard=some (j,want)→(all[j]?).bind (·.dst)=some d→aF Z μ w.heap (T d) (a.tmps.getD d undef))
  (hT:∀ x∈o.op.operands,aF Z μ w.heap (ev T x) (a.eval x)) (hr:gY Z μ w.heap H) (hrd:∀ id,id∈rd→μ id≠none→H id=h.view id)
  (hcall:call=true→∀ id,id < h.length→μ id≠none→H id=h.view id) (hnew:∀ id,h.length≤id→id < h'.length→μ id=none)
  {K:Act→World→Prop} {Q:Exit→Act→World→Prop}
  (hK:∀ x w' Z' μ',aF Z' μ' w'.heap v x→gY Z' μ' w'.heap (jc H h h' wr)→Ext Z μ w h.length Z' μ' w'→(∀ id,id < h.length∨h'.length≤id→μ' id=μ id)→K (a.put o.dst x) w') :
  wpOp P ops Q i K a w:=by
 unfold wpOp
 rw[hi]
 cases st with
 | skip hg =>
  have:=oq (w:=w) hops hsz hg hguard
  simp only[this,Ut,if_false]
  refine hK undef w Z μ (.bE _ _ rfl (fun i hi=>by simp at hi)) (hr.congr fun id hid=>?_) (Ext.refl _ _ _ _) (fun _ _=>rfl)
  unfold jc
  rw[T6]
  rintro (h1 | h1)
  ·simp at h1
  ·omega
 | op hg hop =>
  rename_i eff
  have:=oq (w:=w) hops hsz hg hguard
  simp only[this,if_true]
  left
  have hlive:=mD hop
  have hav:=kX (fun id hid=>(hlive id hid).1)
  have hlen:=gD h eff
  have hmn:eff.fresh (μ h.length=none):=by
   cases eff with
   | new o=>exact hnew _ (Ug _) (by rw[hlen]; simp)
   | bP k o=>exact hnew _ (Ug _) (by rw[hlen]; simp)
   | _=>trivial
  ·have hctx:Ctx Z μ w.heap h.view rd h.length eff:=by
    refine ⟨hmn,fun id hid=>?_,hr.lt,hr.cL,hr.gM⟩
    by_cases hm:μ id=none
    ·have:=(gY.congr (H':=fun k=>if k=id then h.view id else H k) hr (fun k hk=>by
      split
      ·rename_i e; subst e; exact absurd hm hk
      ·rfl)).obj id
     simpa using this
    ·rw[← hrd id hid hm]; exact hr.obj id
   obtain ⟨nx,w',μ',hrun,hval,hsame,heff⟩:=RA hop hT hctx
   have hex:=heff.ext hsame hmn hr.cL hr.gM
   have hview:gY Z μ' w'.heap (jc H h (eff.apply h) eff.wr):=by
    have hdead:∀ id,id∈eff.wr→μ id≠none→H id≠.dead:=fun id hid hm=>by
     rw[hrd id (hlive id hid).2 hm]; exact (hlive id hid).1
    have hmu:∀ id o,(eff=.eW id o∨eff=.bP id o)→H id≠.dead∨μ id=none:=by
     rintro id o (rfl | rfl)
     ·by_cases hm:μ id=none
      ·exact .inr hm
      ·exact .inl (hdead id (by simp[bC.wr]) hm)
     ·by_cases hm:μ id=none
      ·exact .inr hm
      ·exact .inl (hdead id (by simp[bC.wr]) hm)
    have h2:gY Z μ w.heap (fun k=>if μ k=none then .vU .empty 0 else H k):=hr.congr (fun k hk=>by simp[hk])
    have h3:=h2.eff hmn hsame.size heff (fun id o e=>by
     split
     ·simp
     ·rename_i hk; exact (hmu id o (.inl e)).resolve_right hk) (fun id o e=>by
     split
     ·simp
     ·rename_i hk; exact (hmu id o (.inr e)).resolve_right hk)
    refine h3.congr (fun id hid=>?_)
    unfold jc
    rw[hav]
    cases eff with
    | none =>
     obtain ⟨rfl,_⟩:=heff
     simp only[bC.wr,bC.apply,bC.view,List.not_mem_nil,false_or]
     rw[T6 (by omega),T6 hid]
    | new o =>
     obtain ⟨b,o0,s,_,_,rfl,_⟩:=heff
     simp only[bC.wr,bC.view,View.set,List.not_mem_nil,false_or]
     by_cases e:id=h.length
     ·subst e; rw[T9 ⟨Ug _,by rw[hlen]; simp⟩,T9 rfl,T9 rfl]
     ·rw[T6 (by rw[hlen]; simp only; omega),T6 e]
      have:μ id≠none:=by simpa [Mu.set,e] using hid
      rw[T6 this]
    | eW k o =>
     obtain ⟨b,o0,s,_,rfl,_⟩:=heff
     simp only[bC.wr,bC.view,View.set,UT]
     by_cases e:id=k
     ·subst e; rw[T9 (.inl rfl),T9 rfl,T9 rfl]
     ·rw[T6 (by rw[hlen]; simp only; omega),T6 e,T6 hid]
    | bP k o =>
     obtain ⟨b,o0,s,rfl,_⟩:=heff
     simp only[bC.wr,bC.view,View.set,UT]
     by_cases e:id=h.length
     ·subst e; rw[T9 (.inr ⟨Ug _,by rw[hlen]; simp⟩),T9 rfl,T9 rfl]
     ·by_cases e2:id=k
      ·subst e2; rw[T9 (.inl rfl),T6 e,T9 rfl,T6 e,T9 rfl]
      ·rw[T6 (by rw[hlen]; simp only; omega),T6 e,T6 e2]
       have:μ id≠none:=by simpa [Mu.set,e] using hid
       rw[T6 this]
   have hfix:∀ id,id < h.length∨(eff.apply h).length≤id→μ' id=μ id:=by
    intro id hid
    refine hex.2 id (fun hc=>?_)
    cases eff with
    | none=>exact hc
    | new o=>simp only at hc; subst hc; rw[hlen] at hid; simp at hid; omega
    | eW k o=>exact hc
    | bP k o=>simp only at hc; subst hc; rw[hlen] at hid; simp at hid; omega
   unfold Oper.wp
   rw[hrun]
   rcases hval with ⟨x,rfl,hv⟩ | ⟨rfl,rfl⟩
   ·exact hK x w' Z μ' hv hview hex.1 hfix
   ·exact hK undef w' Z μ' (.any _) hview hex.1 hfix
 | jn hg ho hok =>
  rename_i e x
  have:=oq (w:=w) hops hsz hg hguard
  simp only[this,if_true]
  left
  have hx:=hT x (by rw[ho]; simp[Op.operands])
  have hcs:=gH hx hok
  have hrun:(execOp a.eval o).run P w=.ok (.value (.pointer (some ⟨w.heap.size,0,none⟩))) (w.alloc (.cells (a.eval x).cells e)):=by
   unfold execOp
   rw[ho]
   simp[Instr.box,newVar,newRow]
  unfold Oper.wp
  rw[hrun]
  have hob:fV w.heap (w.alloc (.cells (a.eval x).cells e)).heap (fun _=>False):=eF _ _
  have hsz':(w.alloc (.cells (a.eval x).cells e)).heap.size=w.heap.size+1:=by rw[heap_alloc]; simp
  have hm:gR Z (fun b=>Z b∨b=w.heap.size) μ μ w.heap (w.alloc (.cells (a.eval x).cells e)).heap:=⟨fun _ h=>.inl h,fun b hb=>hob b (hr.cL b hb) (fun x=>x),fun _ _ h=>h,hob.qb⟩
  have hsame:eE w (w.alloc (.cells (a.eval x).cells e)):=iV _ _
  have hst:jc H h h []=H:=by
   funext id
   unfold jc
   rw[T6]
   rintro (h1 | h1)
   ·simp at h1
   ·omega
  refine hK _ _ (fun b=>Z b∨b=w.heap.size) μ ?_ (hst.symm ▸ ⟨fun id=>?_,hr.inj,fun id b o s hx=>UD (hr.lt _ _ _ _ hx) hsame.size,fun b hb=>?_,fun id b o s hx hzb=>?_⟩)
   ⟨hsame,hm,fun b hb _=>hob b hb (fun x=>x),fun b hb=>?_,fun _ _ _ _ h=>.inl h⟩ (fun _ _=>rfl)
  ·have:=aF.aO (Z:=fun b=>Z b∨b=w.heap.size) (μ:=μ) (hp:=(w.alloc (.cells (a.eval x).cells e)).heap) (ev T x).cells 0 w.heap.size 0 (fun k=>(a.eval x).cells.toList.getD k undef) (.inr rfl) (fun k hk=>?_) (fun k hk=>(hcs.2 k hk).mono hm)
   ·simpa using this
   ·have hk':k < (a.eval x).cells.size:=by have:=hcs.1; simp at this; omega
    simp[cellAt,heap_alloc,T0,hk']
  ·exact (hr.obj id).mono hm rfl (fun b o s hx=>hob b (hr.lt _ _ _ _ hx) (fun x=>x))
  ·rcases hb with hb | rfl
   ·exact UD (hr.cL b hb) hsame.size
   ·omega
  ·rcases hzb with hb | rfl
   ·exact hr.gM _ _ _ _ hx hb
   ·have:=hr.lt _ _ _ _ hx; omega
  ·rcases hb with hb | rfl
   ·exact .inl hb
   ·exact .inr (Ug _)
 | gf hg ho hs hd he hx0 =>
  rename_i s d e x st
  have:=oq (w:=w) hops hsz hg hguard
  simp only[this,if_true]
  left
  have hx:=hT x (by rw[ho]; simp[Op.operands])
  rw[hx0] at hx
  have hxe:=eT hx
  have hcap:st.size≤grownCap w st.size 0 e:=by unfold grownCap Question.cut; exact Nat.le_add_right _ _
  have hrun:=run_bytes_of_string w s d e st hs hd he
  generalize hcp:grownCap w st.size 0 e=cap at hrun hcap
  have hbs:(bytesRow st cap).size=cap:=by
   simp only[bytesRow,Array.size_append,Array.size_map,Array.size_replicate]
   have:st.data.size=st.size:=rfl
   omega
  have hrun':(execOp a.eval o).run P w=.ok (.value (.slice (some ⟨w.heap.size,0,none⟩) st.size cap)) (w.drew.alloc (.cells (bytesRow st cap) e (cap,cap+1))):=by
   unfold execOp
   rw[ho]
   simp only[hxe,Sem.run_bind,hrun,Result.andThen_ok,Sem.run_pure]
   rw[hbs]
  unfold Oper.wp
  rw[hrun']
  have hheap:(w.drew.alloc (.cells (bytesRow st cap) e (cap,cap+1))).heap=w.heap.push (.cells (bytesRow st cap) e (cap,cap+1)):=by rw[heap_alloc,eR]
  have hob:fV w.heap (w.drew.alloc (.cells (bytesRow st cap) e (cap,cap+1))).heap (fun _=>False):=by rw[hheap]; exact eF _ _
  have hsz':(w.drew.alloc (.cells (bytesRow st cap) e (cap,cap+1))).heap.size=w.heap.size+1:=by rw[hheap]; simp
  have hm:gR Z (fun b=>Z b∨b=w.heap.size) μ μ w.heap (w.drew.alloc (.cells (bytesRow st cap) e (cap,cap+1))).heap:=⟨fun _ h=>.inl h,fun b hb=>hob b (hr.cL b hb) (fun x=>x),fun _ _ h=>h,hob.qb⟩
  have hsame:eE w (w.drew.alloc (.cells (bytesRow st cap) e (cap,cap+1))):=j5 _ _
  have hst:jc H h h []=H:=by
   funext id
   unfold jc
   rw[T6]
   rintro (h1 | h1)
   ·simp at h1
   ·omega
  refine hK _ _ (fun b=>Z b∨b=w.heap.size) μ ?_ (hst.symm ▸ ⟨fun id=>?_,hr.inj,fun id b o s hx=>UD (hr.lt _ _ _ _ hx) hsame.size,fun b hb=>?_,fun id b o s hx hzb=>?_⟩)
   ⟨hsame,hm,fun b hb _=>hob b hb (fun x=>x),fun b hb=>?_,fun _ _ _ _ h=>.inl h⟩ (fun _ _=>rfl)
  ·have hl:(gC st).length=st.size:=by rw[gC,Uc,bsize]
   have:=aF.aL (Z:=fun b=>Z b∨b=w.heap.size) (μ:=μ) (hp:=(w.drew.alloc (.cells (bytesRow st cap) e (cap,cap+1))).heap) (gC st) w.heap.size 0 1 cap (fun i _=>.int .u8 ((st.data.toList.getD i 0).toNat)) (.inr rfl) (by rw[hl]; exact hcap) ?_ ?_ ?_
   ·rw[hl] at this; exact this
   ·intro i hi
    have hi':i < st.data.toList.length:=by simpa [gC] using hi
    simp only[gC,T0,T8,T4 hi',Ue,Un,Um,UG]
   ·intro i j hi hj
    obtain rfl:j=0:=by omega
    have hi':i < st.data.size:=by simpa [gC] using hi
    rw[hheap]
    simp only[cellAt,Array.getElem?_push_size,bytesRow,Nat.mul_one,VM,U3]
    rw[Vo (by simpa using hi'),Array.getElem?_map,Up hi']
    simp[T0,Up hi']
   ·intro i j hi hj
    obtain rfl:j=0:=by omega
    have hi':i < st.data.size:=by simpa [gC] using hi
    simp only[gC,T0,T8,Array.getElem?_toList,Up hi',Ue,Un,UC]
    exact .val _ rfl
  ·exact (hr.obj id).mono hm rfl (fun b o s hx=>hob b (hr.lt _ _ _ _ hx) (fun x=>x))
  ·rcases hb with hb | rfl
   ·exact UD (hr.cL b hb) hsame.size
   ·omega
  ·rcases hzb with hb | rfl
   ·exact hr.gM _ _ _ _ hx hb
   ·have:=hr.lt _ _ _ _ hx; omega
  ·rcases hb with hb | rfl
   ·exact .inl hb
   ·exact .inr (Ug _)
 | call hg ho hf hok hc hw hwl =>
  rename_i f args ats g first cap
  have:=oq (w:=w) hops hsz hg hguard
  simp only[this,if_true]
  left
  have hargs:∀ x∈args.toList,aF Z μ w.heap (ev T x) (a.eval x):=fun x hx=>hT x (by rw[ho]; simp[Op.operands,Call.operands]; right; simpa using hx)
  have hfv:=hT f (by rw[ho]; simp[Op.operands,Call.operands])
  rw[hf] at hfv
  generalize hfe:a.eval f=fx at hfv
  cases hfv with
  | fn _ _ _ aas bs h1 h2 h3 h4 =>
   have hrun:(execOp a.eval o).run P w=.ok (.enter g (aas ++ args.map a.eval ++ bs)) w:=by
    unfold execOp
    rw[ho]
    simp only[resolve,hfe,Deferred.ofValue,Sem.run_bind,Sem.run_pure,Result.andThen_ok,invoke,Ht hok]
   unfold Oper.wp
   rw[hrun]
   show Calls P g (aas ++ args.map a.eval ++ bs) w _
   have hxs:(aas ++ args.map a.eval ++ bs)=(aas.toList ++ args.toList.map a.eval ++ bs.toList).toArray:=by
    apply Array.ext'; simp
   rw[hxs]
   have hrels:fU Z μ w.heap (first ++ args.toList.map (ev T) ++ cap) (aas.toList ++ args.toList.map a.eval ++ bs.toList):=by
    have app:∀ {p q:List V} {x y:List Value},fU Z μ w.heap p x→fU Z μ w.heap q y→fU Z μ w.heap (p ++ q) (x ++ y):=by
     intro p q x y hp hq
     refine ⟨by simp[hp.1,hq.1],fun k hk=>?_⟩
     simp only[T0]
     by_cases hkl:k < p.length
     ·rw[Us hkl,Us (hp.1 ▸ hkl)]
      simpa only [T0] using hp.2 k hkl
     ·rw[UH (by omega),UH (by rw[← hp.1]; omega),← hp.1]
      simpa only [T0] using hq.2 (k - p.length) (by simp at hk; omega)
    refine app (app ⟨by simpa using h1,fun k hk=>?_⟩ ⟨by simp,fun k hk=>?_⟩) ⟨by simpa using h2,fun k hk=>?_⟩
    ·simpa [T0,Ui] using h3 k hk
    ·have hk':k < args.toList.length:=by simpa using hk
     have:=hargs args.toList[k] (Ud _)
     simp only[T0,T8,T4 hk',Ue,Un]
     exact this
    ·simpa [T0,Ui] using h4 k hk
   have hcat:gY Z μ w.heap (cat h H):=hr.congr (fun id hid=>by
    unfold cat; split
    ·rename_i hlt; exact (hcall rfl id hlt hid).symm
    ·rfl)
   refine (hc.2 Z μ H w _ hrels hcat hnew).mono ?_
   rintro e w' ⟨x,Z',μ',rfl,hv,hh,hex,hfix⟩
   refine hK x w' Z' μ' hv (hh.congr fun id hid=>?_) hex hfix
   unfold jc cat
   by_cases hwr:id∈wr∨(h.length≤id∧id < h'.length)
   ·rw[T9 hwr]
    rcases hwr with h5 | h5
    ·by_cases hl:id < h'.length
     ·rw[T9 hl]
     ·exact absurd (UD (hwl id h5) hc.1) hl
    ·rw[T9 h5.2]
   ·rw[T6 hwr]
    by_cases hl:id < h'.length
    ·rw[T9 hl]
     have hl2:id < h.length:=by
      rcases Uv id h.length with h6 | h6
      ·exact h6
      ·exact absurd (.inr ⟨h6,hl⟩) hwr
     rw[hw id hl2 (fun q=>hwr (.inl q))]
     exact hcall rfl id hl2 (by rw[← hfix id (.inl hl2)]; exact hid)
    ·rw[T6 hl]
end
structure Rec where
 rd:List Nat
 wr:List Nat
 call:Bool
 lo:Nat
 hi:Nat
inductive Tr (P:Program) (n:Nat) (all:List Oper):List Oper→Env→aJ→List Rec→Env→aJ→Prop
 | nil {T:Env} {h:aJ} : Tr P n all [] T h [] T h
 | cons {o:Oper} {rest:List Oper} {T T':Env} {h h1 h':aJ} {v:V} {rd wr:List Nat} {call:Bool} {recs:List Rec} : dM P n all o T h v h1 rd wr call→rE n o=true →
  Tr P n all rest (T.put o.dst v) h1 recs T' h'→Tr P n all (o :: rest) T h (⟨rd,wr,call,h.length,h1.length⟩ :: recs) T' h'
def mask (o:Oper) (acc:List Nat):Nat:=o.after.toList.foldl (fun s e=>if Region.binds .any e then s ||| 2 ^ e.on ||| acc.getD e.on 0 else s) 0
def fw:List Oper→List Nat→List Nat
 | [],acc=>acc
 | o :: r,acc=>fw r (acc ++ [mask o acc])
def tmpsOf (o:Oper):List Nat:=o.op.operands.toList.filterMap fun | .tmp t=>some t | _=>none
def nE (all:List Oper) (o:Oper):List Nat:=o.dst.toList ++ tmpsOf o ++ (match o.guard with
 | some (j,_)=>((all[j]?).bind (·.dst)).toList
 | none=>[])
def KO (d:Option Nat) (l:List Nat):Bool:=match d with
 | some t=>!l.contains t
 | none=>true
def ordered (b:List Nat) (i k:Nat):Bool:=(b.getD k 0).testBit i
def lS (all:List Oper):Bool :=
 let b:=fw all []
 all.zipIdx.all fun (ok,k) =>
  (ok.after.toList.all fun e=>!Region.binds .any e || decide (e.on < k)) &&
  all.zipIdx.all fun (oi,i)=>!decide (i < k) || ordered b i k || (KO oi.dst (nE all ok) && KO ok.dst (nE all oi))
structure oo (a b:Rec):Prop where
 SD:∀ id,id∈a.wr→¬ id∈b.rd
 RH:∀ id,id∈b.wr→¬ id∈a.rd
 Se:a.call=true→b.wr=[]
 call2:b.call=true→a.wr=[]
 new:∀ id,id∈b.wr→¬ (a.lo≤id∧id < a.hi)
def ur (all:List Oper) (recs:List Rec):Prop:=∀ i k a b,i < k→recs[i]?=some a→recs[k]?=some b→ordered (fw all []) i k=false→oo a b
theorem Ex (l:List Edge) (acc:List Nat) (s j:Nat):(l.foldl (fun s e=>if Region.binds .any e then s ||| 2 ^ e.on ||| acc.getD e.on 0 else s) s).testBit j=true →
  s.testBit j=true∨∃ e∈l,Region.binds .any e=true∧(j=e.on∨(acc.getD e.on 0).testBit j=true):=by
 induction l generalizing s with
 | nil=>intro h; exact .inl h
 | cons e l ih =>
  intro h
  simp only[Uu] at h
  rcases ih _ h with h1 | ⟨e',he',h2⟩
  ·by_cases hb:Region.binds .any e=true
   ·rw[T9 hb,Nat.testBit_or,Nat.testBit_or,Nat.testBit_two_pow] at h1
    simp only[U8,Ul] at h1
    rcases h1 with (h1 | h1) | h1
    ·exact .inl h1
    ·exact .inr ⟨e,V1,hb,.inl h1.symm⟩
    ·exact .inr ⟨e,V1,hb,.inr h1⟩
   ·rw[T6 hb] at h1; exact .inl h1
  ·exact .inr ⟨e',Ux _ he',h2⟩
theorem Ax:∀ (l:List Oper) (acc:List Nat) (k:Nat),k < acc.length→(fw l acc).getD k 0=acc.getD k 0
 | [],acc,k,_=>rfl
 | o :: r,acc,k,h=>by
  rw[fw,Ax r _ k (by simp; omega)]
  simp[T0,Us h]
theorem CN:∀ (l:List Oper) (acc:List Nat) (k:Nat) (o:Oper),l[k]?=some o→∃ acc',(fw l acc).getD (acc.length+k) 0=mask o acc'∧acc'.length=acc.length+k∧∀ m,m < acc'.length→acc'.getD m 0=(fw l acc).getD m 0
 | [],acc,k,o,h=>by simp at h
 | p :: r,acc,0,o,h=>by
  simp at h; subst h
  refine ⟨acc,?_,by simp,fun m hm=>?_⟩
  ·rw[fw,Ax r _ _ (by simp)]
   simp[T0]
  ·rw[fw,Ax r _ _ (by simp; omega)]
   simp[T0,Us hm]
 | p :: r,acc,k+1,o,h=>by
  have h':r[k]?=some o:=by simpa using h
  obtain ⟨acc',h1,h2,h3⟩:=CN r (acc ++ [mask p acc]) k o h'
  refine ⟨acc',?_,by simp at h2; omega,fun m hm=>?_⟩
  ·rw[fw]
   have e:(acc ++ [mask p acc]).length+k=acc.length+(k+1):=by simp; omega
   rw[← e]; exact h1
  ·rw[fw]; exact h3 m hm
theorem xe {all:List Oper} {L:Nat→Prop} (hb:∀ k o,all[k]?=some o→∀ e∈o.after.toList,Region.binds .any e=true→e.on < k)
  (hL:∀ k o,all[k]?=some o→L k→∀ e∈o.after.toList,Region.binds .any e=true→L e.on):∀ k o j,all[k]?=some o→L k→ordered (fw all []) j k=true→L j:=by
 intro k
 induction k using Nat.strongRecOn with
 | _ k ih =>
  intro o j hk hLk ho
  unfold ordered at ho
  obtain ⟨acc',h1,h2,h3⟩:=CN all [] k o hk
  simp only[UG,U3] at h1 h2
  rw[h1] at ho
  rcases Ex _ _ _ _ ho with h4 | ⟨e,he,hbe,h4⟩
  ·simp at h4
  ·have hlt:=hb k o hk e he hbe
   have hLe:=hL k o hk hLk e he hbe
   rcases h4 with h4 | h4
   ·rw[h4]; exact hLe
   ·have hklt:k < all.length:=by
     rcases Uv k all.length with h5 | h5
     ·exact h5
     ·simp[UF h5] at hk
    refine ih e.on hlt _ j (T4 (by omega)) hLe ?_
    unfold ordered
    rw[← h3 e.on (by omega)]
    exact h4
theorem HR {all:List Oper} {L:Nat→Prop} (hb:∀ k o,all[k]?=some o→∀ e∈o.after.toList,Region.binds .any e=true→e.on < k)
  (hL:∀ k o,all[k]?=some o→L k→∀ e∈o.after.toList,Region.binds .any e=true→L e.on) {k:Nat} {o:Oper} (hk:all[k]?=some o) (hr:∀ e∈o.after.toList,Region.binds .any e=true→L e.on)
  {j:Nat} (ho:ordered (fw all []) j k=true):L j:=by
 unfold ordered at ho
 obtain ⟨acc',h1,h2,h3⟩:=CN all [] k o hk
 simp only[UG,U3] at h1 h2
 rw[h1] at ho
 rcases Ex _ _ _ _ ho with h4 | ⟨e,he,hbe,h4⟩
 ·simp at h4
 ·have hlt:=hb k o hk e he hbe
  have hLe:=hr e he hbe
  rcases h4 with h4 | h4
  ·rw[h4]; exact hLe
  ·have hklt:k < all.length:=by
    rcases Uv k all.length with h5 | h5
    ·exact h5
    ·simp[UF h5] at hk
   refine xe hb hL e.on _ j (T4 (by omega)) hLe ?_
   unfold ordered
   rw[← h3 e.on (by omega)]
   exact h4
theorem Iu {all:List Oper} (h:lS all=true):(∀ k o,all[k]?=some o→∀ e∈o.after.toList,Region.binds .any e=true→e.on < k) ∧
  ∀ i k oi ok,i < k→all[i]?=some oi→all[k]?=some ok→ordered (fw all []) i k=false→(∀ t,oi.dst=some t→¬ t∈nE all ok)∧(∀ t,ok.dst=some t→¬ t∈nE all oi):=by
 unfold lS at h
 have mem:∀ k o,all[k]?=some o→(o,k)∈all.zipIdx:=by
  intro k o hk
  rw[U9]; exact hk
 refine ⟨fun k o hk e he hb=>?_,fun i k oi ok hik hi hk ho=>?_⟩
 ·have:=UE.1 h _ (mem k o hk)
  simp only[Uh] at this
  have:=UE.1 this.1 e he
  simpa [hb] using this
 ·have:=UE.1 h _ (mem k ok hk)
  simp only[Uh] at this
  have:=UE.1 this.2 _ (mem i oi hi)
  simp only[hik,decide_true,V5,Bool.false_or,ho,Uh] at this
  have dj:∀ (d:Option Nat) (l:List Nat),KO d l=true→∀ t,d=some t→¬ t∈l:=by
   intro d l hd t ht
   subst ht
   simpa [KO] using hd
  exact ⟨dj _ _ this.1,dj _ _ this.2⟩
theorem Ei {P:Program} {n:Nat} {all:List Oper} : ∀ (l:List Oper) (T:Env) (h:aJ) (recs:List Rec) (T':Env) (h':aJ),Tr P n all l T h recs T' h' →
  recs.length=l.length∧∃ (Ts:Nat→Env) (hs:Nat→aJ) (vs:Nat→V),Ts 0=T∧hs 0=h∧Ts l.length=T'∧hs l.length=h' ∧
   ∀ i o r,l[i]?=some o→recs[i]?=some r→dM P n all o (Ts i) (hs i) (vs i) (hs (i+1)) r.rd r.wr r.call∧rE n o=true∧Ts (i+1)=(Ts i).put o.dst (vs i)∧r.lo=(hs i).length∧r.hi=(hs (i+1)).length:=by
 intro l T h recs T' h' tr
 induction tr with
 | nil=>exact ⟨rfl,fun _=>_,fun _=>_,fun _=>.any,rfl,rfl,rfl,rfl,fun i o r h=>by simp at h⟩
 | @cons o rest T T' h h1 h' v rd wr call recs hst hd _ ih =>
  obtain ⟨hl,Ts,hs,vs,e1,e2,e3,e4,hi⟩:=ih
  refine ⟨by simp[hl],fun i=>match i with | 0=>T | i+1=>Ts i,fun i=>match i with | 0=>h | i+1=>hs i,fun i=>match i with | 0=>v | i+1=>vs i,rfl,rfl,e3,e4,?_⟩
  intro i o' r ho hr
  cases i with
  | zero =>
   simp at ho hr
   subst ho hr
   exact ⟨by simpa only [e1,e2] using hst,hd,by simp only[e1],rfl,by simp only[e2]⟩
  | succ i =>
   exact hi i o' r (by simpa using ho) (by simpa using hr)
theorem tJ {P:Program} {n:Nat} {all:List Oper} {o:Oper} {T:Env} {h h':aJ} {v:V} {rd wr:List Nat} {call:Bool} (st:dM P n all o T h v h' rd wr call):h.length≤h'.length:=by
 cases st with
 | skip=>exact Ug _
 | op _ _=>rw[gD]; exact Nat.le_add_right _ _
 | jn _ _ _=>exact Ug _
 | gf _ _ _ _ _ _=>exact Ug _
 | call _ _ _ _ hc _ _=>exact hc.1
theorem rB {P:Program} {n:Nat} {all:List Oper} {o:Oper} {T:Env} {h h':aJ} {v:V} {rd wr:List Nat} {call:Bool} (st:dM P n all o T h v h' rd wr call) {id:Nat} (hid:id < h.length) (hw:¬ id∈wr):h'.view id=h.view id:=by
 cases st with
 | skip=>rfl
 | op hg hop =>
  rename_i eff
  rw[kX (fun id hid=>(mD hop id hid).1)]
  cases eff with
  | none=>rfl
  | new o=>simp only[bC.view,View.set]; rw[T6 (by omega)]
  | eW k o=>simp only[bC.view,View.set]; rw[T6 (fun e=>hw (by simp[bC.wr,e]))]
  | bP k o=>simp only[bC.view,View.set]; rw[T6 (by omega),T6 (fun e=>hw (by simp[bC.wr,e]))]
 | jn _ _ _=>rfl
 | gf _ _ _ _ _ _=>rfl
 | call _ _ _ _ _ hv _=>exact hv id hid hw
theorem wk {P:Program} {n:Nat} {all:List Oper} {o:Oper} {T:Env} {h h':aJ} {v:V} {rd wr:List Nat} {call:Bool} (st:dM P n all o T h v h' rd wr call) {id:Nat} (hw:id∈wr):id < h.length∧(call=false→id∈rd):=by
 cases st with
 | skip=>simp at hw
 | op hg hop=>exact ⟨ig (mD hop id hw).1,fun _=>(mD hop id hw).2⟩
 | jn _ _ _=>simp at hw
 | gf _ _ _ _ _ _=>simp at hw
 | call _ _ _ _ _ _ hl=>exact ⟨hl id hw,fun h=>by simp at h⟩
theorem HE {H:View} {x:V} {xs:List (List V)} {rd:List Nat} (h:bX H x=some (xs,rd)):∀ id,id∈rd→H id≠.dead:=by
 intro id hid
 unfold bX at h
 split at h
 ·simp at h; rw[h.2] at hid; simp at hid
 ·simp at h; rw[h.2] at hid; simp at hid
 ·simp at h; rw[h.2] at hid; simp at hid
 ·simp at h; rw[h.2] at hid; simp at hid
 ·split at h
  ·rename_i hH
   split at h
   ·simp at h; rw[← h.2] at hid; simp at hid; subst hid; rw[hH]; simp
   ·simp at h
  ·simp at h
 ·simp at h; rw[h.2] at hid; simp at hid
 ·simp at h
theorem Rq {P:Program} {o:Oper} {T:Env} {H:View} {n:Nat} {v:V} {eff:bC} {rd:List Nat} (h:cm P o T H n=some (v,eff,rd)):∀ id,id∈rd→H id≠.dead:=by
 have nn:∀ {v':V} {e:bC},some (v',e,([]:List Nat))=some (v,eff,rd)→∀ id,id∈rd→H id≠.dead:=by
  intro v' e heq id hid
  simp only[T7,Ua] at heq
  rw[← heq.2.2] at hid; simp at hid
 have one:∀ {k:Nat} {v':V} {e:bC},H k≠.dead→some (v',e,[k])=some (v,eff,rd)→∀ id,id∈rd→H id≠.dead:=by
  intro k v' e hk heq id hid
  simp only[T7,Ua] at heq
  rw[← heq.2.2] at hid; simp at hid; subst hid; exact hk
 have mp:∀ {α:Type} {x:Option α} {f:α→V},(x.map fun a=>(f a,bC.none,([]:List Nat)))=some (v,eff,rd)→∀ id,id∈rd→H id≠.dead:=by
  intro α x f h
  simp only[Uf] at h
  obtain ⟨a,_,h⟩:=h
  exact nn (Vl some h)
 have mp1:∀ {α:Type} {x:Option α} {f:α→V} {k:Nat},H k≠.dead→(x.map fun a=>(f a,bC.none,[k]))=some (v,eff,rd)→∀ id,id∈rd→H id≠.dead:=by
  intro α x f k hk h
  simp only[Uf] at h
  obtain ⟨a,_,h⟩:=h
  exact one hk (Vl some h)
 have pu:dL P o T=some (v,eff,rd)→∀ id,id∈rd→H id≠.dead:=by
  intro h
  unfold dL at h
  repeat' (split at h)
  all_goals first | exact nn h | (simp at h; done)
 have bx:∀ {cs:List V},lG cs n=some (v,eff,rd)→∀ id,id∈rd→H id≠.dead:=by
  intro cs h
  unfold lG at h
  split at h
  ·exact nn h
  ·simp at h
 have ell:∀ {x:V} {xs:List (List V)} {r:List Nat} {v':V} {e:bC},bX H x=some (xs,r)→some (v',e,r)=some (v,eff,rd)→∀ id,id∈rd→H id≠.dead:=by
  intro x xs r v' e he heq id hid
  simp only[T7,Ua] at heq
  rw[← heq.2.2] at hid
  exact HE he id hid
 have elc:∀ {x:V} {xs:List (List V)} {r:List Nat} {v':V} {e:bC} {k:Nat},bX H x=some (xs,r)→H k≠.dead→some (v',e,k :: r)=some (v,eff,rd)→∀ id,id∈rd→H id≠.dead:=by
  intro x xs r v' e k he hk heq id hid
  simp only[T7,Ua] at heq
  rw[← heq.2.2] at hid
  rcases Uk.1 hid with h1 | h1
  ·subst h1; exact hk
  ·exact HE he id h1
 unfold cm at h
 split at h
 ·exact nn h
 ·exact nn h
 ·split at h
  ·exact nn h
  ·simp at h
 ·split at h
  ·exact bx h
  ·simp at h
 ·exact bx h
 ·unfold uG at h
  split at h
  ·split at h
   ·exact mp h
   ·simp at h
  ·simp at h
 ·unfold ic at h
  repeat' (split at h)
  all_goals first | exact nn h | (simp at h; done)
 ·unfold mg at h
  split at h
  ·split at h
   ·rename_i hH
    split at h
    ·exact mp1 (by rw[hH]; simp) h
    ·simp at h
   ·simp at h
  ·exact mp h
  ·simp at h
 ·unfold qq at h
  split at h
  ·split at h
   ·rename_i hH
    split at h
    ·exact one (by rw[hH]; simp) h
    ·simp at h
   ·simp at h
  ·simp at h
 ·repeat' (split at h)
  all_goals first | exact nn h | (simp at h; done)
 ·unfold kV at h
  repeat' (split at h)
  all_goals first | exact nn h | (simp at h; done)
 ·unfold vp at h
  split at h
  ·exact mp h
  ·simp at h
 ·unfold kT at h
  repeat' (split at h)
  all_goals first | exact nn h | (simp at h; done)
 ·split at h
  ·exact pu h
  ·unfold rY at h
   repeat' (split at h)
   all_goals first | exact nn h | (simp at h; done)
 ·unfold kW at h
  repeat' (split at h)
  all_goals first | exact nn h | (simp at h; done)
 ·repeat' (split at h)
  all_goals first | exact nn h | (simp at h; done)
 ·exact nn h
 ·unfold fE at h
  simp only at h
  split at h
  ·simp at h
  ·split at h
   ·simp at h
   ·split at h
    ·split at h
     ·rename_i hH
      repeat' (split at h)
      all_goals first | exact one (by rw[hH]; simp) h | (simp at h; done)
     ·simp at h
    ·simp at h
 ·unfold eZ at h
  split at h
  ·split at h
   ·rename_i hH
    repeat' (split at h)
    all_goals first | exact one (by rw[hH]; simp) h | (simp at h; done)
   ·simp at h
  ·simp at h
 ·unfold eZ at h
  split at h
  ·split at h
   ·rename_i hH
    repeat' (split at h)
    all_goals first | exact one (by rw[hH]; simp) h | (simp at h; done)
   ·simp at h
  ·simp at h
 ·unfold eh at h
  split at h
  ·split at h
   ·rename_i hH
    repeat' (split at h)
    all_goals first | exact one (by rw[hH]; simp) h | (simp at h; done)
   ·simp at h
  ·simp at h
 ·unfold jM at h
  split at h
  ·split at h
   ·rename_i hH
    repeat' (split at h)
    all_goals first | exact one (by rw[hH]; simp) h | (simp at h; done)
   ·simp at h
  ·simp at h
 ·repeat' (split at h)
  all_goals first | exact nn h | (simp at h; done)
 ·repeat' (split at h)
  all_goals first | exact nn h | (simp at h; done)
 ·unfold A4 at h
  split at h
  ·split at h
   ·rename_i hH
    split at h
    ·exact one (by rw[hH]; simp) h
    ·exact one (by rw[hH]; simp) h
   ·simp at h
  ·simp at h
 ·split at h
  ·unfold mH at h
   split at h
   ·split at h
    ·split at h
     ·rename_i he _
      simp only[Uf] at h
      obtain ⟨a,_,h⟩:=h
      exact ell he (Vl some h)
     ·simp at h
    ·simp at h
   ·repeat' (split at h)
    all_goals first | exact nn h | (simp at h; done)
   ·split at h
    ·split at h
     ·split at h
      ·rename_i hH
       exact one (by rw[hH]; simp) h
      ·simp at h
     ·simp at h
    ·simp at h
   ·simp at h
  ·exact pu h
 ·split at h
  ·split at h
   ·unfold tV at h
    split at h
    ·exact mp h
    ·split at h
     ·split at h
      ·rename_i hH
       exact one (by rw[hH]; simp) h
      ·simp at h
     ·exact nn h
     ·simp at h
    ·repeat' (split at h)
     all_goals first | exact nn h | (simp at h; done)
    ·exact nn h
    ·simp at h
   ·simp at h
  ·split at h
   ·unfold mN at h
    split at h
    ·rename_i hel
     split at h
     ·simp at h
     ·split at h
      ·split at h
       all_goals first | exact nn h | (simp at h; done)
      ·split at h
       ·simp at h
       ·split at h
        ·split at h
         ·exact ell hel h
         ·simp at h
        ·split at h
         ·rename_i hH
          split at h
          ·exact elc hel (by rw[hH]; simp) h
          ·simp at h
         ·simp at h
        ·simp at h
    ·simp at h
   ·split at h
    ·unfold wo at h
     split at h
     ·split at h
      ·split at h
       ·exact nn h
       ·split at h
        ·exact nn h
        ·simp at h
      ·simp at h
     ·simp at h
    ·simp at h
  ·split at h
   ·unfold F7 at h
    split at h
    ·exact nn h
    ·simp at h
   ·simp at h
  ·split at h
   ·unfold A3 at h
    split at h
    ·rename_i hel _
     split at h
     ·simp at h
     ·split at h
      ·exact nn h
      ·split at h
       ·split at h
        ·rename_i hH
         split at h
         ·exact elc hel (by rw[hH]; simp) h
         ·simp at h
        ·simp at h
       ·simp at h
    ·simp at h
   ·simp at h
  ·split at h
   ·unfold uX at h
    split at h
    ·split at h
     ·rename_i hH
      repeat' (split at h)
      all_goals first | exact one (by rw[hH]; simp) h | (simp at h; done)
     ·simp at h
    ·simp at h
   ·simp at h
  ·split at h
   ·unfold uO at h
    split at h
    ·split at h
     ·exact nn h
     ·split at h
      ·split at h
       ·rename_i hH
        split at h
        ·exact one (by rw[hH]; simp) h
        ·simp at h
       ·simp at h
      ·simp at h
    ·simp at h
   ·simp at h
  ·exact pu h
  ·exact pu h
  ·exact pu h
  ·exact pu h
  ·exact pu h
  ·simp at h
 ·split at h
  ·split at h
   ·exact nn h
   ·exact nn h
   ·simp at h
  ·exact pu h
 ·exact pu h
 ·exact pu h
 ·simp at h
theorem AT {P:Program} {n:Nat} {all:List Oper} {o:Oper} {T:Env} {h h':aJ} {v:V} {rd wr:List Nat} {call:Bool} (st:dM P n all o T h v h' rd wr call) {id:Nat} (hw:id∈rd):id < h.length:=by
 cases st with
 | skip=>simp at hw
 | op hg hop=>exact ig (Rq hop id hw)
 | jn _ _ _=>simp at hw
 | gf _ _ _ _ _ _=>simp at hw
 | call _ _ _ _ _ _ hl=>simp at hw
structure qu (n:Nat) (Z:Nat→Prop) (μ:Mu) (F:View) (T:Env) (h:aJ) (a:Act) (w:World):Prop where
 defers:a.defers=[]
 size:a.tmps.size=n
 tm:∀ t,aF Z μ w.heap (T t) (a.tmps.getD t undef)
 hr:gY Z μ w.heap (cat h F)
def c4 (P:Program) (n:Nat) (c:Code) (T:Env) (h:aJ) (e:Exit) (T':Env) (h':aJ):Prop :=
 h.length≤h'.length∧∀ Z μ F a w,(∀ id,h.length≤id→id < h'.length→μ id=none)→qu n Z μ F T h a w →
  c.wp P (fun e' a' w'=>e'=e∧∃ Z' μ',qu n Z' μ' F T' h' a' w'∧Ext Z μ w h.length Z' μ' w'∧(∀ id,id < h.length∨h'.length≤id→μ' id=μ id)) a w
section
variable {P:Program} {n:Nat} {all:List Oper}
theorem Ig {Z:Nat→Prop} {μ:Mu} {w:World} {T:Env} {a:Act} {o:Oper} (h:∀ t,t∈tmpsOf o→aF Z μ w.heap (T t) (a.tmps.getD t undef)):∀ x∈o.op.operands,aF Z μ w.heap (ev T x) (a.eval x):=by
 intro x hx
 cases x with
 | tmp t=>exact h t (by simp only[tmpsOf,Vd]; exact ⟨.tmp t,by simpa using hx,rfl⟩)
 | const v=>exact gE v
 | global g=>exact .any _
 | func f=>exact .fn f [] [] #[] #[] rfl rfl (fun i hi=>by simp at hi) (fun i hi=>by simp at hi)
theorem IM {hs:Nat→aJ} {N:Nat} (h:∀ i,i < N→(hs i).length≤(hs (i+1)).length):∀ i j,i≤j→j≤N→(hs i).length≤(hs j).length:=by
 intro i j hij
 induction hij with
 | refl=>intro _; exact Ug _
 | step _ ih=>intro hj; exact U0 (ih (by omega)) (h _ (by omega))
theorem zA {Ts:Nat→Env} {vs:Nat→V} {N t:Nat} (hT:∀ i o,all[i]?=some o→Ts (i+1)=(Ts i).put o.dst (vs i)) (hN:N=all.length):∀ i j,i≤j→j≤N→(∀ k o,i≤k→k < j→all[k]?=some o→o.dst≠some t)→Ts j t=Ts i t:=by
 intro i j hij
 induction hij with
 | refl=>intro _ _; rfl
 | step hle ih =>
  rename_i m
  intro hj hno
  have hm:m < all.length:=by omega
  rw[hT m all[m] (T4 hm)]
  have hd:=hno m all[m] hle (by omega) (T4 hm)
  have:(Env.put (Ts m) (all[m]).dst (vs m)) t=Ts m t:=by
   cases hdd:(all[m]).dst with
   | none=>rfl
   | some d =>
    simp only[Env.put]
    rw[T6 (fun e=>hd (by rw[hdd,e]))]
  rw[this]
  exact ih (by omega) (fun k o h1 h2 h3=>hno k o h1 (by omega) h3)
def AG (P:Program) (n:Nat) (all:List Oper) (recs:List Rec) (Ts:Nat→Env) (hs:Nat→aJ) (vs:Nat→V):Prop:=∀ i o r,all[i]?=some o→recs[i]?=some r →
 dM P n all o (Ts i) (hs i) (vs i) (hs (i+1)) r.rd r.wr r.call∧rE n o=true∧Ts (i+1)=(Ts i).put o.dst (vs i)∧r.lo=(hs i).length∧r.hi=(hs (i+1)).length
structure Bears (P:Program) (n:Nat) (all:List Oper) (Ts:Nat→Env) (hs:Nat→aJ) (vs:Nat→V) (i k:Nat) (o:Oper) (a b:Rec):Prop where
 wr:a.wr=[]
 call:a.call=false
 len:a.lo=a.hi
 step:∀ g:aJ,g.length=(hs i).length→(∀ id,id < (hs i).length→g.view id=if id∈b.wr then (hs (k+1)).view id else (hs i).view id)→dM P n all o (Ts i) g (vs i) g a.rd [] false
def Kh (P:Program) (n:Nat) (all:List Oper) (recs:List Rec) (T T':Env) (h:aJ):Prop:=∀ Ts hs vs,Ts 0=T→hs 0=h→Ts all.length=T'→recs.length=all.length→AG P n all recs Ts hs vs→∀ i,∃ tol:Option Nat,
 (∀ k a b,i < k→recs[i]?=some a→recs[k]?=some b→ordered (fw all []) i k=false→tol≠some k→oo a b) ∧
 ∀ k a b o,tol=some k→recs[i]?=some a→recs[k]?=some b→all[i]?=some o→i < k∧Bears P n all Ts hs vs i k o a b
theorem ur.SE {recs:List Rec} {T T':Env} {hp:aJ} (h:ur all recs):Kh P n all recs T T' hp:=fun _ _ _ _ _ _ _ _ i=>⟨none,fun k a b h1 h2 h3 h4 _=>h i k a b h1 h2 h3 h4,fun k a b o h1=>by simp at h1⟩
theorem vQ (hm:P.follows .mixedOrders=true) {id:Nat} {T T':Env} {h h':aJ} {recs:List Rec} (tr:Tr P n all all T h recs T' h') (ht:lS all=true) (hcT:Kh P n all recs T T' h) :
  c4 P n (.region id all.toArray true) T h .normal T' h':=by
 obtain ⟨hrl,Ts,hs,vs,eT0,eh0,eTN,ehN,hstep⟩:=Ei all T h recs T' h' tr
 obtain ⟨hedge,htmps⟩:=Iu ht
 have hc:=hcT Ts hs vs eT0 eh0 eTN hrl hstep
 have hget:∀ i,i < all.length→∃ o r,all[i]?=some o∧recs[i]?=some r:=fun i hi=>⟨all[i],recs[i]'(by omega),T4 hi,T4 (by omega)⟩
 have hlt:∀ i o,all[i]?=some o→i < all.length:=fun i o hi=>kZ hi
 have hT:∀ i o,all[i]?=some o→Ts (i+1)=(Ts i).put o.dst (vs i):=fun i o hi=>by
  obtain ⟨o',r,h1,h2⟩:=hget i (hlt i o hi)
  rw[hi] at h1; simp at h1; subst h1
  exact (hstep i o r hi h2).2.2.1
 have hlen1:∀ i,i < all.length→(hs i).length≤(hs (i+1)).length:=fun i hi=>by
  obtain ⟨o,r,h1,h2⟩:=hget i hi
  exact tJ (hstep i o r h1 h2).1
 have hmono:=IM hlen1
 have hle:h.length≤h'.length:=by rw[← eh0,← ehN]; exact hmono _ _ (Vu _) (Ug _)
 have hsame:∀ i j id,i≤j→j≤all.length→id < (hs i).length→(∀ k r,i≤k→k < j→recs[k]?=some r→¬ id∈r.wr)→(hs j).view id=(hs i).view id:=by
  intro i j id hij
  induction hij with
  | refl=>intro _ _ _; rfl
  | step hle ih =>
   rename_i m
   intro hj hid hno
   obtain ⟨o,r,h1,h2⟩:=hget m (by omega)
   rw[rB (hstep m o r h1 h2).1 (UD hid (hmono _ _ hle (by omega))) (hno m r hle (by omega) h2)]
   exact ih (by omega) hid (fun k r h1 h2 h3=>hno k r h1 (by omega) h3)
 refine ⟨hle,fun Z μ F a w hfree hsim=>wp_region_any hm ?_⟩
 let Inv (listed:Array Bool) (a':Act) (w':World):Prop:=∃ Z' μ' H,a'.defers=[]∧a'.tmps.size=n ∧
  (∀ t,∃ τ,τ≤all.length∧aF Z' μ' w'.heap (Ts τ t) (a'.tmps.getD t undef)∧∀ k o,all[k]?=some o→o.dst=some t→(listed.getD k false=true↔k < τ)) ∧
  gY Z' μ' w'.heap H ∧
  (∀ id,μ' id≠none→(∃ τ,τ≤all.length∧id < (hs τ).length∧H id=(hs τ).view id∧∀ k r,recs[k]?=some r→id∈r.wr→(listed.getD k false=true↔k < τ))∨(h'.length≤id∧H id=F id)) ∧
  (∀ k id,k < all.length→(hs k).length≤id→id < (hs (k+1)).length→μ' id≠none→listed.getD k false=true) ∧
  (∀ k o,all[k]?=some o→listed.getD k false=true→∀ e∈o.after.toList,Region.binds .any e=true→listed.getD e.on false=true) ∧
  Ext Z μ w h.length Z' μ' w'∧(∀ id,id < h.length∨h'.length≤id→μ' id=μ id)∧listed.size=all.length
 have key:∀ fuel listed a' w',Inv listed a' w'→((List.range all.length).countP fun i=>!listed.getD i false)≤fuel →
   wpAny P .any all.toArray (fun e' a' w'=>e'=.normal∧∃ Z' μ',qu n Z' μ' F T' h' a' w'∧Ext Z μ w h.length Z' μ' w'∧(∀ id,id < h.length∨h'.length≤id→μ' id=μ id)) fuel listed a' w':=by
  have ready_iff:∀ (listed:Array Bool),listed.size=all.length→∀ i,i∈Region.ready .any all.toArray listed↔(∃ o,all[i]?=some o∧listed.getD i false=false∧∀ e∈o.after.toList,Region.binds .any e=true→listed.getD e.on false=true):=by
   intro listed hsz i
   simp only[Region.ready,Vt,UQ,UR,U2,Uh,V6]
   constructor
   ·rintro ⟨hi,h1,h2⟩
    rw[T4 hi] at h2
    simp only[Ue,Un] at h2
    refine ⟨all[i],T4 hi,?_,fun e he hb=>?_⟩
    ·have:i < listed.size:=by omega
     simp only[Ui,Up this,Un] at h1 ⊢
     exact h1
    ·have:=Array.all_eq_true_iff_forall_mem.1 h2 e (by simpa using he)
     simpa [hb] using this
   ·rintro ⟨o,ho,h1,h2⟩
    have hi:=hlt i o ho
    refine ⟨hi,?_,?_⟩
    ·have:i < listed.size:=by omega
     simp only[Ui,Up this,Un] at h1 ⊢
     exact h1
    ·rw[ho]
     simp only[Ue,Un]
     rw[Array.all_eq_true_iff_forall_mem]
     intro e he
     cases hb:Region.binds .any e with
     | false=>rfl
     | true=>simpa using h2 e (by simpa using he) hb
  have alldone:∀ (listed:Array Bool),listed.size=all.length→Region.ready .any all.toArray listed=[]→∀ i,i < all.length→listed.getD i false=true:=by
   intro listed hsz hnil i
   induction i using Nat.strongRecOn with
   | _ i ih =>
    intro hi
    cases hl:listed.getD i false with
    | true=>rfl
    | false =>
     exfalso
     have:i∈Region.ready .any all.toArray listed:=(ready_iff listed hsz i).2 ⟨all[i],T4 hi,hl,fun e he hb=>ih e.on (hedge i all[i] (T4 hi) e he hb) (by have:=hedge i all[i] (T4 hi) e he hb; omega)⟩
     rw[hnil] at this; simp at this
  have finish:∀ listed a' w',Inv listed a' w'→(∀ i,i < all.length→listed.getD i false=true) →
    ∃ Z' μ',qu n Z' μ' F T' h' a' w'∧Ext Z μ w h.length Z' μ' w'∧(∀ id,id < h.length∨h'.length≤id→μ' id=μ id):=by
   rintro listed a' w' ⟨Z',μ',H,hd,hsz,htm,hr,hob,hdom,hcl,hex,hfix,hls⟩ hall
   refine ⟨Z',μ',⟨hd,hsz,fun t=>?_,hr.congr fun id hid=>?_⟩,hex,hfix⟩
   ·obtain ⟨τ,hτ,hv,hw⟩:=htm t
    have:=zA (t:=t) hT rfl τ all.length hτ (Ug _) (fun k o h1 h2 h3 h4=>by
     have:=(hw k o h3 h4).1 (hall k h2); omega)
    rw[← eTN,this]; exact hv
   ·unfold cat
    rcases hob id hid with ⟨τ,hτ,hl,hH,hw⟩ | ⟨hl,hH⟩
    ·have:=hsame τ all.length id hτ (Ug _) hl (fun k r h1 h2 h3 h4=>by
      have:=(hw k r h3 h4).1 (hall k h2); omega)
     have hl2:id < h'.length:=by rw[← ehN]; exact UD hl (hmono _ _ hτ (Ug _))
     rw[T9 hl2,hH,← this,ehN]
    ·rw[T6 (by omega),hH]
  intro fuel
  induction fuel with
  | zero =>
   intro listed a' w' hinv hcnt
   have hls:listed.size=all.length:=by obtain ⟨_,_,_,_,_,_,_,_,_,_,_,_,hls⟩:=hinv; exact hls
   have hall:∀ i,i < all.length→listed.getD i false=true:=by
    intro i hi
    have h0:(List.range all.length).countP (fun i=>!listed.getD i false)=0:=by omega
    rw[List.countP_eq_zero] at h0
    have:=h0 i (by simpa using hi)
    simpa using this
   refine ⟨?_,rfl,finish listed a' w' hinv hall⟩
   apply List.eq_nil_iff_forall_not_mem.2
   intro i hi
   obtain ⟨o,ho,h1,_⟩:=(ready_iff listed hls i).1 hi
   rw[hall i (hlt i o ho)] at h1; simp at h1
  | succ fuel ih =>
   intro listed a' w' hinv hcnt
   have hls:listed.size=all.length:=by obtain ⟨_,_,_,_,_,_,_,_,_,_,_,_,hls⟩:=hinv; exact hls
   refine ⟨fun hnil=>⟨rfl,finish listed a' w' hinv (alldone listed hls hnil)⟩,fun i hi=>?_⟩
   obtain ⟨o,ho,hil,hdeps⟩:=(ready_iff listed hls i).1 hi
   have hilt:=hlt i o ho
   obtain ⟨_,r,_,hrec⟩:=hget i hilt
   obtain ⟨hst,hdst,_,hlo,hhi⟩:=hstep i o r ho hrec
   obtain ⟨Z',μ',H,hd,hsz,htm,hr,hob,hdom,hcl,hex,hfix,_⟩:=hinv
   have notL:¬ (listed.getD i false=true):=by rw[hil]; simp
   have before:∀ j,ordered (fw all []) j i=true→listed.getD j false=true:=fun j hj=>HR hedge hcl ho hdeps hj
   have behind:∀ k ok,all[k]?=some ok→ordered (fw all []) i k=true→listed.getD k false=true→False:=fun k ok hk hord hL=>notL (xe (L:=fun k=>listed.getD k false=true) hedge hcl k ok i hk hL hord)
   have slot:∀ t,t∈nE all o→aF Z' μ' w'.heap (Ts i t) (a'.tmps.getD t undef):=by
    intro t htu
    obtain ⟨τ,hτ,hv,hw⟩:=htm t
    rcases Nat.le_total τ i with hti | hti
    ·have:=zA (t:=t) hT rfl τ i hti (by omega) (fun k ok h1 h2 h3 h4=>by
      have hkl:=(hw k ok h3 h4).1
      cases hord:ordered (fw all []) k i with
      | true=>have:=hkl (before k hord); omega
      | false=>exact (htmps k i ok o h2 h3 ho hord).1 t h4 htu)
     rw[this]; exact hv
    ·have:=zA (t:=t) hT rfl i τ hti hτ (fun k ok h1 h2 h3 h4=>by
      have hkl:=(hw k ok h3 h4).2 h2
      rcases Nat.eq_or_lt_of_le h1 with h5 | h5
      ·subst h5; exact notL hkl
      ·cases hord:ordered (fw all []) i k with
       | true=>exact behind k ok h3 hord hkl
       | false=>exact (htmps i k o ok h5 ho h3 hord).2 t h4 htu)
     rw[← this]; exact hv
   obtain ⟨tol,hnc,hbr⟩:=hc i
   have objs:∀ id,id < (hs i).length→μ' id≠none→(∀ k rk,recs[k]?=some rk→k≠i→id∈rk.wr→(listed.getD k false=true↔k < i))→H id=(hs i).view id:=by
    intro id hid hm hk
    rcases hob id hm with ⟨τ,hτ,hl,hH,hw⟩ | ⟨hl,_⟩
    ·rw[hH]
     rcases Nat.le_total τ i with hti | hti
     ·exact (hsame τ i id hti (by omega) hl (fun k rk h1 h2 h3 h4=>by
       have:=(hw k rk h3 h4).1 ((hk k rk h3 (by omega) h4).2 h2); omega)).symm
     ·exact hsame i τ id hti hτ hid (fun k rk h1 h2 h3 h4=>by
       have hkl:=(hw k rk h3 h4).2 h2
       rcases Nat.eq_or_lt_of_le h1 with h5 | h5
       ·subst h5; exact notL hkl
       ·have:=(hk k rk h3 (by omega) h4).1 hkl; omega)
    ·have:(hs i).length≤h'.length:=by rw[← ehN]; exact hmono _ _ (by omega) (Ug _)
     omega
   have place:∀ id,(id∈r.rd∨id∈r.wr∨r.call=true)→∀ k rk,recs[k]?=some rk→k≠i→id∈rk.wr→(tol=some k→listed.getD k false=false)→(listed.getD k false=true↔k < i):=by
    intro id hid k rk hk hne hw htol
    have hwr:id∈r.wr→r.call=false→id∈r.rd:=fun h1 h2=>(wk hst h1).2 h2
    have hcase:id∈r.rd∨r.call=true:=by
     rcases hid with h1 | h1 | h1
     ·exact .inl h1
     ·cases hcl':r.call with
      | true=>exact .inr rfl
      | false=>exact .inl (hwr h1 hcl')
     ·exact .inr h1
    have hne':rk.wr≠[]:=fun e=>by rw[e] at hw; simp at hw
    obtain ⟨ok,_,hok,_⟩:=hget k (by have:=kZ hk; omega)
    rcases Nat.lt_or_gt_of_ne hne with hlt' | hlt'
    ·refine ⟨fun _=>hlt',fun _=>?_⟩
     cases hord:ordered (fw all []) k i with
     | true=>exact before k hord
     | false =>
      obtain ⟨tk,hnk,hbk⟩:=hc k
      by_cases etk:tk=some i
      ·exact absurd (hbk i rk r ok etk hk hrec hok).2.wr hne'
      ·have nc:=hnk i rk r hlt' hk hrec hord etk
       rcases hcase with h1 | h1
       ·exact absurd h1 (nc.SD id hw)
       ·exact absurd (nc.call2 h1) hne'
    ·refine ⟨fun hL=>?_,fun h6=>by omega⟩
     exfalso
     cases hord:ordered (fw all []) i k with
     | true=>exact behind k ok hok hord hL
     | false =>
      by_cases et:tol=some k
      ·rw[htol et] at hL; simp at hL
      ·have nc:=hnc k r rk hlt' hrec hk hord et
       rcases hcase with h1 | h1
       ·exact absurd h1 (nc.RH id hw)
       ·exact absurd (nc.Se h1) hne'
   have closing:∀ x w1 Z1 μ1,aF Z1 μ1 w1.heap (vs i) x→gY Z1 μ1 w1.heap (jc H (hs i) (hs (i+1)) r.wr)→Ext Z' μ' w' (hs i).length Z1 μ1 w1→(∀ id,id < (hs i).length∨(hs (i+1)).length≤id→μ1 id=μ' id) →
     wpAny P .any all.toArray (fun e' a' w'=>e'=.normal∧∃ Z' μ',qu n Z' μ' F T' h' a' w'∧Ext Z μ w h.length Z' μ' w'∧(∀ id,id < h.length∨h'.length≤id→μ' id=μ id)) fuel (listed.setIfInBounds i true) (a'.put o.dst x) w1:=by
    intro x w1 Z1 μ1 hv1 hr1 hex1 hfix1
    have hL':∀ k,(listed.setIfInBounds i true).getD k false=if k=i then true else listed.getD k false:=by
     intro k
     simp only[Ui,U5]
     by_cases e:i=k
     ·subst e; rw[T9 rfl,T9 rfl,T9 (by omega)]; rfl
     ·rw[T6 e,T6 (fun q=>e q.symm)]
    have hls':(listed.setIfInBounds i true).size=all.length:=by simpa using hls
    refine ih _ _ _ ⟨Z1,μ1,jc H (hs i) (hs (i+1)) r.wr,?_,?_,?_,hr1,?_,?_,?_,?_,?_,hls'⟩ ?_
    ·unfold Act.put; split <;> exact hd
    ·unfold Act.put; split <;> simp[hsz]
    ·intro t
     by_cases hdt:o.dst=some t
     ·refine ⟨i+1,hilt,?_,fun k ok hk hkd=>?_⟩
      ·rw[hT i o ho,hdt]
       have hlt2:t < a'.tmps.size:=by unfold rE at hdst; rw[hdt] at hdst; rw[hsz]; simpa using hdst
       simp only[Env.put,Act.put,if_true,Ui,U5,hlt2,Un]
       exact hv1
      ·rw[hL']
       by_cases e:k=i
       ·subst e; simp
       ·rw[T6 e]
        have htu:t∈nE all o:=by simp[nE,hdt]
        rcases Nat.lt_or_gt_of_ne e with h5 | h5
        ·cases hord:ordered (fw all []) k i with
         | true=>exact ⟨fun _=>by omega,fun _=>before k hord⟩
         | false=>exact absurd htu ((htmps k i ok o h5 hk ho hord).1 t hkd)
        ·cases hord:ordered (fw all []) i k with
         | true=>exact ⟨fun hL=>(behind k ok hk hord hL).elim,fun h6=>by omega⟩
         | false=>exact absurd htu ((htmps i k o ok h5 ho hk hord).2 t hkd)
     ·obtain ⟨τ,hτ,hv,hw⟩:=htm t
      refine ⟨τ,hτ,?_,fun k ok hk hkd=>?_⟩
      ·have:(a'.put o.dst x).tmps.getD t undef=a'.tmps.getD t undef:=by
        unfold Act.put
        split
        ·rename_i d hdd
         simp only[Ui,U5]
         rw[T6 (fun e=>hdt (by rw[hdd,e]))]
        ·rfl
       rw[this]; exact hv.mono hex1.mono
      ·rw[hL',T6 (fun e=>by subst e; rw[ho] at hk; simp at hk; subst hk; exact hdt hkd)]
       exact hw k ok hk hkd
    ·intro id hm1
     unfold jc
     by_cases hwn:id∈r.wr∨((hs i).length≤id∧id < (hs (i+1)).length)
     ·left
      have hidl:id < (hs (i+1)).length:=by
       rcases hwn with h5 | h5
       ·exact UD (wk hst h5).1 (hlen1 i hilt)
       ·exact h5.2
      refine ⟨i+1,hilt,hidl,by rw[T9 hwn],fun k rk hk hkw=>?_⟩
      rw[hL']
      by_cases e:k=i
      ·subst e; simp
      ·rw[T6 e]
       obtain ⟨ok,_,hok,_⟩:=hget k (by have:=kZ hk; omega)
       rcases hwn with h5 | h5
       ·have hp:=place id (.inr (.inl h5)) k rk hk e hkw (fun et=>by
         have:=(hbr k r rk o et hrec hk ho).2.wr
         rw[this] at h5; simp at h5)
        exact ⟨fun hL=>by have:=hp.1 hL; omega,fun h7=>hp.2 (by omega)⟩
       ·obtain ⟨hst',_⟩:=hstep k ok rk hok hk
        have hkl:=(wk hst' hkw).1
        have hik:i < k:=by
         rcases Uv i k with h6 | h6
         ·exact h6
         ·have:=hmono k i h6 (by omega); omega
        refine ⟨fun hL=>?_,fun h7=>by omega⟩
        exfalso
        cases hord:ordered (fw all []) i k with
        | true=>exact behind k ok hok hord hL
        | false =>
         by_cases et:tol=some k
         ·have:=(hbr k r rk o et hrec hk ho).2.len
          omega
         ·exact (hnc k r rk hik hrec hk hord et).new id hkw (by rw[hlo,hhi]; exact h5)
     ·rw[T6 hwn]
      have hmm:μ' id≠none:=by
       rw[← hfix1 id ?_]
       ·exact hm1
       ·rcases Uv id (hs i).length with h6 | h6
        ·exact .inl h6
        ·right
         rcases Uv id (hs (i+1)).length with h7 | h7
         ·exact absurd (.inr ⟨h6,h7⟩) hwn
         ·exact h7
      rcases hob id hmm with ⟨τ,hτ,hl,hH,hw⟩ | h5
      ·refine .inl ⟨τ,hτ,hl,hH,fun k rk hk hkw=>?_⟩
       rw[hL',T6 (fun e=>by subst e; rw[hrec] at hk; simp at hk; subst hk; exact hwn (.inl hkw))]
       exact hw k rk hk hkw
      ·exact .inr h5
    ·intro k id hk h1 h2 hm1
     rw[hL']
     by_cases e:k=i
     ·rw[T9 e]
     ·rw[T6 e]
      refine hdom k id hk h1 h2 ?_
      rw[← hfix1 id ?_]
      ·exact hm1
      ·rcases Nat.lt_or_gt_of_ne e with h6 | h6
       ·left; exact UD h2 (hmono _ _ h6 (by omega))
       ·right; exact U0 (hmono _ _ h6 (by omega)) h1
    ·intro k ok hk hL e he hb
     rw[hL'] at hL ⊢
     by_cases ek:k=i
     ·subst ek
      rw[ho] at hk; simp at hk; subst hk
      split
      ·rfl
      ·exact hdeps e he hb
     ·rw[T6 ek] at hL
      split
      ·rfl
      ·exact hcl k ok hk hL e he hb
    ·refine hex.trans hex1 ?_ hsim.hr.lt
     rw[← eh0]; exact hmono _ _ (Vu _) (by omega)
    ·intro id hid
     rw[hfix1 id,hfix id hid]
     rcases hid with h5 | h5
     ·left; rw[← eh0] at h5; exact UD h5 (hmono _ _ (Vu _) (by omega))
     ·right; rw[← ehN] at h5; exact U0 (hmono _ _ hilt (Ug _)) h5
    ·have:(List.range all.length).countP (fun k=>!(listed.setIfInBounds i true).getD k false) < (List.range all.length).countP (fun k=>!listed.getD k false):=by
      have gen:∀ (l:List Nat),i∈l→l.Nodup→l.countP (fun k=>!(listed.setIfInBounds i true).getD k false) < l.countP (fun k=>!listed.getD k false):=by
       intro l
       induction l with
       | nil=>intro h; simp at h
       | cons x l ihl =>
        intro hmem hnd
        simp only[U1] at hnd
        by_cases e:x=i
        ·subst e
         have hrest:l.countP (fun k=>!(listed.setIfInBounds x true).getD k false)=l.countP (fun k=>!listed.getD k false):=by
          apply List.countP_congr
          intro k hk
          have hkx:k≠x:=fun q=>hnd.1 (by rw[← q]; exact hk)
          rw[hL',T6 hkx]
         have h1:(listed.setIfInBounds x true).getD x false=true:=by rw[hL',T9 rfl]
         rw[List.countP_cons,List.countP_cons,hrest,h1,hil]
         simp
        ·have hmem':i∈l:=by
          rcases Uk.1 hmem with h5 | h5
          ·exact absurd h5.symm e
          ·exact h5
         have:=ihl hmem' hnd.2
         simp only[List.countP_cons,hL',T6 e]
         simp only[hL'] at this
         omega
      exact gen _ (by simpa using hilt) List.nodup_range
     omega
   have hguard:∀ j want d,o.guard=some (j,want)→(all[j]?).bind (·.dst)=some d→aF Z' μ' w'.heap (Ts i d) (a'.tmps.getD d undef):=fun j want d hg hdd=>slot d (by
    simp only[nE,Uy]; right; rw[hg]; simp[hdd])
   have hopd:=Ig (o:=o) fun t htt=>slot t (by
    simp only[nE,Uy]; left; right; exact htt)
   by_cases htl:∃ k0,tol=some k0∧listed.getD k0 false=true
   ·obtain ⟨k0,ht0,hl0⟩:=htl
    have hk0:k0 < all.length:=by
     rcases Uv k0 all.length with h5 | h5
     ·exact h5
     ·simp[Ui,Vr (show listed.size≤k0 by omega)] at hl0
    obtain ⟨_,b,_,hb⟩:=hget k0 hk0
    obtain ⟨hik0,hB⟩:=hbr k0 r b o ht0 hrec hb ho
    let g:aJ:=(List.range (hs i).length).map fun id=>if id∈b.wr then (hs (k0+1)).view id else (hs i).view id
    have hgv:∀ id,id < (hs i).length→aJ.view g id=if id∈b.wr then (hs (k0+1)).view id else (hs i).view id:=by
     intro id hid
     simp only[g,aJ.view,T0,T8,List.getElem?_range hid,Ue,Un]
    have hlen:(hs (i+1)).length=(hs i).length:=by rw[← hhi,← hlo,hB.len]
    have hgl':List.length g=(hs i).length:=by simp only[g,Uc,List.length_range]
    have hst':=hB.step g hgl' hgv
    have hHe:jc H g g []=jc H (hs i) (hs (i+1)) r.wr:=by
     funext id
     unfold jc
     rw[T6 (by
            rintro (h1 | h1); · simp at h1
            ·omega),T6 (by
              rw[hB.wr]; rintro (h1 | h1); · simp at h1
              ·omega)]
    refine ym rfl (by simpa using ho) hst' hsz hguard hopd hr (fun id hid hm=>?_) (fun h1=>by simp at h1) (fun id h1 h2=>by omega) (fun x w1 Z1 μ1 hv1 hr1 hex1 hfix1=>closing x w1 Z1 μ1 hv1 (by rw[← hHe]; exact hr1) (by rw[← hgl']; exact hex1) (fun id hid=>hfix1 id (by
     rw[hgl']; omega)))
    have hidl:=AT hst hid
    rw[hgv id hidl]
    by_cases hbw:id∈b.wr
    ·rw[T9 hbw]
     rcases hob id hm with ⟨τ,hτ,hl,hH,hw⟩ | ⟨hl,_⟩
     ·have hkt:=(hw k0 b hb hbw).1 hl0
      rw[hH]
      refine hsame (k0+1) τ id hkt hτ (UD hidl (hmono _ _ (by omega) (by omega))) (fun k rk h1 h2 h3 h4=>?_)
      have hL:=(hw k rk h3 h4).2 h2
      have:=(place id (.inl hid) k rk h3 (by omega) h4 (fun e=>by rw[ht0] at e; simp at e; omega)).1 hL
      omega
     ·have:(hs i).length≤h'.length:=by rw[← ehN]; exact hmono _ _ (by omega) (Ug _)
      omega
    ·rw[T6 hbw]
     refine objs id hidl hm fun k rk hk hne hkw=>place id (.inl hid) k rk hk hne hkw fun e=>?_
     rw[ht0] at e; simp at e; subst e
     rw[hb] at hk; simp at hk; subst hk
     exact absurd hkw hbw
   ·have hno:∀ k,tol=some k→listed.getD k false=false:=fun k e=>by
     cases hl:listed.getD k false with
     | false=>rfl
     | true=>exact absurd ⟨k,e,hl⟩ htl
    refine ym rfl (by simpa using ho) hst hsz hguard hopd hr (fun id hid hm=>objs id (AT hst hid) hm fun k rk hk hne hkw=>place id (.inl hid) k rk hk hne hkw (hno k))
     (fun hcall id hid hm=>objs id hid hm fun k rk hk hne hkw=>place id (.inr (.inr hcall)) k rk hk hne hkw (hno k)) (fun id h1 h2=>?_) closing
    apply Vs
    intro hmm
    exact notL (hdom i id hilt h1 h2 hmm)
 have hinit:Inv (Array.replicate all.length false) a { w with drawn:=w.drawn+1 }:=by
  refine ⟨Z,μ,cat h F,hsim.defers,hsim.size,fun t=>⟨0,Vu _,by rw[eT0]; exact hsim.tm t,fun k o hk hkd=>?_⟩,hsim.hr,fun id hm'=>?_,fun k id hk h1 h2 hm'=>?_,fun k o hk hL=>?_,?_,fun _ _=>rfl,by simp⟩
  ·have:(Array.replicate all.length false).getD k false=false:=by
    simp only[Ui,Array.getElem?_replicate]; split <;> rfl
   rw[this]; simp
  ·unfold cat
   by_cases hl:id < h.length
   ·left
    refine ⟨0,Vu _,by rw[eh0]; exact hl,by rw[T9 hl,eh0],fun k r hk hkw=>?_⟩
    have:(Array.replicate all.length false).getD k false=false:=by
     simp only[Ui,Array.getElem?_replicate]; split <;> rfl
    rw[this]; simp
   ·rw[T6 hl]
    rcases Uv id h'.length with h5 | h5
    ·exact absurd (hfree id (by omega) h5) hm'
    ·exact .inr ⟨h5,rfl⟩
  ·exfalso
   refine hm' (hfree id ?_ ?_)
   ·rw[← eh0]; exact U0 (hmono _ _ (Vu _) (by omega)) h1
   ·rw[← ehN]; exact UD h2 (hmono _ _ hk (Ug _))
  ·have:(Array.replicate all.length false).getD k false=false:=by
    simp only[Ui,Array.getElem?_replicate]; split <;> rfl
   rw[this] at hL; simp at hL
  ·exact ⟨⟨rfl,rfl,rfl,Ug _⟩,gR.refl _ _ _,fun _ _ _=>rfl,fun _ h=>.inl h,fun _ _ _ _ h=>.inl h⟩
 have:=key all.length _ _ _ hinit (by
  have:=List.countP_le_length (p:=fun i=>!(Array.replicate all.length false).getD i false) (l:=List.range all.length)
  simpa using this)
 simpa using this
theorem xP (hm:P.follows .mixedOrders=true) {id:Nat} {T T':Env} {h h':aJ} {recs:List Rec} (tr:Tr P n all all T h recs T' h') (ht:lS all=true) (hc:ur all recs) :
 c4 P n (.region id all.toArray true) T h .normal T' h':=vQ hm tr ht hc.SE
end
section
variable {P:Program} {n:Nat}
theorem qu.eval {Z:Nat→Prop} {μ:Mu} {F:View} {T:Env} {h:aJ} {a:Act} {w:World} (s:qu n Z μ F T h a w) (x:Operand):aF Z μ w.heap (ev T x) (a.eval x):=by
 cases x with
 | tmp t=>exact s.tm t
 | const v=>exact gE v
 | global g=>exact .any _
 | func f=>exact .fn f [] [] #[] #[] rfl rfl (fun i hi=>by simp at hi) (fun i hi=>by simp at hi)
theorem FK {all:List Oper} {id:Nat} {T T':Env} {h h':aJ} {recs:List Rec} (tr:Tr P n all all T h recs T' h'):c4 P n (.region id all.toArray false) T h .normal T' h':=by
 obtain ⟨hrl,Ts,hs,vs,eT0,eh0,eTN,ehN,hstep⟩:=Ei all T h recs T' h' tr
 have hget:∀ i,i < all.length→∃ o r,all[i]?=some o∧recs[i]?=some r:=fun i hi=>⟨all[i],recs[i]'(by omega),T4 hi,T4 (by omega)⟩
 have hlen1:∀ i,i < all.length→(hs i).length≤(hs (i+1)).length:=fun i hi=>by
  obtain ⟨o,r,h1,h2⟩:=hget i hi
  exact tJ (hstep i o r h1 h2).1
 have hmono:=IM hlen1
 refine ⟨by rw[← eh0,← ehN]; exact hmono _ _ (Vu _) (Ug _),fun Z μ F a w hfree hsim=>wp_region ?_⟩
 have key:∀ k i,i+k=all.length→∀ Z' μ' a' w',qu n Z' μ' F (Ts i) (hs i) a' w'→Ext Z μ w h.length Z' μ' w'→(∀ id,id < h.length∨h'.length≤id→μ' id=μ id)→(∀ id,(hs i).length≤id→id < h'.length→μ' id=none) →
   wpOps P all.toArray (fun e' a' w'=>e'=.normal∧∃ Z' μ',qu n Z' μ' F T' h' a' w'∧Ext Z μ w h.length Z' μ' w'∧(∀ id,id < h.length∨h'.length≤id→μ' id=μ id)) (List.range' i k) a' w':=by
  intro k
  induction k with
  | zero =>
   intro i hi Z' μ' a' w' hs' hex hfix _
   obtain rfl:i=all.length:=by omega
   simp only[List.range'_zero,wpOps]
   rw[eTN,ehN] at hs'
   exact ⟨trivial,Z',μ',hs',hex,hfix⟩
  | succ k ih =>
   intro i hi Z' μ' a' w' hs' hex hfix hfr
   obtain ⟨o,r,ho,hr⟩:=hget i (by omega)
   obtain ⟨hst,hdst,hT,hlo,hhi⟩:=hstep i o r ho hr
   have hl1:=hlen1 i (by omega)
   have hl2:(hs (i+1)).length≤h'.length:=by rw[← ehN]; exact hmono _ _ (by omega) (Ug _)
   have hl0:h.length≤(hs i).length:=by rw[← eh0]; exact hmono _ _ (Vu _) (by omega)
   rw[List.range'_succ,wpOps_cons]
   refine ym rfl (by simpa using ho) hst hs'.size (fun j want d _ _=>hs'.tm d) (fun x _=>hs'.eval x) hs'.hr (fun id hid _=>?_) (fun _ id hid _=>?_) (fun id h1 h2=>hfr id h1 (by omega)) ?_
   ·unfold cat; rw[T9 (AT hst hid)]
   ·unfold cat; rw[T9 hid]
   ·intro x w1 Z1 μ1 hv1 hr1 hex1 hfix1
    refine ih (i+1) (by omega) Z1 μ1 _ w1 ⟨?_,?_,fun t=>?_,hr1.congr fun id _=>?_⟩ (hex.trans hex1 hl0 hsim.hr.lt) (fun id hid=>?_) (fun id h1 h2=>?_)
    ·unfold Act.put; split <;> exact hs'.defers
    ·unfold Act.put; split <;> simp[hs'.size]
    ·rw[hT]
     cases hdd:o.dst with
     | none =>
      simp only[Env.put,Act.put]
      exact (hs'.tm t).mono hex1.mono
     | some d =>
      have hlt2:d < a'.tmps.size:=by unfold rE at hdst; rw[hdd] at hdst; rw[hs'.size]; simpa using hdst
      simp only[Env.put,Act.put,Ui,U5]
      by_cases e:t=d
      ·subst e; rw[T9 rfl,T9 rfl,T9 hlt2]; exact hv1
      ·rw[T6 e,T6 (fun q=>e q.symm)]
       have:=(hs'.tm t).mono hex1.mono
       simpa only [Ui] using this
    ·simp only[cat,jc]
     by_cases h5:id < (hs (i+1)).length
     ·rw[T9 h5]
      split
      ·rfl
      ·rename_i hn
       have h6:id < (hs i).length:=by
        rcases Uv id (hs i).length with h7 | h7
        ·exact h7
        ·exact absurd (.inr ⟨h7,h5⟩) hn
       rw[T9 h6,rB hst h6 (fun q=>hn (.inl q))]
     ·rw[T6 h5,T6,T6 (by omega)]
      rintro (h6 | h6)
      ·have:=(wk hst h6).1; omega
      ·omega
    ·rw[hfix1 id (by omega),hfix id hid]
    ·rw[hfix1 id (by omega)]; exact hfr id (by omega) h2
 have:=key all.length 0 (by omega) Z μ a w (by rw[eT0,eh0]; exact hsim) (Ext.refl _ _ _ _) (fun _ _=>rfl) (fun id h1 h2=>hfree id (by rw[← eh0]; exact h1) h2)
 rw[Vt,List.range_eq_range']
 exact this
theorem c4.weaken {c:Code} {T T':Env} {h h':aJ} {e:Exit} (x:c4 P n c T h e T' h') {Z:Nat→Prop} {μ:Mu} {F:View} {a:Act} {w:World} {Z0:Nat→Prop} {μ0:Mu} {w0:World} {m:Nat}
  (hfree:∀ id,h.length≤id→id < h'.length→μ id=none) (s:qu n Z μ F T h a w) (hex:Ext Z0 μ0 w0 m Z μ w) (hm:m≤h.length) (hlt:∀ id b o s,μ0 id=some (b,o,s)→b < w0.heap.size) :
  c.wp P (fun e' a' w'=>e'=e∧∃ Z' μ',qu n Z' μ' F T' h' a' w'∧Ext Z0 μ0 w0 m Z' μ' w'∧(∀ id,id < h.length∨h'.length≤id→μ' id=μ id)) a w :=
 wp_mono (x.2 Z μ F a w hfree s) fun _ _ _ ⟨he,Z',μ',s',hex',hfix⟩=>⟨he,Z',μ',s',hex.trans hex' hm hlt,hfix⟩
theorem c4.seq {x y:Code} {T T1 T2:Env} {h h1 h2:aJ} {e:Exit} (hx:c4 P n x T h .normal T1 h1) (hy:c4 P n y T1 h1 e T2 h2):c4 P n (.seq x y) T h e T2 h2:=by
 refine ⟨U0 hx.1 hy.1,fun Z μ F a w hfree s=>wp_seq (wp_mono (hx.2 Z μ F a w (fun id h1 h2=>hfree id h1 (UD h2 hy.1)) s) ?_)⟩
 rintro e' a' w' ⟨rfl,Z',μ',s',hex,hfix⟩
 refine wp_mono (hy.weaken (fun id h1 h2=>?_) s' hex hx.1 s.hr.lt) ?_
 ·rw[hfix id (.inr h1)]; exact hfree id (U0 hx.1 h1) h2
 ·rintro e' a' w' ⟨he,Z',μ',s',hex,hfix'⟩
  refine ⟨he,Z',μ',s',hex,fun id hid=>?_⟩
  have:=hx.1
  have:=hy.1
  rw[hfix' id (by omega),hfix id (by omega)]
theorem c4.Jq {x y:Code} {T T1:Env} {h h1:aJ} {e:Exit} (hx:c4 P n x T h e T1 h1) (he:e≠.normal):c4 P n (.seq x y) T h e T1 h1:=by
 refine ⟨hx.1,fun Z μ F a w hfree s=>wp_seq (wp_mono (hx.2 Z μ F a w hfree s) ?_)⟩
 rintro e' a' w' ⟨rfl,h⟩
 cases e' <;> first | exact absurd rfl he | exact ⟨rfl,h⟩
theorem c4.here {c:Code} {T:Env} {h:aJ} {e:Exit} (hc:∀ (Q:Exit→Act→World→Prop) a w,Q e a w→c.wp P Q a w):c4 P n c T h e T h :=
 ⟨Ug _,fun Z μ _ a w _ s=>hc _ a w ⟨rfl,Z,μ,s,Ext.refl _ _ _ _,fun _ _=>rfl⟩⟩
theorem c4.skip {T:Env} {h:aJ} : c4 P n .skip T h .normal T h:=.here fun _ _ _ h=>wp_skip h
theorem c4.label {T:Env} {h:aJ} {l:Nat} : c4 P n (.label l) T h .normal T h:=.here fun _ _ _ h=>wp_label h
theorem c4.exit {T:Env} {h:aJ} {id:Nat} : c4 P n (.exit id) T h (.exit id) T h:=.here fun _ _ _ h=>wp_exit h
theorem c4.goto {T:Env} {h:aJ} {l:Nat} : c4 P n (.goto l) T h (.goto l) T h:=.here fun _ _ _ h=>wp_goto h
theorem c4.ret {T:Env} {h:aJ} : c4 P n .ret T h .ret T h:=.here fun _ _ _ h=>wp_ret h
theorem c4.cond {c:Operand} {x y:Code} {T T':Env} {h h':aJ} {e:Exit} {t:Bool} (hc:ev T c=.val (.bool t)) (hx:c4 P n (if t then x else y) T h e T' h'):c4 P n (.cond c x y) T h e T' h':=by
 refine ⟨hx.1,fun Z μ F a w hfree s=>wp_cond (t:=t) ?_ (hx.2 Z μ F a w hfree s)⟩
 have:=s.eval c
 rw[hc] at this
 exact eT this
def pZ (id:Nat):Exit→Exit
 | .exit id'=>if id'=id then .normal else .exit id'
 | e=>e
theorem c4.block {id:Nat} {c:Code} {T T':Env} {h h':aJ} {e:Exit} (hx:c4 P n c T h e T' h'):c4 P n (.block id c) T h (pZ id e) T' h':=by
 refine ⟨hx.1,fun Z μ F a w hfree s=>wp_block (wp_mono (hx.2 Z μ F a w hfree s) ?_)⟩
 rintro e' a' w' ⟨rfl,h⟩
 cases e' with
 | exit id' =>
  simp only[Exit.inBlock,pZ]
  split
  ·exact ⟨rfl,h⟩
  ·exact ⟨rfl,h⟩
 | _=>exact ⟨rfl,h⟩
theorem zO {c:Code} {Q Q':Exit→Act→World→Prop} (hq:∀ e a w,Q e a w→Q' e a w):∀ (k:Nat) (a:Act) (w:World),Code.rounds P c Q k a w→Code.rounds P c Q' k a w
 | 0,_,_,h=>h
 | k+1,a,w,h=>by
  rw[rounds_succ] at h ⊢
  refine wp_mono h fun e a w h=>?_
  cases e with
  | normal=>exact zO hq k a w h
  | _=>exact hq _ _ _ h
def pS (P:Program) (n:Nat) (c:Code) (T:Env) (h:aJ) (e:Exit) (T':Env) (h':aJ):Prop :=
 h.length≤h'.length∧∃ k,∀ Z μ F a w,(∀ id,h.length≤id→id < h'.length→μ id=none)→qu n Z μ F T h a w →
  Code.rounds P c (fun e' a' w'=>e'=e∧∃ Z' μ',qu n Z' μ' F T' h' a' w'∧Ext Z μ w h.length Z' μ' w'∧(∀ id,id < h.length∨h'.length≤id→μ' id=μ id)) k a w
theorem pS.out {c:Code} {T T1:Env} {h h1:aJ} {e:Exit} (hx:c4 P n c T h e T1 h1) (he:e≠.normal):pS P n c T h e T1 h1:=by
 refine ⟨hx.1,1,fun Z μ F a w hfree s=>?_⟩
 rw[rounds_succ]
 refine wp_mono (hx.2 Z μ F a w hfree s) ?_
 rintro e' a' w' ⟨rfl,h⟩
 cases e' <;> first | exact absurd rfl he | exact ⟨rfl,h⟩
theorem pS.step {c:Code} {T T1 T2:Env} {h h1 h2:aJ} {e:Exit} (hx:c4 P n c T h .normal T1 h1) (hy:pS P n c T1 h1 e T2 h2):pS P n c T h e T2 h2:=by
 obtain ⟨hy1,k,hy⟩:=hy
 refine ⟨U0 hx.1 hy1,k+1,fun Z μ F a w hfree s=>?_⟩
 rw[rounds_succ]
 refine wp_mono (hx.2 Z μ F a w (fun id h1 h2=>hfree id h1 (UD h2 hy1)) s) ?_
 rintro e' a' w' ⟨rfl,Z',μ',s',hex,hfix⟩
 refine zO ?_ k a' w' (hy Z' μ' F a' w' (fun id h1 h2=>?_) s')
 ·rintro e' a' w' ⟨he,Z',μ',s',hex',hfix'⟩
  refine ⟨he,Z',μ',s',hex.trans hex' hx.1 s.hr.lt,fun id hid=>?_⟩
  have:=hx.1
  rw[hfix' id (by omega),hfix id (by omega)]
 ·rw[hfix id (.inr h1)]; exact hfree id (U0 hx.1 h1) h2
theorem c4.loop {c:Code} {T T':Env} {h h':aJ} {e:Exit} (hx:pS P n c T h e T' h'):c4 P n (.loop c) T h e T' h':=by
 obtain ⟨h1,k,h2⟩:=hx
 exact ⟨h1,fun Z μ F a w hfree s=>wp_loop_rounds k (h2 Z μ F a w hfree s)⟩
def jumps (P:Program) (c:Code) (Q:Exit→Act→World→Prop):Nat→Code→Act→World→Prop
 | 0,_,_,_=>False
 | k+1,x,a,w=>x.wp P (fun e a w=>match e with
  | .goto l=>(match findLabel c l with
   | some rest=>jumps P c Q k rest a w
   | none=>Q (.goto l) a w)
  | e=>Q e a w) a w
theorem PC {c:Code} {Q:Exit→Act→World→Prop} {a:Act} {w:World} (k:Nat) (h:jumps P c Q k c a w):(Code.scope c).wp P Q a w:=by
 intro b K cs
 have key:∀ k x a w,jumps P c Q k x a w→∃ e a' w',Q e a' w'∧Arrives P (lone (b.at a (.code x :: .inScope c :: K)) cs w) b K cs e a' w':=by
  intro k
  induction k with
  | zero=>intro x a w h; exact h.elim
  | succ k ih =>
   intro x a w h
   obtain ⟨e,a₁,w₁,hq,harr⟩:=h b (.inScope c :: K) cs
   cases e with
   | normal=>exact ⟨.normal,a₁,w₁,hq,Steps.trans harr (.one step_inScope)⟩
   | exit id=>exact ⟨.exit id,a₁,w₁,hq,fun k' hk=>harr k' (by simp[exitTo,hk])⟩
   | goto l =>
    simp only at hq
    cases hf:findLabel c l with
    | some rest =>
     rw[hf] at hq
     obtain ⟨e₂,a₂,w₂,hq₂,harr₂⟩:=ih rest a₁ w₁ hq
     exact ⟨e₂,a₂,w₂,hq₂,.of_steps (harr _ (by simp[gotoIn,hf])) harr₂⟩
    | none =>
     rw[hf] at hq
     exact ⟨.goto l,a₁,w₁,hq,fun k' hk=>harr k' (by simp[gotoIn,hf,hk])⟩
   | ret=>exact ⟨_,a₁,w₁,hq,harr⟩
   | panic ch=>exact ⟨_,a₁,w₁,hq,harr⟩
   | outgrown=>exact ⟨_,a₁,w₁,hq,harr⟩
 obtain ⟨e,a',w',hq,harr⟩:=key k c a w h
 exact ⟨e,a',w',hq,.of_steps (.one step_scope) harr⟩
theorem Bw {c:Code} {Q Q':Exit→Act→World→Prop} (hq:∀ e a w,Q e a w→Q' e a w):∀ (k:Nat) (x:Code) (a:Act) (w:World),jumps P c Q k x a w→jumps P c Q' k x a w
 | 0,_,_,_,h=>h
 | k+1,x,a,w,h=>by
  refine wp_mono h fun e a w h=>?_
  cases e with
  | goto l =>
   simp only at h ⊢
   split
   ·rename_i rest hf; rw[hf] at h; exact Bw hq k rest a w h
   ·rename_i hf; rw[hf] at h; exact hq _ _ _ h
  | _=>exact hq _ _ _ h
def rl (P:Program) (n:Nat) (c x:Code) (T:Env) (h:aJ) (e:Exit) (T':Env) (h':aJ):Prop :=
 h.length≤h'.length∧∃ k,∀ Z μ F a w,(∀ id,h.length≤id→id < h'.length→μ id=none)→qu n Z μ F T h a w →
  jumps P c (fun e' a' w'=>e'=e∧∃ Z' μ',qu n Z' μ' F T' h' a' w'∧Ext Z μ w h.length Z' μ' w'∧(∀ id,id < h.length∨h'.length≤id→μ' id=μ id)) k x a w
def JV (c:Code):Exit→Bool
 | .goto l=>(findLabel c l).isNone
 | _=>true
theorem rl.out {c x:Code} {T T1:Env} {h h1:aJ} {e:Exit} (hx:c4 P n x T h e T1 h1) (he:JV c e=true):rl P n c x T h e T1 h1:=by
 refine ⟨hx.1,1,fun Z μ F a w hfree s=>?_⟩
 refine wp_mono (hx.2 Z μ F a w hfree s) ?_
 rintro e' a' w' ⟨rfl,h⟩
 cases e' with
 | goto l =>
  simp only[JV,Option.isNone_iff_eq_none] at he
  simp only[he]; exact ⟨trivial,h⟩
 | _=>exact ⟨rfl,h⟩
theorem rl.jump {c x rest:Code} {T T1 T2:Env} {h h1 h2:aJ} {e:Exit} {l:Nat} (hx:c4 P n x T h (.goto l) T1 h1) (hf:findLabel c l=some rest) (hy:rl P n c rest T1 h1 e T2 h2):rl P n c x T h e T2 h2:=by
 obtain ⟨hy1,k,hy⟩:=hy
 refine ⟨U0 hx.1 hy1,k+1,fun Z μ F a w hfree s=>?_⟩
 refine wp_mono (hx.2 Z μ F a w (fun id h1 h2=>hfree id h1 (UD h2 hy1)) s) ?_
 rintro e' a' w' ⟨rfl,Z',μ',s',hex,hfix⟩
 simp only[hf]
 refine Bw ?_ k rest a' w' (hy Z' μ' F a' w' (fun id h1 h2=>?_) s')
 ·rintro e' a' w' ⟨he,Z',μ',s',hex',hfix'⟩
  refine ⟨he,Z',μ',s',hex.trans hex' hx.1 s.hr.lt,fun id hid=>?_⟩
  have:=hx.1
  rw[hfix' id (by omega),hfix id (by omega)]
 ·rw[hfix id (.inr h1)]; exact hfree id (U0 hx.1 h1) h2
theorem c4.scope {c:Code} {T T':Env} {h h':aJ} {e:Exit} (hx:rl P n c c T h e T' h'):c4 P n (.scope c) T h e T' h':=by
 obtain ⟨h1,k,h2⟩:=hx
 exact ⟨h1,fun Z μ F a w hfree s=>PC k (h2 Z μ F a w hfree s)⟩
def lf (vs:List V):Env:=fun t=>vs.getD t .any
def sk (P:Program) (T:Env) (h:aJ):ResultVar→Option V
 | .tmp t=>some (T t)
 | .cell a t=>(mg P t (T a) h.view).map (·.1)
def lY (P:Program) (T:Env) (h:aJ):List ResultVar→Option (List V)
 | []=>some []
 | r :: rest=>match sk P T h r,lY P T h rest with
  | some v,some vs=>some (v :: vs)
  | _,_=>none
def KZ (P:Program) (fn:Func) (T:Env) (h:aJ):Option V:=match lY P T h fn.results.toList with
 | some [v]=>some v
 | some vs=>some (.bE vs)
 | none=>none
theorem JC {Z:Nat→Prop} {μ:Mu} {F:View} {T:Env} {h:aJ} {a:Act} {w:World} (s:qu n Z μ F T h a w) (f:ResultVar→Sem Value) (hf1:∀ t,f (.tmp t)=pure (a.tmps.getD t undef))
  (hf2:∀ p t,f (.cell p t)=(do loadVar t (← asAddr (a.tmps.getD p undef)))):∀ (l:List ResultVar) (vs:List V),lY P T h l=some vs →
  ∃ xs:List Value,(l.mapM f).run P w=.ok xs w∧fU Z μ w.heap vs xs
 | [],vs,hv=>by
  simp only[lY,T7] at hv; subst hv
  exact ⟨[],rfl,rfl,fun i hi=>by simp at hi⟩
 | r :: l,vs,hv=>by
  simp only[lY] at hv
  split at hv
  ·rename_i v vs' h1 h2
   simp only[T7] at hv; subst hv
   obtain ⟨xs,hx,hr⟩:=JC s f hf1 hf2 l vs' h2
   have one:∃ x,(f r).run P w=.ok x w∧aF Z μ w.heap v x:=by
    cases r with
    | tmp t =>
     simp only[sk,T7] at h1; subst h1
     rw[hf1]
     exact ⟨_,rfl,s.tm t⟩
    | cell p t =>
     simp only[sk,Uf] at h1
     obtain ⟨⟨v',eff,rd⟩,h3,rfl⟩:=h1
     have hp:=s.tm p
     rw[hf2]
     unfold mg at h3
     split at h3
     ·rename_i id i j hT
      rw[hT] at hp
      obtain ⟨b,o0,sz,hm,hpe⟩:=nu hp
      split at h3
      ·rename_i esz es hH
       split at h3
       ·rename_i hi
        simp only[Uf,Ua] at h3
        obtain ⟨v'',hv',rfl,_,_⟩:=h3
        have hor:=s.hr.obj id
        have hcat:cat h F id=.arr esz es:=by
         simp only[cat]; rw[T9 (ig (by rw[hH]; simp)),hH]
        rw[hcat] at hor
        obtain ⟨y,hy,hvy⟩:=tL (P:=P) (rowOf hor hm hi).2 hv'
        exact ⟨y,by rw[hpe]; simp[asAddr,hy],hvy⟩
       ·simp at h3
      ·simp at h3
     ·rename_i e j hT
      rw[hT] at hp
      obtain ⟨b,off,hz,hrow,hpe⟩:=si hp
      simp only[Uf,Ua] at h3
      obtain ⟨v'',hv',rfl,_,_⟩:=h3
      obtain ⟨y,hy,hvy⟩:=tL (P:=P) hrow hv'
      exact ⟨y,by rw[hpe]; simp[asAddr,hy],hvy⟩
     ·simp at h3
   obtain ⟨x,hx1,hv1⟩:=one
   refine ⟨x :: xs,?_,⟨by simp[hr.1],fun i hi=>?_⟩⟩
   ·simp only[List.mapM_cons,Sem.run_bind]
    rw[hx1]
    simp only[Result.andThen_ok,Sem.run_bind]
    rw[hx]
    rfl
   ·cases i with
    | zero=>exact hv1
    | succ i=>simpa using hr.2 i (by simpa using hi)
  ·simp at hv
theorem bW.JQ {f:FuncId} {fn:Func} {c:Code} {vs:List V} {T':Env} {h h':aJ} {e:Exit} {r:V} (hf:P.funcs[f]?=some fn) (hb:fn.body=some c) (hn:vs.length≤fn.ntmps)
  (hx:c4 P fn.ntmps c (lf vs) h e T' h') (he:e=.ret∨e=.normal) (hr:KZ P fn T' h'=some r):bW P f vs h r h':=by
 refine ⟨hx.1,fun Z μ F w xs hrel hhr hfree=>calls_of_wp hf hb ?_⟩
 have hsize:(xs.toArray ++ Array.replicate (fn.ntmps - xs.toArray.size) undef).size=fn.ntmps:=by
  have:=hrel.1; simp; omega
 have hsim:qu fn.ntmps Z μ F (lf vs) h { tmps:=xs.toArray ++ Array.replicate (fn.ntmps - xs.toArray.size) undef,defers:=[] } w:=by
  refine ⟨rfl,hsize,fun t=>?_,hhr⟩
  unfold lf
  by_cases ht:t < vs.length
  ·have:=hrel.2 t ht
   have ht':t < xs.length:=hrel.1 ▸ ht
   have h2:(xs.toArray ++ Array.replicate (fn.ntmps - xs.toArray.size) undef).getD t undef=xs.getD t undef:=by
    rw[Ui,Vo (by simpa using ht')]
    simp[T0]
   show aF Z μ w.heap (vs.getD t .any) ((xs.toArray ++ Array.replicate (fn.ntmps - xs.toArray.size) undef).getD t undef)
   rw[h2]; exact this
  ·have:vs.getD t .any=.any:=by simp[T0,UF (Nat.le_of_not_lt ht)]
   rw[this]; exact .any _
 refine wp_mono (hx.2 Z μ F _ w hfree hsim) ?_
 rintro e' a' w' ⟨rfl,Z',μ',s',hex,hfix⟩
 have hres:∃ x,(results fn a'.tmps).run P w'=.ok x w'∧aF Z' μ' w'.heap r x:=by
  unfold KZ at hr
  have go:∀ vs',lY P T' h' fn.results.toList=some vs'→(match vs' with | [v]=>some v | vs=>some (.bE vs))=some r→∃ x,(results fn a'.tmps).run P w'=.ok x w'∧aF Z' μ' w'.heap r x:=by
   intro vs' h1 h2
   unfold results
   obtain ⟨xs',hx',hr'⟩:=JC s' (fun
     | .tmp t=>pure (a'.tmps.getD t undef)
     | .cell p t=>do loadVar t (← asAddr (a'.tmps.getD p undef))) (fun _=>rfl) (fun _ _=>rfl) _ _ h1
   rw[Array.mapM_eq_mapM_toList]
   simp only[Sem.run_bind,Sem.run_map]
   show ∃ x,(((((fn.results.toList.mapM (fun
     | .tmp t=>pure (a'.tmps.getD t undef)
     | .cell p t=>do loadVar t (← asAddr (a'.tmps.getD p undef)):ResultVar→Sem Value)).run P w').andThen fun a w'=>.ok a.toArray w').andThen fun a w'=>(pure (if h:a.size=1 then a[0] else Value.tuple a):Sem Value).run P w')=.ok x w')∧_
   rw[hx']
   simp only[Result.andThen_ok,Sem.run_pure]
   match vs',xs',hr',h2 with
   | [v],[x],hr',h2 =>
    simp only[T7] at h2
    subst h2
    exact ⟨x,rfl,hr'.2 0 (by simp)⟩
   | [],[],hr',h2 =>
    simp only[T7] at h2
    subst h2
    exact ⟨.tuple #[],rfl,.bE _ _ rfl (fun i hi=>by simp at hi)⟩
   | v1 :: v2 :: vs',x1 :: x2 :: xs',hr',h2 =>
    simp only[T7] at h2
    subst h2
    refine ⟨.tuple (x1 :: x2 :: xs').toArray,by simp,.bE _ _ (by simpa using hr'.1) (fun i hi=>?_)⟩
    have:=hr'.2 i hi
    simpa [Ui,T0] using this
   | [_],[],hr',_=>exact absurd hr'.1 (by simp)
   | [_],_ :: _ :: _,hr',_=>exact absurd hr'.1 (by simp)
   | [],_ :: _,hr',_=>exact absurd hr'.1 (by simp)
   | _ :: _ :: _,[],hr',_=>exact absurd hr'.1 (by simp)
   | _ :: _ :: _,[_],hr',_=>exact absurd hr'.1 (by simp)
  split at hr
  ·rename_i v hv; exact go _ hv hr
  ·rename_i vs' hne hv
   refine go _ hv ?_
   split
   ·rename_i v; exact absurd rfl (hne v)
   ·exact hr
  ·simp at hr
 obtain ⟨x,hx1,hv1⟩:=hres
 rcases he with rfl | rfl
 ·exact ⟨s'.defers,x,hx1,x,Z',μ',rfl,hv1,s'.hr,hex,hfix⟩
 ·exact ⟨s'.defers,x,hx1,x,Z',μ',rfl,hv1,s'.hr,hex,hfix⟩
end
end Gv
