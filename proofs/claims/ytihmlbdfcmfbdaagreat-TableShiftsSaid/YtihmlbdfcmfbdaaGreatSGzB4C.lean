/-
  Part 3 of the proof: what the machine does and what the functions answer.
  Conditions: those that each lemma names.
-/
import Derived.Orders
import Derived.LoopN
import Derived.Scope
import Derived.Test.YtihmlbdfcmfbdaaGreatSGzB4B
set_option linter.unusedSimpArgs false
set_option linter.unusedVariables false
set_option maxRecDepth 100000
set_option maxHeartbeats 20000000
namespace Gv
open Go
section
variable {Z:Nat→Prop} {μ μ':Mu} {w w':World} {P:Program} {H:View} {n:Nat} {v:V} {eff:bA} {rd:List Nat}
theorem tn {c:Operand→Value} {o:Oper} {b:Builtin} {args:Array Operand} {a:Array TypeId} (d:o.op=.call { callee:=.builtin b,args:=args,argTypes:=a }) :
  execOp c o=builtin b a o.type (args.map fun | .const _=>true | _=>false) (args.map c):=by
 unfold execOp
 rw[d]
 rfl
def qJ (k:Nat) (x:Value) (b:Bool):Prop:=match k,x with
 | 0,.slice a _ _=>a.isNone=b
 | 1,.pointer a=>a.isNone=b
 | 2,.map a=>a.isNone=b
 | 3,.nilFunc=>b=true
 | 3,.func _ _ _=>b=false
 | _,_=>False
theorem NO {k:Nat} {x:V} {d:Value} {b:Bool} (h:fh k x=some b) (c:az Z μ w.heap x d):qJ k d b:=by
 unfold fh at h
 split at h
 ·simp at h; subst h; cases c with | emp k a h1 e=>rw[h1 rfl]; rfl
 ·simp at h; subst h
  cases c with
  | emp k a h1 e =>
   cases a with
   | none=>exact absurd rfl (e rfl)
   | some a=>rfl
 ·simp at h; subst h; cases c; rfl
 ·simp at h; subst h; cases c; rfl
 ·simp at h; subst h; cases c; rfl
 ·simp at h; subst h; cases c; rfl
 ·simp at h; subst h; cases c; rfl
 ·simp at h; subst h; cases c; rfl
 ·simp at h; subst h; cases c; rfl
 ·simp at h; subst h; cases c; rfl
 ·simp at h; subst h; cases c; rfl
 ·simp at h; subst h; cases c; rfl
 ·simp at h
theorem JC {t:TypeId} {k:Nat} (h:jM P t=some k):(k=0∧∃ e,P.underlying t=some (.slice e))∨(k=1∧∃ e,P.underlying t=some (.pointer e)) ∨
  (k=2∧∃ e f,P.underlying t=some (.map e f))∨(k=3∧∃ p q r,P.underlying t=some (.func p q r)):=by
 unfold jM at h
 split at h
 ·rename_i e hu; simp at h; exact .inl ⟨h.symm,e,hu⟩
 ·rename_i e hu; simp at h; exact .inr (.inl ⟨h.symm,e,hu⟩)
 ·rename_i e f hu; simp at h; exact .inr (.inr (.inl ⟨h.symm,e,f,hu⟩))
 ·rename_i p q r hu; simp at h; exact .inr (.inr (.inr ⟨h.symm,p,q,r,hu⟩))
 ·simp at h
def rK (P:Program) (w:World) (t:TypeId) (x y:Operand) (xv yv:Value) (b:Bool):Prop :=
 (Op.equal t xv yv).run P w=.ok b w∧(∀ op,(eqGuard op t x y xv yv).run P w=.ok () w)∧(binOp .eql t xv yv=(do pure (.bool (← Op.equal t xv yv))))∧(binOp .neq t xv yv=(do pure (.bool (!(← Op.equal t xv yv)))))
theorem lX (t:TypeId) (x y:Value):Op.equal t x y=Op.equalIn (9999+1) t x y:=rfl
theorem N2 {t e:TypeId} {x y:Operand} {a d:Option Addr} {l c l' f:Nat} {b:Bool} (hu:P.underlying t=some (.slice e)) (h:(a.isNone=true∧d.isNone=b)∨(a.isNone=b∧d.isNone=true)):rK P w t x y (.slice a l c) (.slice d l' f) b:=by
 refine ⟨?_,fun op=>by cases op <;> rfl,rfl,rfl⟩
 rw[lX]
 generalize (9999:Nat)=depth
 simp only[Op.equalIn,Sem.run_bind,bw hu,Result.andThen_ok]
 cases a with
 | none=>cases d <;> simp_all
 | some a=>cases d <;> simp_all
theorem J2 {t e:TypeId} {x y:Operand} {a c:Option Addr} {b:Bool} (hu:P.underlying t=some (.pointer e)) (h:(a.isNone=true∧c.isNone=b)∨(a.isNone=b∧c.isNone=true)):rK P w t x y (.pointer a) (.pointer c) b:=by
 refine ⟨?_,fun op=>by cases op <;> rfl,rfl,rfl⟩
 rw[lX]
 generalize (9999:Nat)=depth
 simp only[Op.equalIn,Sem.run_bind,bw hu,Result.andThen_ok]
 cases a with
 | none=>cases c <;> simp_all
 | some a=>cases c <;> simp_all
theorem Uj {t e f:TypeId} {x y:Operand} {a c:Option Nat} {b:Bool} (hu:P.underlying t=some (.map e f)) (h:(a.isNone=true∧c.isNone=b)∨(a.isNone=b∧c.isNone=true)):rK P w t x y (.map a) (.map c) b:=by
 refine ⟨?_,fun op=>by cases op <;> rfl,rfl,rfl⟩
 rw[lX]
 generalize (9999:Nat)=depth
 simp only[Op.equalIn,Sem.run_bind,bw hu,Result.andThen_ok]
 cases a with
 | none=>cases c <;> simp_all
 | some a=>cases c <;> simp_all
theorem R8 {t:TypeId} {p q:Array TypeId} {r:Bool} {x y:Operand} (hu:P.underlying t=some (.func p q r)) :
  rK P w t x y .nilFunc .nilFunc true∧(∀ f m k,rK P w t x y .nilFunc (.func f m k) false)∧(∀ f m k,rK P w t x y (.func f m k) .nilFunc false):=by
 refine ⟨⟨?_,fun op=>by cases op <;> rfl,rfl,rfl⟩,fun f m k=>⟨?_,fun op=>by cases op <;> rfl,rfl,rfl⟩,fun f m k=>⟨?_,fun op=>by cases op <;> rfl,rfl,rfl⟩⟩
 all_goals
  rw[lX]
  generalize (9999:Nat)=depth
  simp only[Op.equalIn,Sem.run_bind,bw hu,Result.andThen_ok,Sem.run_pure]
theorem TI {t:TypeId} {x y:Operand} {n o:V} {j d:Value} {b:Bool} (v:az Z μ w.heap n j) (h1:az Z μ w.heap o d) (h:Ey P t n o=some b):rK P w t x y j d b:=by
 have g:∃ k m l,jM P t=some k∧fh k n=some m∧fh k o=some l∧((m=true∧l=b)∨(m=b∧l=true)):=by
  unfold Ey at h
  split at h
  ·rename_i k hk
   split at h
   ·rename_i l s u
    simp at h; subst h
    exact ⟨k,true,_,hk,s,u,.inl ⟨rfl,rfl⟩⟩
   ·rename_i l _ s u
    simp at h; subst h
    exact ⟨k,_,true,hk,s,u,.inr ⟨rfl,rfl⟩⟩
   ·simp at h
  ·simp at h
 obtain ⟨k,m,l,hk,z,A,i⟩:=g
 have c:=NO z v
 have a:=NO A h1
 clear h v h1 z A
 rcases JC hk with ⟨rfl,e,hu⟩ | ⟨rfl,e,hu⟩ | ⟨rfl,e,f,hu⟩ | ⟨rfl,p,q,r,hu⟩
 ·cases j <;> simp only[qJ] at c
  cases d <;> simp only[qJ] at a
  exact N2 hu (by rw[c,a]; exact i)
 ·cases j <;> simp only[qJ] at c
  cases d <;> simp only[qJ] at a
  exact J2 hu (by rw[c,a]; exact i)
 ·cases j <;> simp only[qJ] at c
  cases d <;> simp only[qJ] at a
  exact Uj hu (by rw[c,a]; exact i)
 ·obtain ⟨g1,g2,g3⟩:=R8 (P:=P) (w:=w) (x:=x) (y:=y) hu
  cases j <;> simp only[qJ] at c
  ·cases d <;> simp only[qJ] at a
   ·subst c a
    simp at i
   ·subst c a
    have:b=false:=by simpa using i.symm
    subst this; exact g3 _ _ _
  ·cases d <;> simp only[qJ] at a
   ·subst c a
    have:b=false:=by simpa using i.symm
    subst this; exact g2 _ _ _
   ·subst c a
    have:b=true:=by simpa using i.symm
    subst this; exact g1
theorem Va {o:Oper} {T:Env} {a:Act} (h:cp P o T H n=some (v,eff,rd)) (A:∀ x∈o.op.operands,az Z μ w.heap (ev T x) (a.eval x)) (c:Ctx Z μ w.heap H rd n eff) :
  bh Z μ w n v eff ((execOp a.eval o).run P w):=by
 unfold cp at h
 split at h
 ·
  rename_i x g
  simp only[Xe,Xh] at h
  obtain ⟨rfl,rfl,rfl⟩:=h
  rw[g] at A
  refine ⟨.value (a.eval x),w,μ,by simp[execOp,g],.inl ⟨_,rfl,A x (by simp[Op.operands])⟩,eM.refl _,jj⟩
 ·rename_i x g
  simp only[Xe,Xh] at h
  obtain ⟨rfl,rfl,rfl⟩:=h
  rw[g] at A
  refine ⟨.value (a.eval x),w,μ,by simp[execOp,g],.inl ⟨_,rfl,A x (by simp[Op.operands])⟩,eM.refl _,jj⟩
 ·
  rename_i cc x y g
  rw[g] at A
  split at h
  ·rename_i t ht
   simp only[Xe,Xh] at h
   obtain ⟨rfl,rfl,rfl⟩:=h
   have h1:=A cc (by simp[Op.operands])
   rw[ht] at h1
   have h1:=fq h1
   refine ⟨.value (if t then a.eval x else a.eval y),w,μ,by simp[execOp,g,h1,asBool],.inl ⟨_,rfl,?_⟩,eM.refl _,jj⟩
   cases t with
   | true=>exact A x (by simp[Op.operands])
   | false=>exact A y (by simp[Op.operands])
  ·simp at h
 ·
  rename_i e g
  split at h
  ·rename_i z hz
   have W:∃ i U,P.info? e=some i∧i.zero=some U∧z=(fN U).cells:=by
    cases hi:P.info? e with
    | none=>simp[zeroCells,hi] at hz
    | some i =>
     obtain ⟨U,h1,N⟩:=jk hi hz
     exact ⟨i,U,rfl,h1,N⟩
   obtain ⟨i,U,hi,an,rfl⟩:=W
   have:=LN (P:=P) (x:=U) (t:=e) h (fun V=>hU (gZ _) V) c
   have C:(execOp a.eval o).run P w=((do pure (Next.value (.pointer (some (← newVar e U)))):Sem Next).run P w):=by
    unfold execOp
    rw[g]
    simp[Instr.alloc,kr hi an]
   rw[C]; exact this
  ·simp at h
 ·
  rename_i e x g
  rw[g] at A
  have:=UU (P:=P) (t:=e) h (fun V=>hU (A x (by simp[Op.operands])) V) c
  have C:execOp a.eval o=(do pure (Next.value (← Instr.box e (a.eval x)))):=by
   unfold execOp; rw[g]
  rw[C]; exact this
 ·
  rename_i t parts g
  rw[g] at A
  have C:execOp a.eval o=(do pure (Next.value (← Instr.build t (parts.map fun (i,x)=>(i,a.eval x))))):=by
   unfold execOp; rw[g]
  rw[C]
  refine Py h ?_
  rw[Array.toList_map]
  exact BH _ (fun x E=>A x (by simpa [Op.operands] using E))
 ·
  rename_i t len parts g
  rw[g] at A
  have C:execOp a.eval o=(do pure (Next.value (← Instr.buildSlice t len (parts.map fun (i,x)=>(i,a.eval x))))):=by
   unfold execOp; rw[g]
  rw[C]
  refine D4 h ?_ c
  rw[Array.toList_map]
  exact BH _ (fun x E=>A x (by simpa [Op.operands] using E))
 ·
  rename_i t x g
  rw[g] at A
  have C:execOp a.eval o=(do pure (Next.value (← Instr.loadAt t (a.eval x)))):=by
   unfold execOp; rw[g]
  rw[C]
  exact RF h (A x (by simp[Op.operands])) c
 ·
  rename_i t x y g
  rw[g] at A
  have C:execOp a.eval o=(do Instr.storeAt t (a.eval x) (a.eval y); pure Next.skip):=by
   unfold execOp; rw[g]
  rw[C]
  exact Od h (A x (by simp[Op.operands])) (A y (by simp[Op.operands])) c
 ·
  rename_i x g
  rw[g] at A
  have h1:=A x (by simp[Op.operands])
  split at h
  ·rename_i id i j E
   simp only[Xe,Xh] at h
   obtain ⟨rfl,rfl,rfl⟩:=h
   rw[E] at h1
   have N:=h1
   obtain ⟨b,o0,s,hm,he⟩:=oy h1
   exact ⟨.value (a.eval x),w,μ,by simp[execOp,g,he],.inl ⟨_,rfl,N⟩,eM.refl _,jj⟩
  ·rename_i e j E
   simp only[Xe,Xh] at h
   obtain ⟨rfl,rfl,rfl⟩:=h
   rw[E] at h1
   have N:=h1
   obtain ⟨b,off,hz,ar,he⟩:=sZ h1
   exact ⟨.value (a.eval x),w,μ,by simp[execOp,g,he],.inl ⟨_,rfl,N⟩,eM.refl _,jj⟩
  ·rename_i f p q E
   simp only[Xe,Xh] at h
   obtain ⟨rfl,rfl,rfl⟩:=h
   rw[E] at h1
   have N:=h1
   generalize he:a.eval x=y at h1 N
   cases h1 with
   | fn _ _ _ O bs _ _ _ _=>exact ⟨.value (.func (.func f) O bs),w,μ,by simp[execOp,g,he],.inl ⟨_,rfl,N⟩,eM.refl _,jj⟩
  ·simp at h
 ·
  rename_i t x f g
  rw[g] at A
  have C:execOp a.eval o=(do pure (Next.value (← Instr.fieldAt t (a.eval x) f))):=by
   unfold execOp; rw[g]
  rw[C]
  exact GN h (A x (by simp[Op.operands]))
 ·
  rename_i t x f g
  rw[g] at A
  have C:execOp a.eval o=(do pure (Next.value (← Instr.field t (a.eval x) f))):=by
   unfold execOp; rw[g]
  rw[C]
  exact OL h (A x (by simp[Op.operands]))
 ·
  rename_i t x i g
  rw[g] at A
  have C:execOp a.eval o=(do pure (Next.value (← Instr.indexAt t (a.eval x) (a.eval i)))):=by
   unfold execOp; rw[g]
  rw[C]
  exact GO h (A x (by simp[Op.operands])) (A i (by simp[Op.operands]))
 ·
  rename_i t x lo hi X g
  split at h
  ·refine sK h A (fun Q B=>?_)
   rw[g] at B
   have J:=B x (by simp[Op.operands])
   have h1:lo.map Q=lo.map a.eval:=by cases lo with | none=>rfl | some y=>simp[B y (by simp[Op.operands])]
   have N:hi.map Q=hi.map a.eval:=by cases hi with | none=>rfl | some y=>simp[B y (by simp[Op.operands])]
   have h3:X.map Q=X.map a.eval:=by cases X with | none=>rfl | some y=>simp[B y (by simp[Op.operands])]
   unfold execOp; rw[g]; simp only[J,h1,N,h3]
  ·rw[g] at A
   have C:execOp a.eval o=(do pure (Next.value (← Instr.sliceAt t (a.eval x) (lo.map a.eval) (hi.map a.eval) (X.map a.eval)))):=by
    unfold execOp; rw[g]
   rw[C]
   exact PC h (A x (by simp[Op.operands])) (Ew lo (fun y S=>A y (by simp[Op.operands] at S ⊢; simp[S]))) (Ew hi (fun y S=>A y (by simp[Op.operands] at S ⊢; simp[S]))) (Ew X (fun y S=>A y (by simp[Op.operands] at S ⊢; simp[S])))
 ·
  rename_i t l cc g
  rw[g] at A
  have C:execOp a.eval o=(do pure (Next.value (← Instr.makeSlice t (a.eval l) (a.eval cc)))):=by
   unfold execOp; rw[g]
  rw[C]
  exact GK h (A l (by simp[Op.operands])) (A cc (by simp[Op.operands])) c
 ·
  rename_i t r g
  split at h
  ·simp only[Xe,Xh] at h
   obtain ⟨rfl,rfl,rfl⟩:=h
   refine ⟨.value (.map (some w.heap.size)),w.alloc (.map #[] 0),μ.set n (w.heap.size,0,0),by simp[execOp,g,Instr.makeMap],.inl ⟨_,rfl,.mp n w.heap.size 0 0 (by simp[Mu.set])⟩,ju _ _,?_⟩
   refine ⟨w.heap.size,0,0,Xo _,by rw[heap_alloc]; simp,rfl,by rw[heap_alloc]; exact eQ _ _,?_⟩
   intro b o0 s E
   simp only[Mu.set,if_true,Xe,Xh] at E
   obtain ⟨rfl,rfl,rfl⟩:=E
   exact ⟨#[],by rw[heap_alloc]; simp,rfl,fun i hi=>by simp at hi⟩
  ·simp at h
 ·
  rename_i f first cap g
  simp only[Xe,Xh] at h
  obtain ⟨rfl,rfl,rfl⟩:=h
  rw[g] at A
  have h1:=Ka (T:=T) (a:=a) first (fun x E=>A x (by simp[Op.operands,E]))
  have N:=Ka (T:=T) (a:=a) cap (fun x E=>A x (by simp[Op.operands,E]))
  exact ⟨.value (.func (.func f) (first.map a.eval) (cap.map a.eval)),w,μ,by simp[execOp,g,Instr.makeFunc],.inl ⟨_,rfl,.fn f _ _ _ _ h1.1 N.1 h1.2 N.2⟩,eM.refl _,jj⟩
 ·
  rename_i t m k ok g
  rw[g] at A
  have C:execOp a.eval o=(do pure (Next.value (← Instr.lookup t (a.eval m) (a.eval k) ok))):=by
   unfold execOp; rw[g]
  rw[C]
  exact Mz h (A m (by simp[Op.operands])) (A k (by simp[Op.operands])) c
 ·rename_i t m k x g
  rw[g] at A
  have C:execOp a.eval o=(do Instr.mapUpdate t (a.eval m) (a.eval k) (a.eval x); pure Next.skip):=by
   unfold execOp; rw[g]
  rw[C]
  exact yu h (A m (by simp[Op.operands])) (A k (by simp[Op.operands])) (A x (by simp[Op.operands])) c
 ·rename_i t m k x g
  rw[g] at A
  have C:execOp a.eval o=(do Instr.mapUpdate t (a.eval m) (a.eval k) (a.eval x); pure Next.skip):=by
   unfold execOp; rw[g]
  rw[C]
  exact yu h (A m (by simp[Op.operands])) (A k (by simp[Op.operands])) (A x (by simp[Op.operands])) c
 ·rename_i t m k g
  rw[g] at A
  have C:execOp a.eval o=(do pure (Next.value (← Instr.mapEntry t (a.eval m) (a.eval k)))):=by
   unfold execOp; rw[g]
  rw[C]
  exact Jc h (A m (by simp[Op.operands])) (A k (by simp[Op.operands])) c
 ·rename_i t m s x g
  rw[g] at A
  have C:execOp a.eval o=(do Instr.entryStore t (a.eval m) (a.eval s) (a.eval x); pure Next.skip):=by
   unfold execOp; rw[g]
  rw[C]
  exact Em h (A m (by simp[Op.operands])) (A s (by simp[Op.operands])) (A x (by simp[Op.operands])) c
 ·
  rename_i t i g
  rw[g] at A
  have h1:=A t (by simp[Op.operands])
  split at h
  ·rename_i vs aq
   split at h
   ·rename_i hi
    simp only[Xe,Xh] at h
    obtain ⟨rfl,rfl,rfl⟩:=h
    rw[aq] at h1
    generalize he:a.eval t=y at h1
    cases h1 with
    | bp _ O hl hr =>
     have h3:=hr i hi
     have Y:i < O.size:=hl ▸ hi
     simp only[Xp,Xx Y,Xu] at h3
     exact ⟨.value O[i],w,μ,by simp[execOp,g,he,Instr.extract,Y],.inl ⟨_,rfl,h3⟩,eM.refl _,jj⟩
   ·simp at h
  ·simp at h
 ·
  rename_i t x g
  rw[g] at A
  have h1:=A x (by simp[Op.operands])
  split at h
  ·rename_i s hs
   split at h
   ·rename_i M
    simp only[Xe,Xh] at h
    obtain ⟨rfl,rfl,rfl⟩:=h
    rw[hs] at h1
    have h1:=fq h1
    have hu:P.underlying t=some .string:=by
     rw[g] at M
     unfold isStr at M
     simp only at M
     split at M <;> simp_all
    refine ⟨.value (.pointer (some ⟨w.heap.size,0,none⟩)),w.alloc (.stringIter s 0),μ.set n (w.heap.size,0,0),by simp[execOp,g,h1,Instr.range,bw hu],.inl ⟨_,rfl,?_⟩,ju _ _,?_⟩
    ·have:=az.ptr (Z:=Z) (μ:=μ.set n (w.heap.size,0,0)) (hp:=(w.alloc (.stringIter s 0)).heap) n 0 0 w.heap.size 0 0 (by simp[Mu.set])
     simpa using this
    ·refine ⟨w.heap.size,0,0,Xo _,by rw[heap_alloc]; simp,rfl,by rw[heap_alloc]; exact eQ _ _,?_⟩
     intro b o0 s' E
     simp only[Mu.set,if_true,Xe,Xh] at E
     obtain ⟨rfl,rfl,rfl⟩:=E
     exact ⟨rfl,by rw[heap_alloc]; simp⟩
   ·simp at h
  ·simp at h
 ·
  rename_i it g
  rw[g] at A
  have C:execOp a.eval o=(do pure (Next.value (← Instr.next (a.eval it) true o.type))):=by
   unfold execOp; rw[g]
  rw[C]
  exact Sd h (A it (by simp[Op.operands])) c
 ·
  rename_i s d x g
  split at h
  ·rw[g] at A
   have C:execOp a.eval o=(do pure (Next.value (← convert s d (a.eval x)))):=by
    unfold execOp; rw[g]
   rw[C]
   exact JX h (A x (by simp[Op.operands])) c
  ·refine sK h A (fun Q B=>?_)
   rw[g] at B
   have J:=B x (by simp[Op.operands])
   unfold execOp; rw[g]; simp only[J]
 ·
  rename_i b args R g
  have D:execOp a.eval o=builtin b R o.type (args.map fun | .const _=>true | _=>false) (args.map a.eval):=tn g
  have G:dQ P o T=some (v,eff,rd)→bh Z μ w n v eff ((execOp a.eval o).run P w):=by
   intro h
   refine sK h A (fun Q B=>?_)
   rw[g] at B
   rw[tn g,tn g]
   have:args.map Q=args.map a.eval:=by
    apply Array.map_congr_left
    intro x E
    exact B x (by simp[Op.operands,Call.operands,E])
   rw[this]
  have I:∀ x∈args.toList,az Z μ w.heap (ev T x) (a.eval x):=fun x E=>A x (by rw[g]; simp[Op.operands,Call.operands]; simpa using E)
  have J:∀ {k:Nat},k < R.size→R[k]?=some (R.getD k 0):=by
   intro k hk
   simp[Xp,hk]
  have L:∀ x,args.toList=[x]→args.map a.eval = #[a.eval x]:=by
   intro x E
   apply Array.ext'
   simp[E]
  have K:∀ x y,args.toList=[x,y]→args.map a.eval = #[a.eval x,a.eval y]:=by
   intro x y E
   apply Array.ext'
   simp[E]
  split at h
  ·rename_i x u
   split at h
   ·rename_i F
    rw[D,L x u]
    exact T7 h (J F) (I x (by rw[u]; simp)) c
   ·simp at h
  ·rename_i x y u
   split at h
   ·rename_i F
    rw[D,K x y u]
    exact Ni h (J (by omega)) (J (by omega)) F.2 (I x (by rw[u]; simp)) (I y (by rw[u]; simp)) c
   ·split at h
    ·rename_i F
     rw[D,K x y u]
     exact Q6 h (J (by omega)) (J (by omega)) F.2 (I x (by rw[u]; simp)) (I y (by rw[u]; simp)) c
    ·simp at h
  ·rename_i x u
   split at h
   ·rename_i F
    rw[D,L x u]
    exact TG h (J F) (I x (by rw[u]; simp)) c
   ·simp at h
  ·rename_i x y u
   split at h
   ·rename_i F
    rw[D,K x y u]
    exact SN h (J F) (I x (by rw[u]; simp)) (I y (by rw[u]; simp)) c
   ·simp at h
  ·rename_i x y u
   split at h
   ·rename_i F
    rw[D,K x y u]
    exact No h (J F) (I x (by rw[u]; simp)) (I y (by rw[u]; simp)) c
   ·simp at h
  ·rename_i x u
   split at h
   ·rename_i F
    rw[D,L x u]
    exact P9 h (J F) (I x (by rw[u]; simp)) c
   ·simp at h
  ·exact G h
  ·exact G h
  ·exact G h
  ·exact G h
  ·exact G h
  ·simp at h
 ·rename_i op t x y yt g
  split at h
  ·rw[g] at A
   have J:=A x (by simp[Op.operands])
   have h1:=A y (by simp[Op.operands])
   have go:∀ b,Ey P t (ev T x) (ev T y)=some b→rK P w t x y (a.eval x) (a.eval y) b:=fun b hb=>TI J h1 hb
   split at h
   ·rename_i b hb
    simp only[Xe,Xh] at h
    obtain ⟨rfl,rfl,rfl⟩:=h
    obtain ⟨g1,g2,g3,_⟩:=go _ hb
    refine ⟨.value (.bool b),w,μ,?_,.inl ⟨_,rfl,.val _ rfl⟩,eM.refl _,jj⟩
    unfold execOp; rw[g]
    simp only[Sem.run_bind,g2,Result.andThen_ok,g3,g1,Sem.run_pure]
   ·rename_i b hb
    simp only[Xe,Xh] at h
    obtain ⟨rfl,rfl,rfl⟩:=h
    obtain ⟨g1,g2,_,g4⟩:=go _ hb
    refine ⟨.value (.bool (!b)),w,μ,?_,.inl ⟨_,rfl,.val _ rfl⟩,eM.refl _,jj⟩
    unfold execOp; rw[g]
    simp only[Sem.run_bind,g2,Result.andThen_ok,g4,g1,Sem.run_pure]
   ·simp at h
  ·refine sK h A (fun Q B=>?_)
   rw[g] at B
   have J:=B x (by simp[Op.operands])
   have h1:=B y (by simp[Op.operands])
   unfold execOp; rw[g]; simp only[J,h1]
 ·rename_i op t x g
  refine sK h A (fun Q B=>?_)
  rw[g] at B
  have J:=B x (by simp[Op.operands])
  unfold execOp; rw[g]; simp only[J]
 ·rename_i t x y g
  refine sK h A (fun Q B=>?_)
  rw[g] at B
  have J:=B x (by simp[Op.operands])
  have h1:=B y (by simp[Op.operands])
  unfold execOp; rw[g]; simp only[J,h1]
 ·simp at h
end
def bA.wr:bA→List Nat
 | .none | .new _=>[]
 | .fk id _ | .fa id _=>[id]
def jG (μ:Mu) (b:Nat):Prop:=∃ id o s,μ id=some (b,o,s)
structure Ext (Z:Nat→Prop) (μ:Mu) (w:World) (m:Nat) (Z':Nat→Prop) (μ':Mu) (w':World):Prop where
 same:eM w w'
 mono:ix Z Z' μ μ' w.heap w'.heap
 frame:gF w.heap w'.heap (jG μ)
 Rp:∀ b,Z' b→Z b∨w.heap.size≤b
 Cr:∀ id b o s,μ' id=some (b,o,s)→μ id=some (b,o,s)∨(m≤id∧(w.heap.size≤b∨jG μ b))
theorem Ext.refl (Z:Nat→Prop) (μ:Mu) (w:World) (m:Nat):Ext Z μ w m Z μ w :=
 ⟨eM.refl _,ix.refl _ _ _,fun _ _ _=>rfl,fun _ h=>.inl h,fun _ _ _ _ h=>.inl h⟩
theorem Ext.trans {Z l c:Nat→Prop} {μ μ' a:Mu} {w w' d:World} {m n:Nat} (h:Ext Z μ w m l μ' w') (k:Ext l μ' w' n c a d) (hm:m≤n) (q:∀ id b o s,μ id=some (b,o,s)→b < w.heap.size):Ext Z μ w m c a d:=by
 have e:∀ b,jG μ' b→w.heap.size≤b∨jG μ b:=by
  rintro b ⟨id,o,s,i⟩
  rcases h.Cr _ _ _ _ i with h1 | ⟨_,h1 | h1⟩
  ·exact .inr ⟨_,_,_,h1⟩
  ·exact .inl h1
  ·exact .inr h1
 refine ⟨h.same.trans k.same,h.mono.trans k.mono,fun b g p=>?_,fun b g=>?_,fun id b o s i=>?_⟩
 ·rw[k.frame b (XM g h.same.size) (fun j=>?_),h.frame b g p]
  rcases e b j with h1 | h1
  ·omega
  ·exact p h1
 ·rcases k.Rp b g with h1 | h1
  ·exact h.Rp b h1
  ·exact .inr (X7 h.same.size h1)
 ·rcases k.Cr _ _ _ _ i with h1 | ⟨h1,f⟩
  ·exact h.Cr _ _ _ _ h1
  ·refine .inr ⟨by omega,?_⟩
   rcases f with f | f
   ·exact .inl (X7 h.same.size f)
   ·exact e b f
def cat (h:aC) (F:View):View:=fun id=>if id < h.length then h.view id else F id
def bS (P:Program) (f:FuncId) (vs:List V) (h:aC) (r:V) (h':aC):Prop :=
 h.length≤h'.length∧∀ Z μ (F:View) (w:World) (xs:List Value),gA Z μ w.heap vs xs→iH Z μ w.heap (cat h F)→(∀ id,h.length≤id→id < h'.length→μ id=none) →
  Calls P f xs.toArray w fun e w'=>∃ x Z' μ',e=.returned x∧az Z' μ' w'.heap r x∧iH Z' μ' w'.heap (cat h' F)∧Ext Z μ w h.length Z' μ' w'∧(∀ id,id < h.length∨h'.length≤id→μ' id=μ id)
def dJ (P:Program) (f:FuncId):Bool:=match P.funcs[f]? with
 | some fn=>fn.name != "runtime.NumGoroutine" && fn.body.isSome
 | none=>false
def sD (n:Nat) (o:Oper):Bool:=match o.dst with
 | some d=>d < n
 | none=>true
def dH (n:Nat) (all:List Oper) (T:Env) (o:Oper):Option Bool:=match o.guard with
 | none=>some true
 | some (j,want)=>match (all[j]?).bind (·.dst) with
  | some d=>if d < n then (match T d with
   | .val (.bool b)=>some (b == want)
   | .bp []=>some false
   | _=>none) else none
  | none=>none
inductive dR (P:Program) (n:Nat) (all:List Oper):Oper→Env→aC→V→aC→List Nat→List Nat→Bool→Prop
 | skip {o:Oper} {T:Env} {h:aC} : dH n all T o=some false→dR P n all o T h (.bp []) h [] [] false
 | op {o:Oper} {T:Env} {h:aC} {v:V} {eff:bA} {rd:List Nat} : dH n all T o=some true→cp P o T h.view h.length=some (v,eff,rd)→dR P n all o T h v (eff.apply h) rd eff.wr false
 | jQ {o:Oper} {T:Env} {h:aC} {e:TypeId} {x:Operand} : dH n all T o=some true→o.op=.box e x→(ev T x).cells.all aO=true→dR P n all o T h (.aJ (ev T x).cells 0) h [] [] false
 | gH {o:Oper} {T:Env} {h:aC} {s d e:TypeId} {x:Operand} {st:ByteArray} : dH n all T o=some true→o.op=.convert s d x→P.underlying s=some .string→P.underlying d=some (.slice e)→P.underlying e=some (.int .u8)→ev T x=.val (.string st)→dR P n all o T h (.aE (gX st)) h [] [] false
 | call {o:Oper} {T:Env} {h h':aC} {r:V} {f:Operand} {args:Array Operand} {ats:Array TypeId} {g:FuncId} {first cap:List V} {wr:List Nat} : dH n all T o=some true →
  o.op=.call { callee:=.value f,args:=args,argTypes:=ats }→ev T f=.fn g first cap→dJ P g=true→bS P g (first ++ args.toList.map (ev T) ++ cap) h r h' →
  (∀ id,id < h.length→¬ id∈wr→h'.view id=h.view id)→(∀ id,id∈wr→id < h.length)→dR P n all o T h r h' [] wr true
theorem iS {h:aC} {id:Nat} (hd:h.view id≠.dead):id < h.length:=by
 rcases XB id h.length with h1 | h1
 ·exact h1
 ·exfalso; apply hd; simp[aC.view,Xb,XL h1]
theorem kf {h:aC} {id:Nat} {o:c6} (a:id < h.length):aC.view (h.set id o)=View.set h.view id o:=by
 funext k
 simp only[aC.view,View.set,Xb,YC]
 by_cases e:id=k
 ·subst e; simp[a]
 ·rw[Xd e,Xd (fun q=>e q.symm)]
theorem Fk (h:aC) (o:c6):aC.view (h ++ [o])=View.set h.view h.length o:=by
 funext k
 simp only[aC.view,View.set,Xb]
 by_cases e:k=h.length
 ·subst e; simp
 ·rw[Xd e]
  rcases XB k h.length with h1 | h1
  ·rw[XA h1]
  ·rw[XP h1,XL (by simp; omega),XL h1]
theorem mg {h:aC} {eff:bA} (hl:∀ id,id∈eff.wr→h.view id≠.dead):aC.view (eff.apply h)=eff.view h.view h.length:=by
 cases eff with
 | none=>rfl
 | new o=>exact Fk h o
 | fk id o=>exact kf (iS (hl id (by simp[bA.wr])))
 | fa id o =>
  have:=iS (hl id (by simp[bA.wr]))
  simp only[bA.apply,bA.view]
  rw[Fk,kf this]
  simp
theorem hX (h:aC) (eff:bA):(eff.apply h).length=h.length+(match eff with | .new _ | .fa _ _=>1 | _=>0):=by
 cases eff <;> simp[bA.apply]
theorem nq {P:Program} {o:Oper} {T:Env} {H:View} {n:Nat} {v:V} {eff:bA} {rd:List Nat} (h:cp P o T H n=some (v,eff,rd)):∀ id,id∈eff.wr→H id≠.dead∧id∈rd:=by
 have b:∀ {v':V} {e:bA} {r:List Nat},e.wr=[]→some (v',e,r)=some (v,eff,rd)→∀ id,id∈eff.wr→H id≠.dead∧id∈rd:=by
  intro v' e r he heq id c
  simp only[Xe,Xh] at heq
  obtain ⟨_,rfl,_⟩:=heq
  rw[he] at c; simp at c
 have pu:dQ P o T=some (v,eff,rd)→∀ id,id∈eff.wr→H id≠.dead∧id∈rd:=by
  intro h
  unfold dQ at h
  split at h
  ·split at h
   ·split at h
    ·exact b rfl h
    ·simp at h
   ·simp at h
  ·simp at h
 have up:∀ {id:Nat} {d:c6} {v':V} {r:List Nat},H id≠.dead→id∈r→some (v',bA.fk id d,r)=some (v,eff,rd)→∀ i,i∈eff.wr→H i≠.dead∧i∈rd:=by
  intro id d v' r h1 g heq i hi
  simp only[Xe,Xh] at heq
  obtain ⟨_,rfl,rfl⟩:=heq
  simp[bA.wr] at hi; subst hi; exact ⟨h1,g⟩
 have k:∀ {id:Nat} {d:c6} {v':V} {r:List Nat},H id≠.dead→id∈r→some (v',bA.fa id d,r)=some (v,eff,rd)→∀ i,i∈eff.wr→H i≠.dead∧i∈rd:=by
  intro id d v' r h1 g heq i hi
  simp only[Xe,Xh] at heq
  obtain ⟨_,rfl,rfl⟩:=heq
  simp[bA.wr] at hi; subst hi; exact ⟨h1,g⟩
 have j:∀ {cs:List V},mG cs n=some (v,eff,rd)→∀ id,id∈eff.wr→H id≠.dead∧id∈rd:=by
  intro cs h
  unfold mG at h
  split at h
  ·exact b rfl h
  ·simp at h
 have mp:∀ {α:Type} {x:Option α} {f:α→V} {r:List Nat},(x.map fun a=>(f a,bA.none,r))=some (v,eff,rd)→∀ id,id∈eff.wr→H id≠.dead∧id∈rd:=by
  intro α x f r h
  simp only[Xn] at h
  obtain ⟨a,_,h⟩:=h
  exact b rfl (YA some h)
 unfold cp at h
 split at h
 ·exact b rfl h
 ·exact b rfl h
 ·split at h
  ·exact b rfl h
  ·simp at h
 ·split at h
  ·exact j h
  ·simp at h
 ·exact j h
 ·unfold wD at h
  split at h
  ·split at h
   ·exact mp h
   ·simp at h
  ·simp at h
 ·unfold iM at h
  repeat' (split at h)
  all_goals first | exact b rfl h | (simp at h; done)
 ·unfold na at h
  repeat' (split at h)
  all_goals first | exact mp h | (simp at h; done)
 ·unfold rG at h
  split at h
  ·split at h
   ·rename_i hH
    split at h
    ·exact up (by rw[hH]; simp) (by simp) h
    ·simp at h
   ·simp at h
  ·simp at h
 ·repeat' (split at h)
  all_goals first | exact b rfl h | (simp at h; done)
 ·unfold mf at h
  repeat' (split at h)
  all_goals first | exact b rfl h | (simp at h; done)
 ·unfold wH at h
  split at h
  ·exact mp h
  ·simp at h
 ·unfold ml at h
  repeat' (split at h)
  all_goals first | exact b rfl h | (simp at h; done)
 ·split at h
  ·exact pu h
  ·unfold tj at h
   repeat' (split at h)
   all_goals first | exact b rfl h | (simp at h; done)
 ·unfold mc at h
  repeat' (split at h)
  all_goals first | exact b rfl h | (simp at h; done)
 ·repeat' (split at h)
  all_goals first | exact b rfl h | (simp at h; done)
 ·exact b rfl h
 ·unfold gf at h
  simp only at h
  repeat' (split at h)
  all_goals first | exact b rfl h | (simp at h; done)
 ·unfold fy at h
  split at h
  ·split at h
   ·rename_i hH
    repeat' (split at h)
    all_goals first | exact up (by rw[hH]; simp) (by simp) h | (simp at h; done)
   ·simp at h
  ·simp at h
 ·unfold fy at h
  split at h
  ·split at h
   ·rename_i hH
    repeat' (split at h)
    all_goals first | exact up (by rw[hH]; simp) (by simp) h | (simp at h; done)
   ·simp at h
  ·simp at h
 ·unfold ey at h
  split at h
  ·split at h
   ·rename_i hH
    repeat' (split at h)
    all_goals first | exact up (by rw[hH]; simp) (by simp) h | (simp at h; done)
   ·simp at h
  ·simp at h
 ·unfold kG at h
  split at h
  ·split at h
   ·rename_i hH
    repeat' (split at h)
    all_goals first | exact up (by rw[hH]; simp) (by simp) h | (simp at h; done)
   ·simp at h
  ·simp at h
 ·repeat' (split at h)
  all_goals first | exact b rfl h | (simp at h; done)
 ·repeat' (split at h)
  all_goals first | exact b rfl h | (simp at h; done)
 ·unfold C5 at h
  split at h
  ·split at h
   ·rename_i hH
    split at h
    ·exact up (by rw[hH]; simp) (by simp) h
    ·exact b rfl h
   ·simp at h
  ·simp at h
 ·split at h
  ·unfold nA at h
   split at h
   ·repeat' (split at h)
    all_goals first | exact mp h | exact b rfl h | (simp at h; done)
   ·repeat' (split at h)
    all_goals first | exact mp h | exact b rfl h | (simp at h; done)
   ·split at h
    ·split at h
     ·split at h
      ·rename_i hH
       exact up (by rw[hH]; simp) (by simp) h
      ·simp at h
     ·simp at h
    ·simp at h
   ·simp at h
  ·exact pu h
 ·split at h
  ·split at h
   ·unfold uN at h
    repeat' (split at h)
    all_goals first | exact mp h | exact b rfl h | (simp at h; done)
   ·simp at h
  ·split at h
   ·unfold nM at h
    split at h
    ·split at h
     ·simp at h
     ·split at h
      ·split at h
       all_goals first | exact b rfl h | (simp at h; done)
      ·split at h
       ·simp at h
       ·split at h
        ·split at h
         ·exact b rfl h
         ·simp at h
        ·split at h
         ·rename_i hH
          split at h
          ·exact k (by rw[hH]; simp) (by simp) h
          ·simp at h
         ·simp at h
        ·simp at h
    ·simp at h
   ·split at h
    ·unfold wX at h
     split at h
     ·split at h
      ·split at h
       ·exact b rfl h
       ·split at h
        ·exact b rfl h
        ·simp at h
      ·simp at h
     ·simp at h
    ·simp at h
  ·split at h
   ·unfold G2 at h
    split at h
    ·exact b rfl h
    ·simp at h
   ·simp at h
  ·split at h
   ·unfold xH at h
    split at h
    ·split at h
     ·simp at h
     ·split at h
      ·exact b rfl h
      ·split at h
       ·split at h
        ·rename_i hH
         split at h
         ·exact up (by rw[hH]; simp) (by simp) h
         ·simp at h
        ·simp at h
       ·simp at h
    ·simp at h
   ·simp at h
  ·split at h
   ·unfold vJ at h
    split at h
    ·split at h
     ·rename_i hH
      repeat' (split at h)
      all_goals first | exact up (by rw[hH]; simp) (by simp) h | exact b rfl h | (simp at h; done)
     ·simp at h
    ·simp at h
   ·simp at h
  ·split at h
   ·unfold vV at h
    split at h
    ·split at h
     ·exact b rfl h
     ·split at h
      ·split at h
       ·rename_i hH
        split at h
        ·exact up (by rw[hH]; simp) (by simp) h
        ·simp at h
       ·simp at h
      ·simp at h
    ·simp at h
   ·simp at h
  ·exact pu h
  ·exact pu h
  ·exact pu h
  ·exact pu h
  ·exact pu h
  ·simp at h
 ·split at h
  ·split at h
   ·exact b rfl h
   ·exact b rfl h
   ·simp at h
  ·exact pu h
 ·exact pu h
 ·exact pu h
 ·simp at h
section
variable {P:Program} {n:Nat} {all:List Oper} {Z:Nat→Prop} {μ:Mu} {w:World}
theorem iH.congr {H H':View} {hp:Array Obj} (h:iH Z μ hp H) (e:∀ id,μ id≠none→H' id=H id):iH Z μ hp H':=by
 refine ⟨fun id=>?_,fun i j b o s g k d hi f=>?_,h.lt,h.cQ,h.ie⟩
 ·by_cases hm:μ id=none
  ·cases hH:H' id with
   | dead=>trivial
   | arr esz es=>intro b o0 s a; rw[hm] at a; simp at a
   | map es c=>intro b o0 s a; rw[hm] at a; simp at a
   | xm s p=>intro b o0 t a; rw[hm] at a; simp at a
  ·rw[e id hm]; exact h.obj id
 ·rw[e i (by rw[hi]; simp),e j (by rw[f]; simp)]
  exact h.inj i j b o s g k d hi f
def jL (H:View) (h h':aC) (wr:List Nat):View:=fun id=>if id∈wr∨(h.length≤id∧id < h'.length) then h'.view id else H id
theorem nj.ext {μ':Mu} {w':World} {eff:bA} {m:Nat} (he:nj Z μ μ' w.heap w'.heap m eff) (hs:eM w w') (q:eff.fresh (μ m=none)) (cQ:∀ b,Z b→b < w.heap.size) (ie:∀ id b o s,μ id=some (b,o,s)→¬ Z b) :
  Ext Z μ w m Z μ' w'∧(∀ id,(∀ (_:¬ (match eff with | .new _ | .fa _ _=>id=m | _=>False)),μ' id=μ id)):=by
 have hm:=he.mono q cQ ie
 cases eff with
 | none =>
  obtain ⟨rfl,f⟩:=he
  exact ⟨⟨hs,hm,fun b k _=>f b k (fun x=>x),fun _ h=>.inl h,fun _ _ _ _ h=>.inl h⟩,fun _ _=>rfl⟩
 | new o =>
  obtain ⟨b,o0,s,r,t,rfl,f,_⟩:=he
  refine ⟨⟨hs,hm,fun b k _=>f b k (fun x=>x),fun _ h=>.inl h,fun id g u v d=>?_⟩,fun id i=>by simp[Mu.set]; intro e; exact absurd e i⟩
  by_cases e:id=m
  ·subst e; simp[Mu.set] at d; exact .inr ⟨Xo _,.inl (by omega)⟩
  ·simp[Mu.set,e] at d; exact .inl d
 | fk id o =>
  obtain ⟨b,o0,s,a,rfl,f,_,_⟩:=he
  exact ⟨⟨hs,hm,fun g c j=>f g c (fun e=>j ⟨id,o0,s,e ▸ a⟩),fun _ h=>.inl h,fun _ _ _ _ h=>.inl h⟩,fun _ _=>rfl⟩
 | fa id o =>
  obtain ⟨b,o0,s,rfl,_,p⟩:=he
  refine ⟨⟨hs,hm,?_,fun _ h=>.inl h,fun l g u v d=>?_⟩,fun id i=>by simp[Mu.set]; intro e; exact absurd e i⟩
  ·rcases p with h1 | ⟨⟨n,s1,a⟩,f,_⟩
   ·exact fun g c _=>h1.2.2 g c (fun x=>x)
   ·exact fun g c j=>f g c (fun e=>j ⟨id,n,s1,e ▸ a⟩)
  ·by_cases e:l=m
   ·subst e
    simp[Mu.set] at d
    obtain ⟨rfl,_,_⟩:=d
    rcases p with h1 | ⟨⟨n,s1,a⟩,_,_⟩
    ·exact .inr ⟨Xo _,.inl h1.1⟩
    ·exact .inr ⟨Xo _,.inr ⟨id,n,s1,a⟩⟩
   ·simp[Mu.set,e] at d; exact .inl d
theorem HI {f:FuncId} {args:Array Value} (h:dJ P f=true):(callFunc f args).run P w=.ok (.enter f args) w:=by
 unfold dJ at h
 split at h
 ·rename_i fn a
  simp only[Xl,Zk,ne_eq] at h
  have h1:(fn.name == "runtime.NumGoroutine")=false:=by simpa using h.1
  have e:fn.body.isNone=false:=by cases b:fn.body <;> simp_all
  have c:¬ (fn.name = "runtime.NumGoroutine"):=by simpa using h.1
  have d:¬ (fn.body=none):=by cases b:fn.body <;> simp_all
  simp[callFunc,a,c,d]
 ·simp at h
theorem pC {ops:Array Oper} (g:ops=all.toArray) {a:Act} (k:a.tmps.size=n) {T:Env} {o:Oper} {t:Bool} (e:dH n all T o=some t)
  (f:∀ j want d,o.guard=some (j,want)→(all[j]?).bind (·.dst)=some d→az Z μ w.heap (T d) (a.tmps.getD d undef)):Region.wanted o (yielded ops a.tmps)=t:=by
 unfold dH at e
 unfold Region.wanted
 cases i:o.guard with
 | none=>simp[i] at e; subst e; rfl
 | some p =>
  obtain ⟨j,want⟩:=p
  simp only[i] at e ⊢
  cases hd:(all[j]?).bind (·.dst) with
  | none=>simp[hd] at e
  | some d =>
   simp only[hd] at e
   split at e
   ·rename_i l
    have h:=f j want d i hd
    split at e
    ·rename_i b q
     rw[q] at h
     have h:=fq h
     simp only[Xe] at e
     subst e
     have c:d < a.tmps.size:=k ▸ l
     simp only[Xp,Xx c,Xu] at h
     have:yielded ops a.tmps j=some b:=by
      unfold yielded
      subst g
      simp only[Yd,hd,XS,Xx c,h]
     rw[this]
     cases b <;> cases want <;> rfl
    ·rename_i q
     rw[q] at h
     have c:d < a.tmps.size:=k ▸ l
     generalize m:a.tmps.getD d undef=x at h
     cases h with
     | bp _ r h1 u =>
      simp only[Xe] at e
      subst e
      have s:a.tmps[d]?=some (.tuple r):=by
       rw[Xx c]
       simp only[Xp,Xx c,Xu] at m
       rw[m]
      have:yielded ops a.tmps j=none:=by
       unfold yielded
       subst g
       simp only[Yd,hd,XS,s]
      rw[this]
      rfl
    ·simp at e
   ·simp at e
theorem yV {ops:Array Oper} (B:ops=all.toArray) {i:Nat} {o:Oper} (hi:ops[i]?=some o) {T:Env} {h X:aC} {v:V} {rd wr:List Nat} {call:Bool} (st:dR P n all o T h v X rd wr call) {a:Act} {H:View}
  (G:a.tmps.size=n) (m:∀ j want d,o.guard=some (j,want)→(all[j]?).bind (·.dst)=some d→az Z μ w.heap (T d) (a.tmps.getD d undef))
  (hT:∀ x∈o.op.operands,az Z μ w.heap (ev T x) (a.eval x)) (hr:iH Z μ w.heap H) (bn:∀ id,id∈rd→μ id≠none→H id=h.view id)
  (I:call=true→∀ id,id < h.length→μ id≠none→H id=h.view id) (J:∀ id,h.length≤id→id < X.length→μ id=none)
  {K:Act→World→Prop} {Q:Exit→Act→World→Prop}
  (hK:∀ x w' Z' μ',az Z' μ' w'.heap v x→iH Z' μ' w'.heap (jL H h X wr)→Ext Z μ w h.length Z' μ' w'→(∀ id,id < h.length∨X.length≤id→μ' id=μ id)→K (a.put o.dst x) w') :
  wpOp P ops Q i K a w:=by
 unfold wpOp
 rw[hi]
 cases st with
 | skip R =>
  have:=pC (w:=w) B G R m
  simp only[this,Xz,if_false]
  refine hK undef w Z μ (.bp _ _ rfl (fun i hi=>by simp at hi)) (hr.congr fun id c=>?_) (Ext.refl _ _ _ _) (fun _ _=>rfl)
  unfold jL
  rw[Xd]
  rintro (h1 | h1)
  ·simp at h1
  ·omega
 | op R bq =>
  rename_i eff
  have:=pC (w:=w) B G R m
  simp only[this,if_true]
  left
  have D:=nq bq
  have b4:=mg (fun id c=>(D id c).1)
  have hlen:=hX h eff
  have Y:eff.fresh (μ h.length=none):=by
   cases eff with
   | new o=>exact J _ (Xo _) (by rw[hlen]; simp)
   | fa k o=>exact J _ (Xo _) (by rw[hlen]; simp)
   | _=>trivial
  ·have br:Ctx Z μ w.heap h.view rd h.length eff:=by
    refine ⟨Y,fun id c=>?_,hr.lt,hr.cQ,hr.ie⟩
    by_cases hm:μ id=none
    ·have:=(iH.congr (H':=fun k=>if k=id then h.view id else H k) hr (fun k hk=>by
      split
      ·rename_i e; subst e; exact absurd hm hk
      ·rfl)).obj id
     simpa using this
    ·rw[← bn id c hm]; exact hr.obj id
   obtain ⟨nx,w',μ',t,bx,l,u⟩:=Va bq hT br
   have hex:=u.ext l Y hr.cQ hr.ie
   have L:iH Z μ' w'.heap (jL H h (eff.apply h) eff.wr):=by
    have M:∀ id,id∈eff.wr→μ id≠none→H id≠.dead:=fun id c hm=>by
     rw[bn id (D id c).2 hm]; exact (D id c).1
    have b0:∀ id o,(eff=.fk id o∨eff=.fa id o)→H id≠.dead∨μ id=none:=by
     rintro id o (rfl | rfl)
     ·by_cases hm:μ id=none
      ·exact .inr hm
      ·exact .inl (M id (by simp[bA.wr]) hm)
     ·by_cases hm:μ id=none
      ·exact .inr hm
      ·exact .inl (M id (by simp[bA.wr]) hm)
    have h2:iH Z μ w.heap (fun k=>if μ k=none then .xm .empty 0 else H k):=hr.congr (fun k hk=>by simp[hk])
    have h3:=h2.eff Y l.size u (fun id o e=>by
     split
     ·simp
     ·rename_i hk; exact (b0 id o (.inl e)).resolve_right hk) (fun id o e=>by
     split
     ·simp
     ·rename_i hk; exact (b0 id o (.inr e)).resolve_right hk)
    refine h3.congr (fun id c=>?_)
    unfold jL
    rw[b4]
    cases eff with
    | none =>
     obtain ⟨rfl,_⟩:=u
     simp only[bA.wr,bA.apply,bA.view,List.not_mem_nil,false_or]
     rw[Xd (by omega),Xd c]
    | new o =>
     obtain ⟨b,o0,s,_,_,rfl,_⟩:=u
     simp only[bA.wr,bA.view,View.set,List.not_mem_nil,false_or]
     by_cases e:id=h.length
     ·subst e; rw[Xg ⟨Xo _,by rw[hlen]; simp⟩,Xg rfl,Xg rfl]
     ·rw[Xd (by rw[hlen]; simp only; omega),Xd e]
      have:μ id≠none:=by simpa [Mu.set,e] using c
      rw[Xd this]
    | fk k o =>
     obtain ⟨b,o0,s,_,rfl,_⟩:=u
     simp only[bA.wr,bA.view,View.set,X8]
     by_cases e:id=k
     ·subst e; rw[Xg (.inl rfl),Xg rfl,Xg rfl]
     ·rw[Xd (by rw[hlen]; simp only; omega),Xd e,Xd c]
    | fa k o =>
     obtain ⟨b,o0,s,rfl,_⟩:=u
     simp only[bA.wr,bA.view,View.set,X8]
     by_cases e:id=h.length
     ·subst e; rw[Xg (.inr ⟨Xo _,by rw[hlen]; simp⟩),Xg rfl,Xg rfl]
     ·by_cases e2:id=k
      ·subst e2; rw[Xg (.inl rfl),Xd e,Xg rfl,Xd e,Xg rfl]
      ·rw[Xd (by rw[hlen]; simp only; omega),Xd e,Xd e2]
       have:μ id≠none:=by simpa [Mu.set,e] using c
       rw[Xd this]
   have C:∀ id,id < h.length∨(eff.apply h).length≤id→μ' id=μ id:=by
    intro id c
    refine hex.2 id (fun S=>?_)
    cases eff with
    | none=>exact S
    | new o=>simp only at S; subst S; rw[hlen] at c; simp at c; omega
    | fk k o=>exact S
    | fa k o=>simp only at S; subst S; rw[hlen] at c; simp at c; omega
   unfold Oper.wp
   rw[t]
   rcases bx with ⟨x,rfl,hv⟩ | ⟨rfl,rfl⟩
   ·exact hK x w' Z μ' hv L hex.1 C
   ·exact hK undef w' Z μ' (.any _) L hex.1 C
 | jQ R U an =>
  rename_i e x
  have:=pC (w:=w) B G R m
  simp only[this,if_true]
  left
  have z:=hT x (by rw[U]; simp[Op.operands])
  have b1:=hU z an
  have t:(execOp a.eval o).run P w=.ok (.value (.pointer (some ⟨w.heap.size,0,none⟩))) (w.alloc (.cells (a.eval x).cells e)):=by
   unfold execOp
   rw[U]
   simp[Instr.box,newVar,newRow]
  unfold Oper.wp
  rw[t]
  have A:gF w.heap (w.alloc (.cells (a.eval x).cells e)).heap (fun _=>False):=eQ _ _
  have b2:(w.alloc (.cells (a.eval x).cells e)).heap.size=w.heap.size+1:=by rw[heap_alloc]; simp
  have hm:ix Z (fun b=>Z b∨b=w.heap.size) μ μ w.heap (w.alloc (.cells (a.eval x).cells e)).heap:=⟨fun _ h=>.inl h,fun b r=>A b (hr.cQ b r) (fun x=>x),fun _ _ h=>h,A.rv⟩
  have l:eM w (w.alloc (.cells (a.eval x).cells e)):=ju _ _
  have aq:jL H h h []=H:=by
   funext id
   unfold jL
   rw[Xd]
   rintro (h1 | h1)
   ·simp at h1
   ·omega
  refine hK _ _ (fun b=>Z b∨b=w.heap.size) μ ?_ (aq.symm ▸ ⟨fun id=>?_,hr.inj,fun id b o s z=>XM (hr.lt _ _ _ _ z) l.size,fun b r=>?_,fun id b o s z ar=>?_⟩)
   ⟨l,hm,fun b r _=>A b r (fun x=>x),fun b r=>?_,fun _ _ _ _ h=>.inl h⟩ (fun _ _=>rfl)
  ·have:=az.aJ (Z:=fun b=>Z b∨b=w.heap.size) (μ:=μ) (hp:=(w.alloc (.cells (a.eval x).cells e)).heap) (ev T x).cells 0 w.heap.size 0 (fun k=>(a.eval x).cells.toList.getD k undef) (.inr rfl) (fun k hk=>?_) (fun k hk=>(b1.2 k hk).mono hm)
   ·simpa using this
   ·have a1:k < (a.eval x).cells.size:=by have:=b1.1; simp at this; omega
    simp[cellAt,heap_alloc,Xb,a1]
  ·exact (hr.obj id).mono hm rfl (fun b o s z=>A b (hr.lt _ _ _ _ z) (fun x=>x))
  ·rcases r with r | rfl
   ·exact XM (hr.cQ b r) l.size
   ·omega
  ·rcases ar with r | rfl
   ·exact hr.ie _ _ _ _ z r
   ·have:=hr.lt _ _ _ _ z; omega
  ·rcases r with r | rfl
   ·exact .inl r
   ·exact .inr (Xo _)
 | gH R U hs hd he b5 =>
  rename_i s d e x st
  have:=pC (w:=w) B G R m
  simp only[this,if_true]
  left
  have z:=hT x (by rw[U]; simp[Op.operands])
  rw[b5] at z
  have b7:=fq z
  have W:st.size≤grownCap w st.size 0 e:=by unfold grownCap Question.cut; exact Nat.le_add_right _ _
  have t:=run_bytes_of_string w s d e st hs hd he
  generalize cg:grownCap w st.size 0 e=cap at t W
  have b8:(bytesRow st cap).size=cap:=by
   simp only[bytesRow,Array.size_append,Array.size_map,Array.size_replicate]
   have:st.data.size=st.size:=rfl
   omega
  have a6:(execOp a.eval o).run P w=.ok (.value (.slice (some ⟨w.heap.size,0,none⟩) st.size cap)) (w.drew.alloc (.cells (bytesRow st cap) e (cap,cap+1))):=by
   unfold execOp
   rw[U]
   simp only[b7,Sem.run_bind,t,Result.andThen_ok,Sem.run_pure]
   rw[b8]
  unfold Oper.wp
  rw[a6]
  have E:(w.drew.alloc (.cells (bytesRow st cap) e (cap,cap+1))).heap=w.heap.push (.cells (bytesRow st cap) e (cap,cap+1)):=by rw[heap_alloc,fg]
  have A:gF w.heap (w.drew.alloc (.cells (bytesRow st cap) e (cap,cap+1))).heap (fun _=>False):=by rw[E]; exact eQ _ _
  have b2:(w.drew.alloc (.cells (bytesRow st cap) e (cap,cap+1))).heap.size=w.heap.size+1:=by rw[E]; simp
  have hm:ix Z (fun b=>Z b∨b=w.heap.size) μ μ w.heap (w.drew.alloc (.cells (bytesRow st cap) e (cap,cap+1))).heap:=⟨fun _ h=>.inl h,fun b r=>A b (hr.cQ b r) (fun x=>x),fun _ _ h=>h,A.rv⟩
  have l:eM w (w.drew.alloc (.cells (bytesRow st cap) e (cap,cap+1))):=kZ _ _
  have aq:jL H h h []=H:=by
   funext id
   unfold jL
   rw[Xd]
   rintro (h1 | h1)
   ·simp at h1
   ·omega
  refine hK _ _ (fun b=>Z b∨b=w.heap.size) μ ?_ (aq.symm ▸ ⟨fun id=>?_,hr.inj,fun id b o s z=>XM (hr.lt _ _ _ _ z) l.size,fun b r=>?_,fun id b o s z ar=>?_⟩)
   ⟨l,hm,fun b r _=>A b r (fun x=>x),fun b r=>?_,fun _ _ _ _ h=>.inl h⟩ (fun _ _=>rfl)
  ·have hl:(gX st).length=st.size:=by rw[gX,Xj,bsize]
   have:=az.aE (Z:=fun b=>Z b∨b=w.heap.size) (μ:=μ) (hp:=(w.drew.alloc (.cells (bytesRow st cap) e (cap,cap+1))).heap) (gX st) w.heap.size 0 1 cap (fun i _=>.int .u8 ((st.data.toList.getD i 0).toNat)) (.inr rfl) (by rw[hl]; exact W) ?_ ?_ ?_
   ·rw[hl] at this; exact this
   ·intro i hi
    have F:i < st.data.toList.length:=by simpa [gX] using hi
    simp only[gX,Xb,Xf,Xc F,Xk,Xu,Xt,XN]
   ·intro i j hi hj
    obtain rfl:j=0:=by omega
    have F:i < st.data.size:=by simpa [gX] using hi
    rw[E]
    simp only[cellAt,Array.getElem?_push_size,bytesRow,Nat.mul_one,Y2,Yi]
    rw[YE (by simpa using F),Array.getElem?_map,Xx F]
    simp[Xb,Xx F]
   ·intro i j hi hj
    obtain rfl:j=0:=by omega
    have F:i < st.data.size:=by simpa [gX] using hi
    simp only[gX,Xb,Xf,Array.getElem?_toList,Xx F,Xk,Xu,XG]
    exact .val _ rfl
  ·exact (hr.obj id).mono hm rfl (fun b o s z=>A b (hr.lt _ _ _ _ z) (fun x=>x))
  ·rcases r with r | rfl
   ·exact XM (hr.cQ b r) l.size
   ·omega
  ·rcases ar with r | rfl
   ·exact hr.ie _ _ _ _ z r
   ·have:=hr.lt _ _ _ _ z; omega
  ·rcases r with r | rfl
   ·exact .inl r
   ·exact .inr (Xo _)
 | call R U hf an S hw b9 =>
  rename_i f args ch g first cap
  have:=pC (w:=w) B G R m
  simp only[this,if_true]
  left
  have a7:∀ x∈args.toList,az Z μ w.heap (ev T x) (a.eval x):=fun x z=>hT x (by rw[U]; simp[Op.operands,Call.operands]; right; simpa using z)
  have a8:=hT f (by rw[U]; simp[Op.operands,Call.operands])
  rw[hf] at a8
  generalize ca:a.eval f=fx at a8
  cases a8 with
  | fn _ _ _ N bs h1 h2 h3 h4 =>
   have t:(execOp a.eval o).run P w=.ok (.enter g (N ++ args.map a.eval ++ bs)) w:=by
    unfold execOp
    rw[U]
    simp only[resolve,ca,Deferred.ofValue,Sem.run_bind,Sem.run_pure,Result.andThen_ok,invoke,HI an]
   unfold Oper.wp
   rw[t]
   show Calls P g (N ++ args.map a.eval ++ bs) w _
   have cc:(N ++ args.map a.eval ++ bs)=(N.toList ++ args.toList.map a.eval ++ bs.toList).toArray:=by
    apply Array.ext'; simp
   rw[cc]
   have bb:gA Z μ w.heap (first ++ args.toList.map (ev T) ++ cap) (N.toList ++ args.toList.map a.eval ++ bs.toList):=by
    have app:∀ {p q:List V} {x y:List Value},gA Z μ w.heap p x→gA Z μ w.heap q y→gA Z μ w.heap (p ++ q) (x ++ y):=by
     intro p q x y hp hq
     refine ⟨by simp[hp.1,hq.1],fun k hk=>?_⟩
     simp only[Xb]
     by_cases bd:k < p.length
     ·rw[XA bd,XA (hp.1 ▸ bd)]
      simpa only [Xb] using hp.2 k bd
     ·rw[XP (by omega),XP (by rw[← hp.1]; omega),← hp.1]
      simpa only [Xb] using hq.2 (k - p.length) (by simp at hk; omega)
    refine app (app ⟨by simpa using h1,fun k hk=>?_⟩ ⟨by simp,fun k hk=>?_⟩) ⟨by simpa using h2,fun k hk=>?_⟩
    ·simpa [Xb,Xp] using h3 k hk
    ·have a1:k < args.toList.length:=by simpa using hk
     have:=a7 args.toList[k] (Xm _)
     simp only[Xb,Xf,Xc a1,Xk,Xu]
     exact this
    ·simpa [Xb,Xp] using h4 k hk
   have b3:iH Z μ w.heap (cat h H):=hr.congr (fun id c=>by
    unfold cat; split
    ·rename_i cf; exact (I rfl id cf c).symm
    ·rfl)
   refine (S.2 Z μ H w _ bb b3 J).mono ?_
   rintro e w' ⟨x,Z',μ',rfl,hv,hh,hex,C⟩
   refine hK x w' Z' μ' hv (hh.congr fun id c=>?_) hex C
   unfold jL cat
   by_cases O:id∈wr∨(h.length≤id∧id < X.length)
   ·rw[Xg O]
    rcases O with h5 | h5
    ·by_cases hl:id < X.length
     ·rw[Xg hl]
     ·exact absurd (XM (b9 id h5) S.1) hl
    ·rw[Xg h5.2]
   ·rw[Xd O]
    by_cases hl:id < X.length
    ·rw[Xg hl]
     have bl:id < h.length:=by
      rcases XB id h.length with h6 | h6
      ·exact h6
      ·exact absurd (.inr ⟨h6,hl⟩) O
     rw[hw id bl (fun q=>O (.inl q))]
     exact I rfl id bl (by rw[← C id (.inl bl)]; exact c)
    ·rw[Xd hl]
end
structure Rec where
 rd:List Nat
 wr:List Nat
 call:Bool
 lo:Nat
 hi:Nat
inductive Tr (P:Program) (n:Nat) (all:List Oper):List Oper→Env→aC→List Rec→Env→aC→Prop
 | nil {T:Env} {h:aC} : Tr P n all [] T h [] T h
 | cons {o:Oper} {rest:List Oper} {T T':Env} {h h1 h':aC} {v:V} {rd wr:List Nat} {call:Bool} {recs:List Rec} : dR P n all o T h v h1 rd wr call→sD n o=true →
  Tr P n all rest (T.put o.dst v) h1 recs T' h'→Tr P n all (o :: rest) T h (⟨rd,wr,call,h.length,h1.length⟩ :: recs) T' h'
def mask (o:Oper) (acc:List Nat):Nat:=o.after.toList.foldl (fun s e=>if Region.binds .any e then s ||| 2 ^ e.on ||| acc.getD e.on 0 else s) 0
def fW:List Oper→List Nat→List Nat
 | [],acc=>acc
 | o :: r,acc=>fW r (acc ++ [mask o acc])
def tmpsOf (o:Oper):List Nat:=o.op.operands.toList.filterMap fun | .tmp t=>some t | _=>none
def oM (all:List Oper) (o:Oper):List Nat:=o.dst.toList ++ tmpsOf o ++ (match o.guard with
 | some (j,_)=>((all[j]?).bind (·.dst)).toList
 | none=>[])
def Md (d:Option Nat) (l:List Nat):Bool:=match d with
 | some t=>!l.contains t
 | none=>true
def ordered (b:List Nat) (i k:Nat):Bool:=(b.getD k 0).testBit i
def mQ (all:List Oper):Bool :=
 let b:=fW all []
 all.zipIdx.all fun (ok,k) =>
  (ok.after.toList.all fun e=>!Region.binds .any e || decide (e.on < k)) &&
  all.zipIdx.all fun (oi,i)=>!decide (i < k) || ordered b i k || (Md oi.dst (oM all ok) && Md ok.dst (oM all oi))
structure pr (a b:Rec):Prop where
 VW:∀ id,id∈a.wr→¬ id∈b.rd
 Vh:∀ id,id∈b.wr→¬ id∈a.rd
 Vy:a.call=true→b.wr=[]
 call2:b.call=true→a.wr=[]
 new:∀ id,id∈b.wr→¬ (a.lo≤id∧id < a.hi)
def uQ (all:List Oper) (recs:List Rec):Prop:=∀ i k a b,i < k→recs[i]?=some a→recs[k]?=some b→ordered (fW all []) i k=false→pr a b
theorem FI (l:List Edge) (acc:List Nat) (s j:Nat):(l.foldl (fun s e=>if Region.binds .any e then s ||| 2 ^ e.on ||| acc.getD e.on 0 else s) s).testBit j=true →
  s.testBit j=true∨∃ e∈l,Region.binds .any e=true∧(j=e.on∨(acc.getD e.on 0).testBit j=true):=by
 induction l generalizing s with
 | nil=>intro h; exact .inl h
 | cons e l c =>
  intro h
  simp only[XC] at h
  rcases c _ h with h1 | ⟨e',b,d⟩
  ·by_cases a:Region.binds .any e=true
   ·rw[Xg a,Nat.testBit_or,Nat.testBit_or,Nat.testBit_two_pow] at h1
    simp only[Yp,Xr] at h1
    rcases h1 with (h1 | h1) | h1
    ·exact .inl h1
    ·exact .inr ⟨e,Zf,a,.inl h1.symm⟩
    ·exact .inr ⟨e,Zf,a,.inr h1⟩
   ·rw[Xd a] at h1; exact .inl h1
  ·exact .inr ⟨e',XJ _ b,d⟩
theorem Bq:∀ (l:List Oper) (acc:List Nat) (k:Nat),k < acc.length→(fW l acc).getD k 0=acc.getD k 0
 | [],acc,k,_=>rfl
 | o :: r,acc,k,h=>by
  rw[fW,Bq r _ k (by simp; omega)]
  simp[Xb,XA h]
theorem Ej:∀ (l:List Oper) (acc:List Nat) (k:Nat) (o:Oper),l[k]?=some o→∃ a,(fW l acc).getD (acc.length+k) 0=mask o a∧a.length=acc.length+k∧∀ m,m < a.length→a.getD m 0=(fW l acc).getD m 0
 | [],acc,k,o,h=>by simp at h
 | p :: r,acc,0,o,h=>by
  simp at h; subst h
  refine ⟨acc,?_,by simp,fun m hm=>?_⟩
  ·rw[fW,Bq r _ _ (by simp)]
   simp[Xb]
  ·rw[fW,Bq r _ _ (by simp; omega)]
   simp[Xb,XA hm]
 | p :: r,acc,k+1,o,h=>by
  have b:r[k]?=some o:=by simpa using h
  obtain ⟨a,h1,c,d⟩:=Ej r (acc ++ [mask p acc]) k o b
  refine ⟨a,?_,by simp at c; omega,fun m hm=>?_⟩
  ·rw[fW]
   have e:(acc ++ [mask p acc]).length+k=acc.length+(k+1):=by simp; omega
   rw[← e]; exact h1
  ·rw[fW]; exact d m hm
theorem x5 {all:List Oper} {L:Nat→Prop} (m:∀ k o,all[k]?=some o→∀ e∈o.after.toList,Region.binds .any e=true→e.on < k)
  (n:∀ k o,all[k]?=some o→L k→∀ e∈o.after.toList,Region.binds .any e=true→L e.on):∀ k o j,all[k]?=some o→L k→ordered (fW all []) j k=true→L j:=by
 intro k
 induction k using Nat.strongRecOn with
 | _ k p =>
  intro o j hk d f
  unfold ordered at f
  obtain ⟨i,h1,q,r⟩:=Ej all [] k o hk
  simp only[XN,Yi] at h1 q
  rw[h1] at f
  rcases FI _ _ _ _ f with a | ⟨e,he,b,a⟩
  ·simp at a
  ·have g:=m k o hk e he b
   have c:=n k o hk d e he b
   rcases a with a | a
   ·rw[a]; exact c
   ·have l:k < all.length:=by
     rcases XB k all.length with h | h
     ·exact h
     ·simp[XL h] at hk
    refine p e.on g _ j (Xc (by omega)) c ?_
    unfold ordered
    rw[← r e.on (by omega)]
    exact a
theorem G6 {all:List Oper} {L:Nat→Prop} (g:∀ k o,all[k]?=some o→∀ e∈o.after.toList,Region.binds .any e=true→e.on < k)
  (l:∀ k o,all[k]?=some o→L k→∀ e∈o.after.toList,Region.binds .any e=true→L e.on) {k:Nat} {o:Oper} (hk:all[k]?=some o) (hr:∀ e∈o.after.toList,Region.binds .any e=true→L e.on)
  {j:Nat} (d:ordered (fW all []) j k=true):L j:=by
 unfold ordered at d
 obtain ⟨h,h1,m,n⟩:=Ej all [] k o hk
 simp only[XN,Yi] at h1 m
 rw[h1] at d
 rcases FI _ _ _ _ d with a | ⟨e,he,b,a⟩
 ·simp at a
 ·have p:=g k o hk e he b
  have c:=hr e he b
  rcases a with a | a
  ·rw[a]; exact c
  ·have i:k < all.length:=by
    rcases XB k all.length with f | f
    ·exact f
    ·simp[XL f] at hk
   refine x5 g l e.on _ j (Xc (by omega)) c ?_
   unfold ordered
   rw[← n e.on (by omega)]
   exact a
theorem JQ {all:List Oper} (h:mQ all=true):(∀ k o,all[k]?=some o→∀ e∈o.after.toList,Region.binds .any e=true→e.on < k) ∧
  ∀ i k a ok,i < k→all[i]?=some a→all[k]?=some ok→ordered (fW all []) i k=false→(∀ t,a.dst=some t→¬ t∈oM all ok)∧(∀ t,ok.dst=some t→¬ t∈oM all a):=by
 unfold mQ at h
 have mem:∀ k o,all[k]?=some o→(o,k)∈all.zipIdx:=by
  intro k o hk
  rw[Yn]; exact hk
 refine ⟨fun k o hk e he f=>?_,fun i k a ok b hi hk g=>?_⟩
 ·have:=XI.1 h _ (mem k o hk)
  simp only[Xl] at this
  have:=XI.1 this.1 e he
  simpa [f] using this
 ·have:=XI.1 h _ (mem k ok hk)
  simp only[Xl] at this
  have:=XI.1 this.2 _ (mem i a hi)
  simp only[b,decide_true,Zi,Bool.false_or,g,Xl] at this
  have c:∀ (d:Option Nat) (l:List Nat),Md d l=true→∀ t,d=some t→¬ t∈l:=by
   intro d l hd t j
   subst j
   simpa [Md] using hd
  exact ⟨c _ _ this.1,c _ _ this.2⟩
theorem Fy {P:Program} {n:Nat} {all:List Oper} : ∀ (l:List Oper) (T:Env) (h:aC) (a:List Rec) (c:Env) (d:aC),Tr P n all l T h a c d →
  a.length=l.length∧∃ (b:Nat→Env) (hs:Nat→aC) (vs:Nat→V),b 0=T∧hs 0=h∧b l.length=c∧hs l.length=d ∧
   ∀ i o r,l[i]?=some o→a[i]?=some r→dR P n all o (b i) (hs i) (vs i) (hs (i+1)) r.rd r.wr r.call∧sD n o=true∧b (i+1)=(b i).put o.dst (vs i)∧r.lo=(hs i).length∧r.hi=(hs (i+1)).length:=by
 intro l T h a c d k
 induction k with
 | nil=>exact ⟨rfl,fun _=>_,fun _=>_,fun _=>.any,rfl,rfl,rfl,rfl,fun i o r h=>by simp at h⟩
 | @cons o rest T c h h1 d v rd wr call a e hd _ m =>
  obtain ⟨hl,b,hs,vs,g,j,p,q,hi⟩:=m
  refine ⟨by simp[hl],fun i=>match i with | 0=>T | i+1=>b i,fun i=>match i with | 0=>h | i+1=>hs i,fun i=>match i with | 0=>v | i+1=>vs i,rfl,rfl,p,q,?_⟩
  intro i s r f hr
  cases i with
  | zero =>
   simp at f hr
   subst f hr
   exact ⟨by simpa only [g,j] using e,hd,by simp only[g],rfl,by simp only[j]⟩
  | succ i =>
   exact hi i s r (by simpa using f) (by simpa using hr)
theorem uD {P:Program} {n:Nat} {all:List Oper} {o:Oper} {T:Env} {h a:aC} {v:V} {rd wr:List Nat} {call:Bool} (st:dR P n all o T h v a rd wr call):h.length≤a.length:=by
 cases st with
 | skip=>exact Xo _
 | op _ _=>rw[hX]; exact Nat.le_add_right _ _
 | jQ _ _ _=>exact Xo _
 | gH _ _ _ _ _ _=>exact Xo _
 | call _ _ _ _ b _ _=>exact b.1
theorem sC {P:Program} {n:Nat} {all:List Oper} {o:Oper} {T:Env} {h c:aC} {v:V} {rd wr:List Nat} {call:Bool} (st:dR P n all o T h v c rd wr call) {id:Nat} (a:id < h.length) (hw:¬ id∈wr):c.view id=h.view id:=by
 cases st with
 | skip=>rfl
 | op f b =>
  rename_i eff
  rw[mg (fun id a=>(nq b id a).1)]
  cases eff with
  | none=>rfl
  | new o=>simp only[bA.view,View.set]; rw[Xd (by omega)]
  | fk k o=>simp only[bA.view,View.set]; rw[Xd (fun e=>hw (by simp[bA.wr,e]))]
  | fa k o=>simp only[bA.view,View.set]; rw[Xd (by omega),Xd (fun e=>hw (by simp[bA.wr,e]))]
 | jQ _ _ _=>rfl
 | gH _ _ _ _ _ _=>rfl
 | call _ _ _ _ _ d _=>exact d id a hw
theorem w5 {P:Program} {n:Nat} {all:List Oper} {o:Oper} {T:Env} {h b:aC} {v:V} {rd wr:List Nat} {call:Bool} (st:dR P n all o T h v b rd wr call) {id:Nat} (hw:id∈wr):id < h.length∧(call=false→id∈rd):=by
 cases st with
 | skip=>simp at hw
 | op c a=>exact ⟨iS (nq a id hw).1,fun _=>(nq a id hw).2⟩
 | jQ _ _ _=>simp at hw
 | gH _ _ _ _ _ _=>simp at hw
 | call _ _ _ _ _ _ hl=>exact ⟨hl id hw,fun h=>by simp at h⟩
theorem Iz {H:View} {x:V} {xs:List (List V)} {rd:List Nat} (h:bI H x=some (xs,rd)):∀ id,id∈rd→H id≠.dead:=by
 intro id a
 unfold bI at h
 split at h
 ·simp at h; rw[h.2] at a; simp at a
 ·simp at h; rw[h.2] at a; simp at a
 ·simp at h; rw[h.2] at a; simp at a
 ·simp at h; rw[h.2] at a; simp at a
 ·split at h
  ·rename_i hH
   split at h
   ·simp at h; rw[← h.2] at a; simp at a; subst a; rw[hH]; simp
   ·simp at h
  ·simp at h
 ·simp at h; rw[h.2] at a; simp at a
 ·simp at h
theorem Vm {P:Program} {o:Oper} {T:Env} {H:View} {n:Nat} {v:V} {eff:bA} {rd:List Nat} (h:cp P o T H n=some (v,eff,rd)):∀ id,id∈rd→H id≠.dead:=by
 have b:∀ {v':V} {e:bA},some (v',e,([]:List Nat))=some (v,eff,rd)→∀ id,id∈rd→H id≠.dead:=by
  intro v' e heq id c
  simp only[Xe,Xh] at heq
  rw[← heq.2.2] at c; simp at c
 have one:∀ {k:Nat} {v':V} {e:bA},H k≠.dead→some (v',e,[k])=some (v,eff,rd)→∀ id,id∈rd→H id≠.dead:=by
  intro k v' e hk heq id c
  simp only[Xe,Xh] at heq
  rw[← heq.2.2] at c; simp at c; subst c; exact hk
 have mp:∀ {α:Type} {x:Option α} {f:α→V},(x.map fun a=>(f a,bA.none,([]:List Nat)))=some (v,eff,rd)→∀ id,id∈rd→H id≠.dead:=by
  intro α x f h
  simp only[Xn] at h
  obtain ⟨a,_,h⟩:=h
  exact b (YA some h)
 have j:∀ {α:Type} {x:Option α} {f:α→V} {k:Nat},H k≠.dead→(x.map fun a=>(f a,bA.none,[k]))=some (v,eff,rd)→∀ id,id∈rd→H id≠.dead:=by
  intro α x f k hk h
  simp only[Xn] at h
  obtain ⟨a,_,h⟩:=h
  exact one hk (YA some h)
 have pu:dQ P o T=some (v,eff,rd)→∀ id,id∈rd→H id≠.dead:=by
  intro h
  unfold dQ at h
  repeat' (split at h)
  all_goals first | exact b h | (simp at h; done)
 have l:∀ {cs:List V},mG cs n=some (v,eff,rd)→∀ id,id∈rd→H id≠.dead:=by
  intro cs h
  unfold mG at h
  split at h
  ·exact b h
  ·simp at h
 have g:∀ {x:V} {xs:List (List V)} {r:List Nat} {v':V} {e:bA},bI H x=some (xs,r)→some (v',e,r)=some (v,eff,rd)→∀ id,id∈rd→H id≠.dead:=by
  intro x xs r v' e he heq id c
  simp only[Xe,Xh] at heq
  rw[← heq.2.2] at c
  exact Iz he id c
 have i:∀ {x:V} {xs:List (List V)} {r:List Nat} {v':V} {e:bA} {k:Nat},bI H x=some (xs,r)→H k≠.dead→some (v',e,k :: r)=some (v,eff,rd)→∀ id,id∈rd→H id≠.dead:=by
  intro x xs r v' e k he hk heq id c
  simp only[Xe,Xh] at heq
  rw[← heq.2.2] at c
  rcases Xs.1 c with h1 | h1
  ·subst h1; exact hk
  ·exact Iz he id h1
 unfold cp at h
 split at h
 ·exact b h
 ·exact b h
 ·split at h
  ·exact b h
  ·simp at h
 ·split at h
  ·exact l h
  ·simp at h
 ·exact l h
 ·unfold wD at h
  split at h
  ·split at h
   ·exact mp h
   ·simp at h
  ·simp at h
 ·unfold iM at h
  repeat' (split at h)
  all_goals first | exact b h | (simp at h; done)
 ·unfold na at h
  split at h
  ·split at h
   ·rename_i hH
    split at h
    ·exact j (by rw[hH]; simp) h
    ·simp at h
   ·simp at h
  ·exact mp h
  ·simp at h
 ·unfold rG at h
  split at h
  ·split at h
   ·rename_i hH
    split at h
    ·exact one (by rw[hH]; simp) h
    ·simp at h
   ·simp at h
  ·simp at h
 ·repeat' (split at h)
  all_goals first | exact b h | (simp at h; done)
 ·unfold mf at h
  repeat' (split at h)
  all_goals first | exact b h | (simp at h; done)
 ·unfold wH at h
  split at h
  ·exact mp h
  ·simp at h
 ·unfold ml at h
  repeat' (split at h)
  all_goals first | exact b h | (simp at h; done)
 ·split at h
  ·exact pu h
  ·unfold tj at h
   repeat' (split at h)
   all_goals first | exact b h | (simp at h; done)
 ·unfold mc at h
  repeat' (split at h)
  all_goals first | exact b h | (simp at h; done)
 ·repeat' (split at h)
  all_goals first | exact b h | (simp at h; done)
 ·exact b h
 ·unfold gf at h
  simp only at h
  split at h
  ·simp at h
  ·split at h
   ·simp at h
   ·split at h
    ·split at h
     ·rename_i hH
      repeat' (split at h)
      all_goals first | exact one (by rw[hH]; simp) h | (simp at h; done)
     ·simp at h
    ·simp at h
 ·unfold fy at h
  split at h
  ·split at h
   ·rename_i hH
    repeat' (split at h)
    all_goals first | exact one (by rw[hH]; simp) h | (simp at h; done)
   ·simp at h
  ·simp at h
 ·unfold fy at h
  split at h
  ·split at h
   ·rename_i hH
    repeat' (split at h)
    all_goals first | exact one (by rw[hH]; simp) h | (simp at h; done)
   ·simp at h
  ·simp at h
 ·unfold ey at h
  split at h
  ·split at h
   ·rename_i hH
    repeat' (split at h)
    all_goals first | exact one (by rw[hH]; simp) h | (simp at h; done)
   ·simp at h
  ·simp at h
 ·unfold kG at h
  split at h
  ·split at h
   ·rename_i hH
    repeat' (split at h)
    all_goals first | exact one (by rw[hH]; simp) h | (simp at h; done)
   ·simp at h
  ·simp at h
 ·repeat' (split at h)
  all_goals first | exact b h | (simp at h; done)
 ·repeat' (split at h)
  all_goals first | exact b h | (simp at h; done)
 ·unfold C5 at h
  split at h
  ·split at h
   ·rename_i hH
    split at h
    ·exact one (by rw[hH]; simp) h
    ·exact one (by rw[hH]; simp) h
   ·simp at h
  ·simp at h
 ·split at h
  ·unfold nA at h
   split at h
   ·split at h
    ·split at h
     ·rename_i he _
      simp only[Xn] at h
      obtain ⟨a,_,h⟩:=h
      exact g he (YA some h)
     ·simp at h
    ·simp at h
   ·repeat' (split at h)
    all_goals first | exact b h | (simp at h; done)
   ·split at h
    ·split at h
     ·split at h
      ·rename_i hH
       exact one (by rw[hH]; simp) h
      ·simp at h
     ·simp at h
    ·simp at h
   ·simp at h
  ·exact pu h
 ·split at h
  ·split at h
   ·unfold uN at h
    split at h
    ·exact mp h
    ·split at h
     ·split at h
      ·rename_i hH
       exact one (by rw[hH]; simp) h
      ·simp at h
     ·exact b h
     ·simp at h
    ·repeat' (split at h)
     all_goals first | exact b h | (simp at h; done)
    ·exact b h
    ·simp at h
   ·simp at h
  ·split at h
   ·unfold nM at h
    split at h
    ·rename_i d
     split at h
     ·simp at h
     ·split at h
      ·split at h
       all_goals first | exact b h | (simp at h; done)
      ·split at h
       ·simp at h
       ·split at h
        ·split at h
         ·exact g d h
         ·simp at h
        ·split at h
         ·rename_i hH
          split at h
          ·exact i d (by rw[hH]; simp) h
          ·simp at h
         ·simp at h
        ·simp at h
    ·simp at h
   ·split at h
    ·unfold wX at h
     split at h
     ·split at h
      ·split at h
       ·exact b h
       ·split at h
        ·exact b h
        ·simp at h
      ·simp at h
     ·simp at h
    ·simp at h
  ·split at h
   ·unfold G2 at h
    split at h
    ·exact b h
    ·simp at h
   ·simp at h
  ·split at h
   ·unfold xH at h
    split at h
    ·rename_i d _
     split at h
     ·simp at h
     ·split at h
      ·exact b h
      ·split at h
       ·split at h
        ·rename_i hH
         split at h
         ·exact i d (by rw[hH]; simp) h
         ·simp at h
        ·simp at h
       ·simp at h
    ·simp at h
   ·simp at h
  ·split at h
   ·unfold vJ at h
    split at h
    ·split at h
     ·rename_i hH
      repeat' (split at h)
      all_goals first | exact one (by rw[hH]; simp) h | (simp at h; done)
     ·simp at h
    ·simp at h
   ·simp at h
  ·split at h
   ·unfold vV at h
    split at h
    ·split at h
     ·exact b h
     ·split at h
      ·split at h
       ·rename_i hH
        split at h
        ·exact one (by rw[hH]; simp) h
        ·simp at h
       ·simp at h
      ·simp at h
    ·simp at h
   ·simp at h
  ·exact pu h
  ·exact pu h
  ·exact pu h
  ·exact pu h
  ·exact pu h
  ·simp at h
 ·split at h
  ·split at h
   ·exact b h
   ·exact b h
   ·simp at h
  ·exact pu h
 ·exact pu h
 ·exact pu h
 ·simp at h
theorem Cd {P:Program} {n:Nat} {all:List Oper} {o:Oper} {T:Env} {h b:aC} {v:V} {rd wr:List Nat} {call:Bool} (st:dR P n all o T h v b rd wr call) {id:Nat} (hw:id∈rd):id < h.length:=by
 cases st with
 | skip=>simp at hw
 | op c a=>exact iS (Vm a id hw)
 | jQ _ _ _=>simp at hw
 | gH _ _ _ _ _ _=>simp at hw
 | call _ _ _ _ _ _ hl=>simp at hw
structure rS (n:Nat) (Z:Nat→Prop) (μ:Mu) (F:View) (T:Env) (h:aC) (a:Act) (w:World):Prop where
 defers:a.defers=[]
 size:a.tmps.size=n
 tm:∀ t,az Z μ w.heap (T t) (a.tmps.getD t undef)
 hr:iH Z μ w.heap (cat h F)
def c4 (P:Program) (n:Nat) (c:Code) (T:Env) (h:aC) (e:Exit) (T':Env) (h':aC):Prop :=
 h.length≤h'.length∧∀ Z μ F a w,(∀ id,h.length≤id→id < h'.length→μ id=none)→rS n Z μ F T h a w →
  c.wp P (fun e' a' w'=>e'=e∧∃ Z' μ',rS n Z' μ' F T' h' a' w'∧Ext Z μ w h.length Z' μ' w'∧(∀ id,id < h.length∨h'.length≤id→μ' id=μ id)) a w
section
variable {P:Program} {n:Nat} {all:List Oper}
theorem JL {Z:Nat→Prop} {μ:Mu} {w:World} {T:Env} {a:Act} {o:Oper} (h:∀ t,t∈tmpsOf o→az Z μ w.heap (T t) (a.tmps.getD t undef)):∀ x∈o.op.operands,az Z μ w.heap (ev T x) (a.eval x):=by
 intro x b
 cases x with
 | tmp t=>exact h t (by simp only[tmpsOf,Yr]; exact ⟨.tmp t,by simpa using b,rfl⟩)
 | const v=>exact gZ v
 | global g=>exact .any _
 | func f=>exact .fn f [] [] #[] #[] rfl rfl (fun i hi=>by simp at hi) (fun i hi=>by simp at hi)
theorem J6 {hs:Nat→aC} {N:Nat} (h:∀ i,i < N→(hs i).length≤(hs (i+1)).length):∀ i j,i≤j→j≤N→(hs i).length≤(hs j).length:=by
 intro i j a
 induction a with
 | refl=>intro _; exact Xo _
 | step _ b=>intro c; exact X7 (b (by omega)) (h _ (by omega))
theorem AN {a:Nat→Env} {vs:Nat→V} {N t:Nat} (g:∀ i o,all[i]?=some o→a (i+1)=(a i).put o.dst (vs i)) (n:N=all.length):∀ i j,i≤j→j≤N→(∀ k o,i≤k→k < j→all[k]?=some o→o.dst≠some t)→a j t=a i t:=by
 intro i j c
 induction c with
 | refl=>intro _ _; rfl
 | step hle h =>
  rename_i m
  intro p b
  have hm:m < all.length:=by omega
  rw[g m all[m] (Xc hm)]
  have hd:=b m all[m] hle (by omega) (Xc hm)
  have:(Env.put (a m) (all[m]).dst (vs m)) t=a m t:=by
   cases f:(all[m]).dst with
   | none=>rfl
   | some d =>
    simp only[Env.put]
    rw[Xd (fun e=>hd (by rw[f,e]))]
  rw[this]
  exact h (by omega) (fun k o h1 q l=>b k o h1 (by omega) l)
def Cc (P:Program) (n:Nat) (all:List Oper) (recs:List Rec) (Ts:Nat→Env) (hs:Nat→aC) (vs:Nat→V):Prop:=∀ i o r,all[i]?=some o→recs[i]?=some r →
 dR P n all o (Ts i) (hs i) (vs i) (hs (i+1)) r.rd r.wr r.call∧sD n o=true∧Ts (i+1)=(Ts i).put o.dst (vs i)∧r.lo=(hs i).length∧r.hi=(hs (i+1)).length
structure Bears (P:Program) (n:Nat) (all:List Oper) (Ts:Nat→Env) (hs:Nat→aC) (vs:Nat→V) (i k:Nat) (o:Oper) (a b:Rec):Prop where
 wr:a.wr=[]
 call:a.call=false
 len:a.lo=a.hi
 step:∀ g:aC,g.length=(hs i).length→(∀ id,id < (hs i).length→g.view id=if id∈b.wr then (hs (k+1)).view id else (hs i).view id)→dR P n all o (Ts i) g (vs i) g a.rd [] false
def MJ (P:Program) (n:Nat) (all:List Oper) (recs:List Rec) (T T':Env) (h:aC):Prop:=∀ Ts hs vs,Ts 0=T→hs 0=h→Ts all.length=T'→recs.length=all.length→Cc P n all recs Ts hs vs→∀ i,∃ tol:Option Nat,
 (∀ k a b,i < k→recs[i]?=some a→recs[k]?=some b→ordered (fW all []) i k=false→tol≠some k→pr a b) ∧
 ∀ k a b o,tol=some k→recs[i]?=some a→recs[k]?=some b→all[i]?=some o→i < k∧Bears P n all Ts hs vs i k o a b
theorem uQ.V1 {c:List Rec} {T d:Env} {hp:aC} (h:uQ all c):MJ P n all c T d hp:=fun _ _ _ _ _ _ _ _ i=>⟨none,fun k a b h1 e f g _=>h i k a b h1 e f g,fun k a b o h1=>by simp at h1⟩
theorem xl (hm:P.follows .mixedOrders=true) {id:Nat} {T T':Env} {h h':aC} {z:List Rec} (tr:Tr P n all all T h z T' h') (ht:mQ all=true) (ft:MJ P n all z T T' h) :
  c4 P n (.region id all.toArray true) T h .normal T' h':=by
 obtain ⟨fx,Ts,hs,vs,en,a7,eH,a8,D⟩:=Fy all T h z T' h' tr
 obtain ⟨S,U⟩:=JQ ht
 have hc:=ft Ts hs vs en a7 eH fx D
 have I:∀ i,i < all.length→∃ o r,all[i]?=some o∧z[i]?=some r:=fun i hi=>⟨all[i],z[i]'(by omega),Xc hi,Xc (by omega)⟩
 have cN:∀ i o,all[i]?=some o→i < all.length:=fun i o hi=>mh hi
 have hT:∀ i o,all[i]?=some o→Ts (i+1)=(Ts i).put o.dst (vs i):=fun i o hi=>by
  obtain ⟨o',r,h1,v⟩:=I i (cN i o hi)
  rw[hi] at h1; simp at h1; subst h1
  exact (D i o r hi v).2.2.1
 have b0:∀ i,i < all.length→(hs i).length≤(hs (i+1)).length:=fun i hi=>by
  obtain ⟨o,r,h1,v⟩:=I i hi
  exact uD (D i o r h1 v).1
 have f:=J6 b0
 have hle:h.length≤h'.length:=by rw[← a7,← a8]; exact f _ _ (YM _) (Xo _)
 have V:∀ i j id,i≤j→j≤all.length→id < (hs i).length→(∀ k r,i≤k→k < j→z[k]?=some r→¬ id∈r.wr)→(hs j).view id=(hs i).view id:=by
  intro i j id fz
  induction fz with
  | refl=>intro _ _ _; rfl
  | step hle ih =>
   rename_i m
   intro hj s b1
   obtain ⟨o,r,h1,v⟩:=I m (by omega)
   rw[sC (D m o r h1 v).1 (XM s (f _ _ hle (by omega))) (b1 m r hle (by omega) v)]
   exact ih (by omega) s (fun k r h1 v M=>b1 k r h1 (by omega) M)
 refine ⟨hle,fun Z μ F a w b2 an=>wp_region_any hm ?_⟩
 let Inv (listed:Array Bool) (G:Act) (w':World):Prop:=∃ X μ' H,G.defers=[]∧G.tmps.size=n ∧
  (∀ t,∃ E,E≤all.length∧az X μ' w'.heap (Ts E t) (G.tmps.getD t undef)∧∀ k o,all[k]?=some o→o.dst=some t→(listed.getD k false=true↔k < E)) ∧
  iH X μ' w'.heap H ∧
  (∀ id,μ' id≠none→(∃ E,E≤all.length∧id < (hs E).length∧H id=(hs E).view id∧∀ k r,z[k]?=some r→id∈r.wr→(listed.getD k false=true↔k < E))∨(h'.length≤id∧H id=F id)) ∧
  (∀ k id,k < all.length→(hs k).length≤id→id < (hs (k+1)).length→μ' id≠none→listed.getD k false=true) ∧
  (∀ k o,all[k]?=some o→listed.getD k false=true→∀ e∈o.after.toList,Region.binds .any e=true→listed.getD e.on false=true) ∧
  Ext Z μ w h.length X μ' w'∧(∀ id,id < h.length∨h'.length≤id→μ' id=μ id)∧listed.size=all.length
 have key:∀ fuel listed G w',Inv listed G w'→((List.range all.length).countP fun i=>!listed.getD i false)≤fuel →
   wpAny P .any all.toArray (fun e' G w'=>e'=.normal∧∃ X μ',rS n X μ' F T' h' G w'∧Ext Z μ w h.length X μ' w'∧(∀ id,id < h.length∨h'.length≤id→μ' id=μ id)) fuel listed G w':=by
  have ready_iff:∀ (listed:Array Bool),listed.size=all.length→∀ i,i∈Region.ready .any all.toArray listed↔(∃ o,all[i]?=some o∧listed.getD i false=false∧∀ e∈o.after.toList,Region.binds .any e=true→listed.getD e.on false=true):=by
   intro listed W i
   simp only[Region.ready,YJ,XY,XU,Yd,Xl,Zj]
   constructor
   ·rintro ⟨hi,h1,v⟩
    rw[Xc hi] at v
    simp only[Xk,Xu] at v
    refine ⟨all[i],Xc hi,?_,fun e he hb=>?_⟩
    ·have:i < listed.size:=by omega
     simp only[Xp,Xx this,Xu] at h1 ⊢
     exact h1
    ·have:=Array.all_eq_true_iff_forall_mem.1 v e (by simpa using he)
     simpa [hb] using this
   ·rintro ⟨o,Q,h1,v⟩
    have hi:=cN i o Q
    refine ⟨hi,?_,?_⟩
    ·have:i < listed.size:=by omega
     simp only[Xp,Xx this,Xu] at h1 ⊢
     exact h1
    ·rw[Q]
     simp only[Xk,Xu]
     rw[Array.all_eq_true_iff_forall_mem]
     intro e he
     cases hb:Region.binds .any e with
     | false=>rfl
     | true=>simpa using v e (by simpa using he) hb
  have b3:∀ (listed:Array Bool),listed.size=all.length→Region.ready .any all.toArray listed=[]→∀ i,i < all.length→listed.getD i false=true:=by
   intro listed W b4 i
   induction i using Nat.strongRecOn with
   | _ i ih =>
    intro hi
    cases hl:listed.getD i false with
    | true=>rfl
    | false =>
     exfalso
     have:i∈Region.ready .any all.toArray listed:=(ready_iff listed W i).2 ⟨all[i],Xc hi,hl,fun e he hb=>ih e.on (S i all[i] (Xc hi) e he hb) (by have:=S i all[i] (Xc hi) e he hb; omega)⟩
     rw[b4] at this; simp at this
  have finish:∀ listed G w',Inv listed G w'→(∀ i,i < all.length→listed.getD i false=true) →
    ∃ X μ',rS n X μ' F T' h' G w'∧Ext Z μ w h.length X μ' w'∧(∀ id,id < h.length∨h'.length≤id→μ' id=μ id):=by
   rintro listed G w' ⟨X,μ',H,hd,W,cS,hr,b5,b7,cV,hex,b8,N⟩ aq
   refine ⟨X,μ',⟨hd,W,fun t=>?_,hr.congr fun id s=>?_⟩,hex,b8⟩
   ·obtain ⟨E,A,hv,hw⟩:=cS t
    have:=AN (t:=t) hT rfl E all.length A (Xo _) (fun k o h1 v M Y=>by
     have:=(hw k o M Y).1 (aq k v); omega)
    rw[← eH,this]; exact hv
   ·unfold cat
    rcases b5 id s with ⟨E,A,hl,hH,hw⟩ | ⟨hl,hH⟩
    ·have:=V E all.length id A (Xo _) hl (fun k r h1 v M Y=>by
      have:=(hw k r M Y).1 (aq k v); omega)
     have fB:id < h'.length:=by rw[← a8]; exact XM hl (f _ _ A (Xo _))
     rw[Xg fB,hH,← this,a8]
    ·rw[Xd (by omega),hH]
  intro fuel
  induction fuel with
  | zero =>
   intro listed G w' hinv e0
   have N:listed.size=all.length:=by obtain ⟨_,_,_,_,_,_,_,_,_,_,_,_,N⟩:=hinv; exact N
   have aq:∀ i,i < all.length→listed.getD i false=true:=by
    intro i hi
    have h0:(List.range all.length).countP (fun i=>!listed.getD i false)=0:=by omega
    rw[List.countP_eq_zero] at h0
    have:=h0 i (by simpa using hi)
    simpa using this
   refine ⟨?_,rfl,finish listed G w' hinv aq⟩
   apply List.eq_nil_iff_forall_not_mem.2
   intro i hi
   obtain ⟨o,Q,h1,_⟩:=(ready_iff listed N i).1 hi
   rw[aq i (cN i o Q)] at h1; simp at h1
  | succ fuel ih =>
   intro listed G w' hinv e0
   have N:listed.size=all.length:=by obtain ⟨_,_,_,_,_,_,_,_,_,_,_,_,N⟩:=hinv; exact N
   refine ⟨fun b4=>⟨rfl,finish listed G w' hinv (b3 listed N b4)⟩,fun i hi=>?_⟩
   obtain ⟨o,Q,e1,b9⟩:=(ready_iff listed N i).1 hi
   have J:=cN i o Q
   obtain ⟨_,r,_,B⟩:=I i J
   obtain ⟨ca,cc,_,e2,e3⟩:=D i o r Q B
   obtain ⟨X,μ',H,hd,W,cS,hr,b5,b7,cV,hex,b8,_⟩:=hinv
   have bl:¬ (listed.getD i false=true):=by rw[e1]; simp
   have before:∀ j,ordered (fW all []) j i=true→listed.getD j false=true:=fun j hj=>G6 S cV Q b9 hj
   have behind:∀ k ok,all[k]?=some ok→ordered (fW all []) i k=true→listed.getD k false=true→False:=fun k ok hk c R=>bl (x5 (L:=fun k=>listed.getD k false=true) S cV k ok i hk R c)
   have slot:∀ t,t∈oM all o→az X μ' w'.heap (Ts i t) (G.tmps.getD t undef):=by
    intro t cf
    obtain ⟨E,A,hv,hw⟩:=cS t
    rcases Nat.le_total E i with bb | bb
    ·have:=AN (t:=t) hT rfl E i bb (by omega) (fun k ok h1 v M Y=>by
      have ar:=(hw k ok M Y).1
      cases c:ordered (fW all []) k i with
      | true=>have:=ar (before k c); omega
      | false=>exact (U k i ok o v M Q c).1 t Y cf)
     rw[this]; exact hv
    ·have:=AN (t:=t) hT rfl i E bb A (fun k ok h1 v M Y=>by
      have ar:=(hw k ok M Y).2 v
      rcases Nat.eq_or_lt_of_le h1 with u | u
      ·subst u; exact bl ar
      ·cases c:ordered (fW all []) i k with
       | true=>exact behind k ok M c ar
       | false=>exact (U i k o ok u Q M c).2 t Y cf)
     rw[← this]; exact hv
   obtain ⟨cg,e4,c9⟩:=hc i
   have ch:∀ id,id < (hs i).length→μ' id≠none→(∀ k y,z[k]?=some y→k≠i→id∈y.wr→(listed.getD k false=true↔k < i))→H id=(hs i).view id:=by
    intro id s hm hk
    rcases b5 id hm with ⟨E,A,hl,hH,hw⟩ | ⟨hl,_⟩
    ·rw[hH]
     rcases Nat.le_total E i with bb | bb
     ·exact (V E i id bb (by omega) hl (fun k y h1 v M Y=>by
       have:=(hw k y M Y).1 ((hk k y M (by omega) Y).2 v); omega)).symm
     ·exact V i E id bb A s (fun k y h1 v M Y=>by
       have ar:=(hw k y M Y).2 v
       rcases Nat.eq_or_lt_of_le h1 with u | u
       ·subst u; exact bl ar
       ·have:=(hk k y M (by omega) Y).1 ar; omega)
    ·have:(hs i).length≤h'.length:=by rw[← a8]; exact f _ _ (by omega) (Xo _)
     omega
   have place:∀ id,(id∈r.rd∨id∈r.wr∨r.call=true)→∀ k y,z[k]?=some y→k≠i→id∈y.wr→(cg=some k→listed.getD k false=false)→(listed.getD k false=true↔k < i):=by
    intro id s k y hk bd hw e5
    have fS:id∈r.wr→r.call=false→id∈r.rd:=fun h1 v=>(w5 ca h1).2 v
    have cj:id∈r.rd∨r.call=true:=by
     rcases s with h1 | h1 | h1
     ·exact .inl h1
     ·cases e6:r.call with
      | true=>exact .inr rfl
      | false=>exact .inl (fS h1 e6)
     ·exact .inr h1
    have ck:y.wr≠[]:=fun e=>by rw[e] at hw; simp at hw
    obtain ⟨ok,_,cu,_⟩:=I k (by have:=mh hk; omega)
    rcases Nat.lt_or_gt_of_ne bd with bn | bn
    ·refine ⟨fun _=>bn,fun _=>?_⟩
     cases c:ordered (fW all []) k i with
     | true=>exact before k c
     | false =>
      obtain ⟨tk,gd,gk⟩:=hc k
      by_cases e7:tk=some i
      ·exact absurd (gk i y r ok e7 hk B cu).2.wr ck
      ·have nc:=gd i y r bn hk B c e7
       rcases cj with h1 | h1
       ·exact absurd h1 (nc.VW id hw)
       ·exact absurd (nc.call2 h1) ck
    ·refine ⟨fun R=>?_,fun h6=>by omega⟩
     exfalso
     cases c:ordered (fW all []) i k with
     | true=>exact behind k ok cu c R
     | false =>
      by_cases et:cg=some k
      ·rw[e5 et] at R; simp at R
      ·have nc:=e4 k r y bn B hk c et
       rcases cj with h1 | h1
       ·exact absurd h1 (nc.Vh id hw)
       ·exact absurd (nc.Vy h1) ck
   have closing:∀ x w1 Z1 a1,az Z1 a1 w1.heap (vs i) x→iH Z1 a1 w1.heap (jL H (hs i) (hs (i+1)) r.wr)→Ext X μ' w' (hs i).length Z1 a1 w1→(∀ id,id < (hs i).length∨(hs (i+1)).length≤id→a1 id=μ' id) →
     wpAny P .any all.toArray (fun e' G w'=>e'=.normal∧∃ X μ',rS n X μ' F T' h' G w'∧Ext Z μ w h.length X μ' w'∧(∀ id,id < h.length∨h'.length≤id→μ' id=μ id)) fuel (listed.setIfInBounds i true) (G.put o.dst x) w1:=by
    intro x w1 Z1 a1 da db bq K
    have O:∀ k,(listed.setIfInBounds i true).getD k false=if k=i then true else listed.getD k false:=by
     intro k
     simp only[Xp,Yg]
     by_cases e:i=k
     ·subst e; rw[Xg rfl,Xg rfl,Xg (by omega)]; rfl
     ·rw[Xd e,Xd (fun q=>e q.symm)]
    have e8:(listed.setIfInBounds i true).size=all.length:=by simpa using N
    refine ih _ _ _ ⟨Z1,a1,jL H (hs i) (hs (i+1)) r.wr,?_,?_,?_,db,?_,?_,?_,?_,?_,e8⟩ ?_
    ·unfold Act.put; split <;> exact hd
    ·unfold Act.put; split <;> simp[W]
    ·intro t
     by_cases cv:o.dst=some t
     ·refine ⟨i+1,J,?_,fun k ok hk bs=>?_⟩
      ·rw[hT i o Q,cv]
       have fb:t < G.tmps.size:=by unfold sD at cc; rw[cv] at cc; rw[W]; simpa using cc
       simp only[Env.put,Act.put,if_true,Xp,Yg,fb,Xu]
       exact da
      ·rw[O]
       by_cases e:k=i
       ·subst e; simp
       ·rw[Xd e]
        have cf:t∈oM all o:=by simp[oM,cv]
        rcases Nat.lt_or_gt_of_ne e with u | u
        ·cases c:ordered (fW all []) k i with
         | true=>exact ⟨fun _=>by omega,fun _=>before k c⟩
         | false=>exact absurd cf ((U k i ok o u hk Q c).1 t bs)
        ·cases c:ordered (fW all []) i k with
         | true=>exact ⟨fun R=>(behind k ok hk c R).elim,fun h6=>by omega⟩
         | false=>exact absurd cf ((U i k o ok u Q hk c).2 t bs)
     ·obtain ⟨E,A,hv,hw⟩:=cS t
      refine ⟨E,A,?_,fun k ok hk bs=>?_⟩
      ·have:(G.put o.dst x).tmps.getD t undef=G.tmps.getD t undef:=by
        unfold Act.put
        split
        ·rename_i d dj
         simp only[Xp,Yg]
         rw[Xd (fun e=>cv (by rw[dj,e]))]
        ·rfl
       rw[this]; exact hv.mono bq.mono
      ·rw[O,Xd (fun e=>by subst e; rw[Q] at hk; simp at hk; subst hk; exact cv bs)]
       exact hw k ok hk bs
    ·intro id dm
     unfold jL
     by_cases bx:id∈r.wr∨((hs i).length≤id∧id < (hs (i+1)).length)
     ·left
      have a6:id < (hs (i+1)).length:=by
       rcases bx with u | u
       ·exact XM (w5 ca u).1 (b0 i J)
       ·exact u.2
      refine ⟨i+1,J,a6,by rw[Xg bx],fun k y hk C=>?_⟩
      rw[O]
      by_cases e:k=i
      ·subst e; simp
      ·rw[Xd e]
       obtain ⟨ok,_,cu,_⟩:=I k (by have:=mh hk; omega)
       rcases bx with u | u
       ·have hp:=place id (.inr (.inl u)) k y hk e C (fun et=>by
         have:=(c9 k r y o et B hk Q).2.wr
         rw[this] at u; simp at u)
        exact ⟨fun R=>by have:=hp.1 R; omega,fun h7=>hp.2 (by omega)⟩
       ·obtain ⟨cA,_⟩:=D k ok y cu hk
        have ar:=(w5 cA C).1
        have gl:i < k:=by
         rcases XB i k with h6 | h6
         ·exact h6
         ·have:=f k i h6 (by omega); omega
        refine ⟨fun R=>?_,fun h7=>by omega⟩
        exfalso
        cases c:ordered (fW all []) i k with
        | true=>exact behind k ok cu c R
        | false =>
         by_cases et:cg=some k
         ·have:=(c9 k r y o et B hk Q).2.len
          omega
         ·exact (e4 k r y gl B hk c et).new id C (by rw[e2,e3]; exact u)
     ·rw[Xd bx]
      have ds:μ' id≠none:=by
       rw[← K id ?_]
       ·exact dm
       ·rcases XB id (hs i).length with h6 | h6
        ·exact .inl h6
        ·right
         rcases XB id (hs (i+1)).length with h7 | h7
         ·exact absurd (.inr ⟨h6,h7⟩) bx
         ·exact h7
      rcases b5 id ds with ⟨E,A,hl,hH,hw⟩ | u
      ·refine .inl ⟨E,A,hl,hH,fun k y hk C=>?_⟩
       rw[O,Xd (fun e=>by subst e; rw[B] at hk; simp at hk; subst hk; exact bx (.inl C))]
       exact hw k y hk C
      ·exact .inr u
    ·intro k id hk h1 v dm
     rw[O]
     by_cases e:k=i
     ·rw[Xg e]
     ·rw[Xd e]
      refine b7 k id hk h1 v ?_
      rw[← K id ?_]
      ·exact dm
      ·rcases Nat.lt_or_gt_of_ne e with h6 | h6
       ·left; exact XM v (f _ _ h6 (by omega))
       ·right; exact X7 (f _ _ h6 (by omega)) h1
    ·intro k ok hk R e he hb
     rw[O] at R ⊢
     by_cases ek:k=i
     ·subst ek
      rw[Q] at hk; simp at hk; subst hk
      split
      ·rfl
      ·exact b9 e he hb
     ·rw[Xd ek] at R
      split
      ·rfl
      ·exact cV k ok hk R e he hb
    ·refine hex.trans bq ?_ an.hr.lt
     rw[← a7]; exact f _ _ (YM _) (by omega)
    ·intro id s
     rw[K id,b8 id s]
     rcases s with u | u
     ·left; rw[← a7] at u; exact XM u (f _ _ (YM _) (by omega))
     ·right; rw[← a8] at u; exact X7 (f _ _ J (Xo _)) u
    ·have:(List.range all.length).countP (fun k=>!(listed.setIfInBounds i true).getD k false) < (List.range all.length).countP (fun k=>!listed.getD k false):=by
      have gen:∀ (l:List Nat),i∈l→l.Nodup→l.countP (fun k=>!(listed.setIfInBounds i true).getD k false) < l.countP (fun k=>!listed.getD k false):=by
       intro l
       induction l with
       | nil=>intro h; simp at h
       | cons x l gr =>
        intro ff dv
        simp only[X6] at dv
        by_cases e:x=i
        ·subst e
         have ea:l.countP (fun k=>!(listed.setIfInBounds x true).getD k false)=l.countP (fun k=>!listed.getD k false):=by
          apply List.countP_congr
          intro k hk
          have ha:k≠x:=fun q=>dv.1 (by rw[← q]; exact hk)
          rw[O,Xd ha]
         have h1:(listed.setIfInBounds x true).getD x false=true:=by rw[O,Xg rfl]
         rw[List.countP_cons,List.countP_cons,ea,h1,e1]
         simp
        ·have eb:i∈l:=by
          rcases Xs.1 ff with u | u
          ·exact absurd u.symm e
          ·exact u
         have:=gr eb dv.2
         simp only[List.countP_cons,O,Xd e]
         simp only[O] at this
         omega
      exact gen _ (by simpa using J) List.nodup_range
     omega
   have br:∀ j want d,o.guard=some (j,want)→(all[j]?).bind (·.dst)=some d→az X μ' w'.heap (Ts i d) (G.tmps.getD d undef):=fun j want d hg dj=>slot d (by
    simp only[oM,XE]; right; rw[hg]; simp[dj])
   have c5:=JL (o:=o) fun t hf=>slot t (by
    simp only[oM,XE]; left; right; exact hf)
   by_cases fl:∃ k0,cg=some k0∧listed.getD k0 false=true
   ·obtain ⟨k0,ec,fm⟩:=fl
    have hh:k0 < all.length:=by
     rcases XB k0 all.length with u | u
     ·exact u
     ·simp[Xp,YH (show listed.size≤k0 by omega)] at fm
    obtain ⟨_,b,_,hb⟩:=I k0 hh
    obtain ⟨hy,hB⟩:=c9 k0 r b o ec B hb Q
    let g:aC:=(List.range (hs i).length).map fun id=>if id∈b.wr then (hs (k0+1)).view id else (hs i).view id
    have fs:∀ id,id < (hs i).length→aC.view g id=if id∈b.wr then (hs (k0+1)).view id else (hs i).view id:=by
     intro id s
     simp only[g,aC.view,Xb,Xf,Yu s,Xk,Xu]
    have hlen:(hs (i+1)).length=(hs i).length:=by rw[← e3,← e2,hB.len]
    have cC:List.length g=(hs i).length:=by simp only[g,Xj,List.length_range]
    have cA:=hB.step g cC fs
    have hn:jL H g g []=jL H (hs i) (hs (i+1)) r.wr:=by
     funext id
     unfold jL
     rw[Xd (by
            rintro (h1 | h1); · simp at h1
            ·omega),Xd (by
              rw[hB.wr]; rintro (h1 | h1); · simp at h1
              ·omega)]
    refine yV rfl (by simpa using Q) cA W br c5 hr (fun id s hm=>?_) (fun h1=>by simp at h1) (fun id h1 v=>by omega) (fun x w1 Z1 a1 da db bq K=>closing x w1 Z1 a1 da (by rw[← hn]; exact db) (by rw[← cC]; exact bq) (fun id s=>K id (by
     rw[cC]; omega)))
    have a6:=Cd ca s
    rw[fs id a6]
    by_cases c3:id∈b.wr
    ·rw[Xg c3]
     rcases b5 id hm with ⟨E,A,hl,hH,hw⟩ | ⟨hl,_⟩
     ·have hx:=(hw k0 b hb c3).1 fm
      rw[hH]
      refine V (k0+1) E id hx A (XM a6 (f _ _ (by omega) (by omega))) (fun k y h1 v M Y=>?_)
      have R:=(hw k y M Y).2 v
      have:=(place id (.inl s) k y M (by omega) Y (fun e=>by rw[ec] at e; simp at e; omega)).1 R
      omega
     ·have:(hs i).length≤h'.length:=by rw[← a8]; exact f _ _ (by omega) (Xo _)
      omega
    ·rw[Xd c3]
     refine ch id a6 hm fun k y hk bd C=>place id (.inl s) k y hk bd C fun e=>?_
     rw[ec] at e; simp at e; subst e
     rw[hb] at hk; simp at hk; subst hk
     exact absurd C c3
   ·have b1:∀ k,cg=some k→listed.getD k false=false:=fun k e=>by
     cases hl:listed.getD k false with
     | false=>rfl
     | true=>exact absurd ⟨k,e,hl⟩ fl
    refine yV rfl (by simpa using Q) ca W br c5 hr (fun id s hm=>ch id (Cd ca s) hm fun k y hk bd C=>place id (.inl s) k y hk bd C (b1 k))
     (fun ee id s hm=>ch id s hm fun k y hk bd C=>place id (.inr (.inr ee)) k y hk bd C (b1 k)) (fun id h1 v=>?_) closing
    apply YI
    intro ds
    exact bl (b7 i id J h1 v ds)
 have eg:Inv (Array.replicate all.length false) a { w with drawn:=w.drawn+1 }:=by
  refine ⟨Z,μ,cat h F,an.defers,an.size,fun t=>⟨0,YM _,by rw[en]; exact an.tm t,fun k o hk bs=>?_⟩,an.hr,fun id ei=>?_,fun k id hk h1 v ei=>?_,fun k o hk R=>?_,?_,fun _ _=>rfl,by simp⟩
  ·have:(Array.replicate all.length false).getD k false=false:=by
    simp only[Xp,Array.getElem?_replicate]; split <;> rfl
   rw[this]; simp
  ·unfold cat
   by_cases hl:id < h.length
   ·left
    refine ⟨0,YM _,by rw[a7]; exact hl,by rw[Xg hl,a7],fun k r hk C=>?_⟩
    have:(Array.replicate all.length false).getD k false=false:=by
     simp only[Xp,Array.getElem?_replicate]; split <;> rfl
    rw[this]; simp
   ·rw[Xd hl]
    rcases XB id h'.length with u | u
    ·exact absurd (b2 id (by omega) u) ei
    ·exact .inr ⟨u,rfl⟩
  ·exfalso
   refine ei (b2 id ?_ ?_)
   ·rw[← a7]; exact X7 (f _ _ (YM _) (by omega)) h1
   ·rw[← a8]; exact XM v (f _ _ hk (Xo _))
  ·have:(Array.replicate all.length false).getD k false=false:=by
    simp only[Xp,Array.getElem?_replicate]; split <;> rfl
   rw[this] at R; simp at R
  ·exact ⟨⟨rfl,rfl,rfl,Xo _⟩,ix.refl _ _ _,fun _ _ _=>rfl,fun _ h=>.inl h,fun _ _ _ _ h=>.inl h⟩
 have:=key all.length _ _ _ eg (by
  have:=List.countP_le_length (p:=fun i=>!(Array.replicate all.length false).getD i false) (l:=List.range all.length)
  simpa using this)
 simpa using this
theorem Aj (hm:P.follows .mixedOrders=true) {id:Nat} {T b:Env} {h c:aC} {a:List Rec} (d:Tr P n all all T h a b c) (e:mQ all=true) (f:uQ all a) :
 c4 P n (.region id all.toArray true) T h .normal b c:=xl hm d e f.V1
end
section
variable {P:Program} {n:Nat}
theorem rS.eval {Z:Nat→Prop} {μ:Mu} {F:View} {T:Env} {h:aC} {a:Act} {w:World} (s:rS n Z μ F T h a w) (x:Operand):az Z μ w.heap (ev T x) (a.eval x):=by
 cases x with
 | tmp t=>exact s.tm t
 | const v=>exact gZ v
 | global g=>exact .any _
 | func f=>exact .fn f [] [] #[] #[] rfl rfl (fun i hi=>by simp at hi) (fun i hi=>by simp at hi)
theorem Jq {all:List Oper} {id:Nat} {T M:Env} {h A:aC} {f:List Rec} (tr:Tr P n all all T h f M A):c4 P n (.region id all.toArray false) T h .normal M A:=by
 obtain ⟨an,Ts,hs,vs,N,y,O,E,g⟩:=Fy all T h f M A tr
 have B:∀ i,i < all.length→∃ o r,all[i]?=some o∧f[i]?=some r:=fun i hi=>⟨all[i],f[i]'(by omega),Xc hi,Xc (by omega)⟩
 have l:∀ i,i < all.length→(hs i).length≤(hs (i+1)).length:=fun i hi=>by
  obtain ⟨o,r,h1,I⟩:=B i hi
  exact uD (g i o r h1 I).1
 have c:=J6 l
 refine ⟨by rw[← y,← E]; exact c _ _ (YM _) (Xo _),fun Z μ F a w G C=>wp_region ?_⟩
 have key:∀ k i,i+k=all.length→∀ D μ' H w',rS n D μ' F (Ts i) (hs i) H w'→Ext Z μ w h.length D μ' w'→(∀ id,id < h.length∨A.length≤id→μ' id=μ id)→(∀ id,(hs i).length≤id→id < A.length→μ' id=none) →
   wpOps P all.toArray (fun e' H w'=>e'=.normal∧∃ D μ',rS n D μ' F M A H w'∧Ext Z μ w h.length D μ' w'∧(∀ id,id < h.length∨A.length≤id→μ' id=μ id)) (List.range' i k) H w':=by
  intro k
  induction k with
  | zero =>
   intro i hi D μ' H w' b hex m _
   obtain rfl:i=all.length:=by omega
   simp only[List.range'_zero,wpOps]
   rw[O,E] at b
   exact ⟨trivial,D,μ',b,hex,m⟩
  | succ k ih =>
   intro i hi D μ' H w' b hex m J
   obtain ⟨o,r,Y,hr⟩:=B i (by omega)
   obtain ⟨z,p,hT,aq,ar⟩:=g i o r Y hr
   have a1:=l i (by omega)
   have a6:(hs (i+1)).length≤A.length:=by rw[← E]; exact c _ _ (by omega) (Xo _)
   have Q:h.length≤(hs i).length:=by rw[← y]; exact c _ _ (YM _) (by omega)
   rw[List.range'_succ,wpOps_cons]
   refine yV rfl (by simpa using Y) z b.size (fun j want d _ _=>b.tm d) (fun x _=>b.eval x) b.hr (fun id s _=>?_) (fun _ id s _=>?_) (fun id h1 I=>J id h1 (by omega)) ?_
   ·unfold cat; rw[Xg (Cd z s)]
   ·unfold cat; rw[Xg s]
   ·intro x w1 Z1 R S U u v
    refine ih (i+1) (by omega) Z1 R _ w1 ⟨?_,?_,fun t=>?_,U.congr fun id _=>?_⟩ (hex.trans u Q C.hr.lt) (fun id s=>?_) (fun id h1 I=>?_)
    ·unfold Act.put; split <;> exact b.defers
    ·unfold Act.put; split <;> simp[b.size]
    ·rw[hT]
     cases V:o.dst with
     | none =>
      simp only[Env.put,Act.put]
      exact (b.tm t).mono u.mono
     | some d =>
      have K:d < H.tmps.size:=by unfold sD at p; rw[V] at p; rw[b.size]; simpa using p
      simp only[Env.put,Act.put,Xp,Yg]
      by_cases e:t=d
      ·subst e; rw[Xg rfl,Xg rfl,Xg K]; exact S
      ·rw[Xd e,Xd (fun q=>e q.symm)]
       have:=(b.tm t).mono u.mono
       simpa only [Xp] using this
    ·simp only[cat,jL]
     by_cases W:id < (hs (i+1)).length
     ·rw[Xg W]
      split
      ·rfl
      ·rename_i hn
       have L:id < (hs i).length:=by
        rcases XB id (hs i).length with X | X
        ·exact X
        ·exact absurd (.inr ⟨X,W⟩) hn
       rw[Xg L,sC z L (fun q=>hn (.inl q))]
     ·rw[Xd W,Xd,Xd (by omega)]
      rintro (L | L)
      ·have:=(w5 z L).1; omega
      ·omega
    ·rw[v id (by omega),m id s]
    ·rw[v id (by omega)]; exact J id (by omega) I
 have:=key all.length 0 (by omega) Z μ a w (by rw[N,y]; exact C) (Ext.refl _ _ _ _) (fun _ _=>rfl) (fun id h1 I=>G id (by rw[← y]; exact h1) I)
 rw[YJ,List.range_eq_range']
 exact this
theorem c4.weaken {c:Code} {T q:Env} {h j:aC} {e:Exit} (x:c4 P n c T h e q j) {Z:Nat→Prop} {μ:Mu} {F:View} {a:Act} {w:World} {r:Nat→Prop} {d:Mu} {l:World} {m:Nat}
  (f:∀ id,h.length≤id→id < j.length→μ id=none) (s:rS n Z μ F T h a w) (hex:Ext r d l m Z μ w) (hm:m≤h.length) (p:∀ id b o s,d id=some (b,o,s)→b < l.heap.size) :
  c.wp P (fun e' t w'=>e'=e∧∃ k μ',rS n k μ' F q j t w'∧Ext r d l m k μ' w'∧(∀ id,id < h.length∨j.length≤id→μ' id=μ id)) a w :=
 wp_mono (x.2 Z μ F a w f s) fun _ _ _ ⟨he,k,μ',u,g,i⟩=>⟨he,k,μ',u,hex.trans g hm p,i⟩
theorem c4.seq {x y:Code} {T k l:Env} {h h1 f:aC} {e:Exit} (g:c4 P n x T h .normal k h1) (i:c4 P n y k h1 e l f):c4 P n (.seq x y) T h e l f:=by
 refine ⟨X7 g.1 i.1,fun Z μ F a w b s=>wp_seq (wp_mono (g.2 Z μ F a w (fun id h1 f=>b id h1 (XM f i.1)) s) ?_)⟩
 rintro e' o w' ⟨rfl,m,μ',j,hex,c⟩
 refine wp_mono (i.weaken (fun id h1 f=>?_) j hex g.1 s.hr.lt) ?_
 ·rw[c id (.inr h1)]; exact b id (X7 g.1 h1) f
 ·rintro e' o w' ⟨he,m,μ',j,hex,d⟩
  refine ⟨he,m,μ',j,hex,fun id p=>?_⟩
  have:=g.1
  have:=i.1
  rw[d id (by omega),c id (by omega)]
theorem c4.K6 {x y:Code} {T c:Env} {h h1:aC} {e:Exit} (d:c4 P n x T h e c h1) (he:e≠.normal):c4 P n (.seq x y) T h e c h1:=by
 refine ⟨d.1,fun Z μ F a w b s=>wp_seq (wp_mono (d.2 Z μ F a w b s) ?_)⟩
 rintro e' f w' ⟨rfl,h⟩
 cases e' <;> first | exact absurd rfl he | exact ⟨rfl,h⟩
theorem c4.here {c:Code} {T:Env} {h:aC} {e:Exit} (b:∀ (Q:Exit→Act→World→Prop) a w,Q e a w→c.wp P Q a w):c4 P n c T h e T h :=
 ⟨Xo _,fun Z μ _ a w _ s=>b _ a w ⟨rfl,Z,μ,s,Ext.refl _ _ _ _,fun _ _=>rfl⟩⟩
theorem c4.skip {T:Env} {h:aC} : c4 P n .skip T h .normal T h:=.here fun _ _ _ h=>wp_skip h
theorem c4.label {T:Env} {h:aC} {l:Nat} : c4 P n (.label l) T h .normal T h:=.here fun _ _ _ h=>wp_label h
theorem c4.exit {T:Env} {h:aC} {id:Nat} : c4 P n (.exit id) T h (.exit id) T h:=.here fun _ _ _ h=>wp_exit h
theorem c4.goto {T:Env} {h:aC} {l:Nat} : c4 P n (.goto l) T h (.goto l) T h:=.here fun _ _ _ h=>wp_goto h
theorem c4.ret {T:Env} {h:aC} : c4 P n .ret T h .ret T h:=.here fun _ _ _ h=>wp_ret h
theorem c4.cond {c:Operand} {x y:Code} {T d:Env} {h f:aC} {e:Exit} {t:Bool} (i:ev T c=.val (.bool t)) (g:c4 P n (if t then x else y) T h e d f):c4 P n (.cond c x y) T h e d f:=by
 refine ⟨g.1,fun Z μ F a w b s=>wp_cond (t:=t) ?_ (g.2 Z μ F a w b s)⟩
 have:=s.eval c
 rw[i] at this
 exact fq this
def qQ (id:Nat):Exit→Exit
 | .exit id'=>if id'=id then .normal else .exit id'
 | e=>e
theorem c4.block {id:Nat} {c:Code} {T d:Env} {h f:aC} {e:Exit} (g:c4 P n c T h e d f):c4 P n (.block id c) T h (qQ id e) d f:=by
 refine ⟨g.1,fun Z μ F a w b s=>wp_block (wp_mono (g.2 Z μ F a w b s) ?_)⟩
 rintro e' j w' ⟨rfl,h⟩
 cases e' with
 | exit i =>
  simp only[Exit.inBlock,qQ]
  split
  ·exact ⟨rfl,h⟩
  ·exact ⟨rfl,h⟩
 | _=>exact ⟨rfl,h⟩
theorem A4 {c:Code} {Q b:Exit→Act→World→Prop} (hq:∀ e a w,Q e a w→b e a w):∀ (k:Nat) (a:Act) (w:World),Code.rounds P c Q k a w→Code.rounds P c b k a w
 | 0,_,_,h=>h
 | k+1,a,w,h=>by
  rw[rounds_succ] at h ⊢
  refine wp_mono h fun e a w h=>?_
  cases e with
  | normal=>exact A4 hq k a w h
  | _=>exact hq _ _ _ h
def qG (P:Program) (n:Nat) (c:Code) (T:Env) (h:aC) (e:Exit) (T':Env) (h':aC):Prop :=
 h.length≤h'.length∧∃ k,∀ Z μ F a w,(∀ id,h.length≤id→id < h'.length→μ id=none)→rS n Z μ F T h a w →
  Code.rounds P c (fun e' a' w'=>e'=e∧∃ Z' μ',rS n Z' μ' F T' h' a' w'∧Ext Z μ w h.length Z' μ' w'∧(∀ id,id < h.length∨h'.length≤id→μ' id=μ id)) k a w
theorem qG.out {c:Code} {T d:Env} {h h1:aC} {e:Exit} (f:c4 P n c T h e d h1) (he:e≠.normal):qG P n c T h e d h1:=by
 refine ⟨f.1,1,fun Z μ F a w b s=>?_⟩
 rw[rounds_succ]
 refine wp_mono (f.2 Z μ F a w b s) ?_
 rintro e' g w' ⟨rfl,h⟩
 cases e' <;> first | exact absurd rfl he | exact ⟨rfl,h⟩
theorem qG.step {c:Code} {T r t:Env} {h h1 g:aC} {e:Exit} (i:c4 P n c T h .normal r h1) (m:qG P n c r h1 e t g):qG P n c T h e t g:=by
 obtain ⟨j,k,m⟩:=m
 refine ⟨X7 i.1 j,k+1,fun Z μ F a w b s=>?_⟩
 rw[rounds_succ]
 refine wp_mono (i.2 Z μ F a w (fun id h1 g=>b id h1 (XM g j)) s) ?_
 rintro e' o w' ⟨rfl,p,μ',q,hex,d⟩
 refine A4 ?_ k o w' (m p μ' F o w' (fun id h1 g=>?_) q)
 ·rintro e' o w' ⟨he,p,μ',q,l,f⟩
  refine ⟨he,p,μ',q,hex.trans l i.1 s.hr.lt,fun id u=>?_⟩
  have:=i.1
  rw[f id (by omega),d id (by omega)]
 ·rw[d id (.inr h1)]; exact b id (X7 i.1 h1) g
theorem c4.loop {c:Code} {T d:Env} {h f:aC} {e:Exit} (g:qG P n c T h e d f):c4 P n (.loop c) T h e d f:=by
 obtain ⟨h1,k,i⟩:=g
 exact ⟨h1,fun Z μ F a w b s=>wp_loop_rounds k (i Z μ F a w b s)⟩
def jumps (P:Program) (c:Code) (Q:Exit→Act→World→Prop):Nat→Code→Act→World→Prop
 | 0,_,_,_=>False
 | k+1,x,a,w=>x.wp P (fun e a w=>match e with
  | .goto l=>(match findLabel c l with
   | some rest=>jumps P c Q k rest a w
   | none=>Q (.goto l) a w)
  | e=>Q e a w) a w
theorem Rq {c:Code} {Q:Exit→Act→World→Prop} {a:Act} {w:World} (k:Nat) (h:jumps P c Q k c a w):(Code.scope c).wp P Q a w:=by
 intro b K cs
 have key:∀ k x a w,jumps P c Q k x a w→∃ e p w',Q e p w'∧Arrives P (lone (b.at a (.code x :: .inScope c :: K)) cs w) b K cs e p w':=by
  intro k
  induction k with
  | zero=>intro x a w h; exact h.elim
  | succ k s =>
   intro x a w h
   obtain ⟨e,f,g,hq,d⟩:=h b (.inScope c :: K) cs
   cases e with
   | normal=>exact ⟨.normal,f,g,hq,Steps.trans d (.one step_inScope)⟩
   | exit id=>exact ⟨.exit id,f,g,hq,fun r hk=>d r (by simp[exitTo,hk])⟩
   | goto l =>
    simp only at hq
    cases q:findLabel c l with
    | some rest =>
     rw[q] at hq
     obtain ⟨m,n,o,j,i⟩:=s rest f g hq
     exact ⟨m,n,o,j,.of_steps (d _ (by simp[gotoIn,q])) i⟩
    | none =>
     rw[q] at hq
     exact ⟨.goto l,f,g,hq,fun r hk=>d r (by simp[gotoIn,q,hk])⟩
   | ret=>exact ⟨_,f,g,hq,d⟩
   | panic t=>exact ⟨_,f,g,hq,d⟩
   | outgrown=>exact ⟨_,f,g,hq,d⟩
 obtain ⟨e,p,w',hq,d⟩:=key k c a w h
 exact ⟨e,p,w',hq,.of_steps (.one step_scope) d⟩
theorem DT {c:Code} {Q d:Exit→Act→World→Prop} (hq:∀ e a w,Q e a w→d e a w):∀ (k:Nat) (x:Code) (a:Act) (w:World),jumps P c Q k x a w→jumps P c d k x a w
 | 0,_,_,_,h=>h
 | k+1,x,a,w,h=>by
  refine wp_mono h fun e a w h=>?_
  cases e with
  | goto l =>
   simp only at h ⊢
   split
   ·rename_i rest b; rw[b] at h; exact DT hq k rest a w h
   ·rename_i b; rw[b] at h; exact hq _ _ _ h
  | _=>exact hq _ _ _ h
def sn (P:Program) (n:Nat) (c x:Code) (T:Env) (h:aC) (e:Exit) (T':Env) (h':aC):Prop :=
 h.length≤h'.length∧∃ k,∀ Z μ F a w,(∀ id,h.length≤id→id < h'.length→μ id=none)→rS n Z μ F T h a w →
  jumps P c (fun e' a' w'=>e'=e∧∃ Z' μ',rS n Z' μ' F T' h' a' w'∧Ext Z μ w h.length Z' μ' w'∧(∀ id,id < h.length∨h'.length≤id→μ' id=μ id)) k x a w
def LS (c:Code):Exit→Bool
 | .goto l=>(findLabel c l).isNone
 | _=>true
theorem sn.out {c x:Code} {T d:Env} {h h1:aC} {e:Exit} (f:c4 P n x T h e d h1) (he:LS c e=true):sn P n c x T h e d h1:=by
 refine ⟨f.1,1,fun Z μ F a w b s=>?_⟩
 refine wp_mono (f.2 Z μ F a w b s) ?_
 rintro e' g w' ⟨rfl,h⟩
 cases e' with
 | goto l =>
  simp only[LS,Option.isNone_iff_eq_none] at he
  simp only[he]; exact ⟨trivial,h⟩
 | _=>exact ⟨rfl,h⟩
theorem sn.jump {c x rest:Code} {T t u:Env} {h h1 g:aC} {e:Exit} {l:Nat} (i:c4 P n x T h (.goto l) t h1) (v:findLabel c l=some rest) (o:sn P n c rest t h1 e u g):sn P n c x T h e u g:=by
 obtain ⟨j,k,o⟩:=o
 refine ⟨X7 i.1 j,k+1,fun Z μ F a w b s=>?_⟩
 refine wp_mono (i.2 Z μ F a w (fun id h1 g=>b id h1 (XM g j)) s) ?_
 rintro e' p w' ⟨rfl,q,μ',r,hex,d⟩
 simp only[v]
 refine DT ?_ k rest p w' (o q μ' F p w' (fun id h1 g=>?_) r)
 ·rintro e' p w' ⟨he,q,μ',r,m,f⟩
  refine ⟨he,q,μ',r,hex.trans m i.1 s.hr.lt,fun id y=>?_⟩
  have:=i.1
  rw[f id (by omega),d id (by omega)]
 ·rw[d id (.inr h1)]; exact b id (X7 i.1 h1) g
theorem c4.scope {c:Code} {T d:Env} {h f:aC} {e:Exit} (g:sn P n c c T h e d f):c4 P n (.scope c) T h e d f:=by
 obtain ⟨h1,k,i⟩:=g
 exact ⟨h1,fun Z μ F a w b s=>Rq k (i Z μ F a w b s)⟩
def lW (vs:List V):Env:=fun t=>vs.getD t .any
def tg (P:Program) (T:Env) (h:aC):ResultVar→Option V
 | .tmp t=>some (T t)
 | .cell a t=>(na P t (T a) h.view).map (·.1)
def mW (P:Program) (T:Env) (h:aC):List ResultVar→Option (List V)
 | []=>some []
 | r :: rest=>match tg P T h r,mW P T h rest with
  | some v,some vs=>some (v :: vs)
  | _,_=>none
def MY (P:Program) (fn:Func) (T:Env) (h:aC):Option V:=match mW P T h fn.results.toList with
 | some [v]=>some v
 | some vs=>some (.bp vs)
 | none=>none
theorem Le {Z:Nat→Prop} {μ:Mu} {F:View} {T:Env} {h:aC} {a:Act} {w:World} (s:rS n Z μ F T h a w) (f:ResultVar→Sem Value) (o:∀ t,f (.tmp t)=pure (a.tmps.getD t undef))
  (q:∀ p t,f (.cell p t)=(do loadVar t (← asAddr (a.tmps.getD p undef)))):∀ (l:List ResultVar) (vs:List V),mW P T h l=some vs →
  ∃ xs:List Value,(l.mapM f).run P w=.ok xs w∧gA Z μ w.heap vs xs
 | [],vs,d=>by
  simp only[mW,Xe] at d; subst d
  exact ⟨[],rfl,rfl,fun i hi=>by simp at hi⟩
 | r :: l,vs,d=>by
  simp only[mW] at d
  split at d
  ·rename_i v B h1 I
   simp only[Xe] at d; subst d
   obtain ⟨xs,J,hr⟩:=Le s f o q l B I
   have one:∃ x,(f r).run P w=.ok x w∧az Z μ w.heap v x:=by
    cases r with
    | tmp t =>
     simp only[tg,Xe] at h1; subst h1
     rw[o]
     exact ⟨_,rfl,s.tm t⟩
    | cell p t =>
     simp only[tg,Xn] at h1
     obtain ⟨⟨v',eff,rd⟩,c,rfl⟩:=h1
     have hp:=s.tm p
     rw[q]
     unfold na at c
     split at c
     ·rename_i id i j C
      rw[C] at hp
      obtain ⟨b,o0,sz,hm,g⟩:=oy hp
      split at c
      ·rename_i esz es hH
       split at c
       ·rename_i hi
        simp only[Xn,Xh] at c
        obtain ⟨D,k,rfl,_,_⟩:=c
        have u:=s.hr.obj id
        have z:cat h F id=.arr esz es:=by
         simp only[cat]; rw[Xg (iS (by rw[hH]; simp)),hH]
        rw[z] at u
        obtain ⟨y,E,m⟩:=um (P:=P) (rowOf u hm hi).2 k
        exact ⟨y,by rw[g]; simp[asAddr,E],m⟩
       ·simp at c
      ·simp at c
     ·rename_i e j C
      rw[C] at hp
      obtain ⟨b,off,K,A,g⟩:=sZ hp
      simp only[Xn,Xh] at c
      obtain ⟨D,k,rfl,_,_⟩:=c
      obtain ⟨y,E,m⟩:=um (P:=P) A k
      exact ⟨y,by rw[g]; simp[asAddr,E],m⟩
     ·simp at c
   obtain ⟨x,G,H⟩:=one
   refine ⟨x :: xs,?_,⟨by simp[hr.1],fun i hi=>?_⟩⟩
   ·simp only[List.mapM_cons,Sem.run_bind]
    rw[G]
    simp only[Result.andThen_ok,Sem.run_bind]
    rw[J]
    rfl
   ·cases i with
    | zero=>exact H
    | succ i=>simpa using hr.2 i (by simpa using hi)
  ·simp at d
theorem bS.Ko {f:FuncId} {fn:Func} {c:Code} {vs:List V} {C:Env} {h A:aC} {e:Exit} {r:V} (L:P.funcs[f]?=some fn) (M:fn.body=some c) (Q:vs.length≤fn.ntmps)
  (K:c4 P fn.ntmps c (lW vs) h e C A) (he:e=.ret∨e=.normal) (hr:MY P fn C A=some r):bS P f vs h r A:=by
 refine ⟨K.1,fun Z μ F w xs j D l=>calls_of_wp L M ?_⟩
 have m:(xs.toArray ++ Array.replicate (fn.ntmps - xs.toArray.size) undef).size=fn.ntmps:=by
  have:=j.1; simp; omega
 have q:rS fn.ntmps Z μ F (lW vs) h { tmps:=xs.toArray ++ Array.replicate (fn.ntmps - xs.toArray.size) undef,defers:=[] } w:=by
  refine ⟨rfl,m,fun t=>?_,D⟩
  unfold lW
  by_cases E:t < vs.length
  ·have:=j.2 t E
   have G:t < xs.length:=j.1 ▸ E
   have g:(xs.toArray ++ Array.replicate (fn.ntmps - xs.toArray.size) undef).getD t undef=xs.getD t undef:=by
    rw[Xp,YE (by simpa using G)]
    simp[Xb]
   show az Z μ w.heap (vs.getD t .any) ((xs.toArray ++ Array.replicate (fn.ntmps - xs.toArray.size) undef).getD t undef)
   rw[g]; exact this
  ·have:vs.getD t .any=.any:=by simp[Xb,XL (Nat.le_of_not_lt E)]
   rw[this]; exact .any _
 refine wp_mono (K.2 Z μ F _ w l q) ?_
 rintro e' o w' ⟨rfl,B,μ',s,hex,k⟩
 have u:∃ x,(results fn o.tmps).run P w'=.ok x w'∧az B μ' w'.heap r x:=by
  unfold MY at hr
  have go:∀ d,mW P C A fn.results.toList=some d→(match d with | [v]=>some v | vs=>some (.bp vs))=some r→∃ x,(results fn o.tmps).run P w'=.ok x w'∧az B μ' w'.heap r x:=by
   intro d h1 g
   unfold results
   obtain ⟨n,H,b⟩:=Le s (fun
     | .tmp t=>pure (o.tmps.getD t undef)
     | .cell p t=>do loadVar t (← asAddr (o.tmps.getD p undef))) (fun _=>rfl) (fun _ _=>rfl) _ _ h1
   rw[Array.mapM_eq_mapM_toList]
   simp only[Sem.run_bind,Sem.run_map]
   show ∃ x,(((((fn.results.toList.mapM (fun
     | .tmp t=>pure (o.tmps.getD t undef)
     | .cell p t=>do loadVar t (← asAddr (o.tmps.getD p undef)):ResultVar→Sem Value)).run P w').andThen fun a w'=>.ok a.toArray w').andThen fun a w'=>(pure (if h:a.size=1 then a[0] else Value.tuple a):Sem Value).run P w')=.ok x w')∧_
   rw[H]
   simp only[Result.andThen_ok,Sem.run_pure]
   match d,n,b,g with
   | [v],[x],b,g =>
    simp only[Xe] at g
    subst g
    exact ⟨x,rfl,b.2 0 (by simp)⟩
   | [],[],b,g =>
    simp only[Xe] at g
    subst g
    exact ⟨.tuple #[],rfl,.bp _ _ rfl (fun i hi=>by simp at hi)⟩
   | v1 :: v2 :: d,N :: O :: n,b,g =>
    simp only[Xe] at g
    subst g
    refine ⟨.tuple (N :: O :: n).toArray,by simp,.bp _ _ (by simpa using b.1) (fun i hi=>?_)⟩
    have:=b.2 i hi
    simpa [Xp,Xb] using this
   | [_],[],b,_=>exact absurd b.1 (by simp)
   | [_],_ :: _ :: _,b,_=>exact absurd b.1 (by simp)
   | [],_ :: _,b,_=>exact absurd b.1 (by simp)
   | _ :: _ :: _,[],b,_=>exact absurd b.1 (by simp)
   | _ :: _ :: _,[_],b,_=>exact absurd b.1 (by simp)
  split at hr
  ·rename_i v I; exact go _ I hr
  ·rename_i d J I
   refine go _ I ?_
   split
   ·rename_i v; exact absurd rfl (J v)
   ·exact hr
  ·simp at hr
 obtain ⟨x,y,z⟩:=u
 rcases he with rfl | rfl
 ·exact ⟨s.defers,x,y,x,B,μ',rfl,z,s.hr,hex,k⟩
 ·exact ⟨s.defers,x,y,x,B,μ',rfl,z,s.hr,hex,k⟩
end
end Gv
