/-
  Part 3 of the proof: what the machine does and what the functions answer.
  Conditions: those that each lemma names.
-/
import Derived.Orders
import Derived.LoopN
import Derived.Scope
import Derived.Test.YtiophifnkakjgaaGreatSGzC2B
set_option linter.unusedSimpArgs false
set_option linter.unusedVariables false
set_option maxRecDepth 100000
set_option maxHeartbeats 20000000
namespace Gv
open Go
section
variable {Z:Nat->Prop} {μ μ':Mu} {w w':World} {P:Program} {H:View} {n:Nat} {v:V} {au:aM} {rd:List Nat}
theorem pD {c:Operand->Value} {o:Oper} {b:Builtin} {args:Array Operand} {a:Array TypeId} (d:o.op=.call { callee:=.builtin b,args:=args,argTypes:=a }) :
  execOp c o=builtin b a o.type (args.map fun | .const _=>true | _=>false) (args.map c):=by
 unfold execOp
 rw[d]
 rfl
def mD (k:Nat) (x:Value) (b:Bool):Prop:=match k,x with
 | 0,.slice a _ _=>a.isNone=b
 | 1,.pointer a=>a.isNone=b
 | 2,.map a=>a.isNone=b
 | 3,.nilFunc=>b=true
 | 3,.func _ _ _=>b=false
 | _,_=>False
theorem HS {k:Nat} {x:V} {d:Value} {b:Bool} (h:dq k x=some b) (c:aq Z μ w.heap x d):mD k d b:=by
 unfold dq at h
 split at h
 .simp at h;subst h;cases c with | emp k a h1 e=>rw[h1 rfl];rfl
 .simp at h;subst h
  cases c with
  | emp k a h1 e =>
   cases a with
   | none=>exact absurd rfl (e rfl)
   | some a=>rfl
 .simp at h;subst h;cases c;rfl
 .simp at h;subst h;cases c;rfl
 .simp at h;subst h;cases c;rfl
 .simp at h;subst h;cases c;rfl
 .simp at h;subst h;cases c;rfl
 .simp at h;subst h;cases c;rfl
 .simp at h;subst h;cases c;rfl
 .simp at h;subst h;cases c;rfl
 .simp at h;subst h;cases c;rfl
 .simp at h;subst h;cases c;rfl
 .simp at h
theorem Dn {t:TypeId} {k:Nat} (h:gn P t=some k):(k=0/\∃ e,P.underlying t=some (.slice e))∨(k=1/\∃ e,P.underlying t=some (.pointer e)) ∨
  (k=2/\∃ e f,P.underlying t=some (.map e f))∨(k=3/\∃ p q r,P.underlying t=some (.func p q r)):=by
 unfold gn at h
 split at h
 .rename_i e hu;simp at h;exact .inl ⟨h.symm,e,hu⟩
 .rename_i e hu;simp at h;exact .inr (.inl ⟨h.symm,e,hu⟩)
 .rename_i e f hu;simp at h;exact .inr (.inr (.inl ⟨h.symm,e,f,hu⟩))
 .rename_i p q r hu;simp at h;exact .inr (.inr (.inr ⟨h.symm,p,q,r,hu⟩))
 .simp at h
def mO (P:Program) (w:World) (t:TypeId) (x y:Operand) (xv yv:Value) (b:Bool):Prop :=
 (Op.equal t xv yv).run P w=.ok b w/\(∀ op,(eqGuard op t x y xv yv).run P w=.ok () w)/\(binOp .eql t xv yv=(do pure (.bool (<-Op.equal t xv yv))))/\(binOp .neq t xv yv=(do pure (.bool (!(<-Op.equal t xv yv)))))
theorem iL (t:TypeId) (x y:Value):Op.equal t x y=Op.equalIn (9999+1) t x y:=rfl
theorem I2 {t e:TypeId} {x y:Operand} {a d:Option Addr} {l c f g:Nat} {b:Bool} (hu:P.underlying t=some (.slice e)) (h:(a.isNone=true/\d.isNone=b)∨(a.isNone=b/\d.isNone=true)):mO P w t x y (.slice a l c) (.slice d f g) b:=by
 refine⟨?_,λop=>by cases op <;> rfl,rfl,rfl⟩
 rw[iL]
 generalize (9999:Nat)=depth
 simp only[Op.equalIn,Sem.run_bind,aK hu,Result.andThen_ok]
 cases a with
 | none=>cases d <;> simp_all
 | some a=>cases d <;> simp_all
theorem Dl {t e:TypeId} {x y:Operand} {a c:Option Addr} {b:Bool} (hu:P.underlying t=some (.pointer e)) (h:(a.isNone=true/\c.isNone=b)∨(a.isNone=b/\c.isNone=true)):mO P w t x y (.pointer a) (.pointer c) b:=by
 refine⟨?_,λop=>by cases op <;> rfl,rfl,rfl⟩
 rw[iL]
 generalize (9999:Nat)=depth
 simp only[Op.equalIn,Sem.run_bind,aK hu,Result.andThen_ok]
 cases a with
 | none=>cases c <;> simp_all
 | some a=>cases c <;> simp_all
theorem Lu {t e f:TypeId} {x y:Operand} {a c:Option Nat} {b:Bool} (hu:P.underlying t=some (.map e f)) (h:(a.isNone=true/\c.isNone=b)∨(a.isNone=b/\c.isNone=true)):mO P w t x y (.map a) (.map c) b:=by
 refine⟨?_,λop=>by cases op <;> rfl,rfl,rfl⟩
 rw[iL]
 generalize (9999:Nat)=depth
 simp only[Op.equalIn,Sem.run_bind,aK hu,Result.andThen_ok]
 cases a with
 | none=>cases c <;> simp_all
 | some a=>cases c <;> simp_all
theorem JN {t:TypeId} {p q:Array TypeId} {r:Bool} {x y:Operand} (hu:P.underlying t=some (.func p q r)) :
  mO P w t x y .nilFunc .nilFunc true/\(∀ f m k,mO P w t x y .nilFunc (.func f m k) false)/\(∀ f m k,mO P w t x y (.func f m k) .nilFunc false):=by
 refine⟨⟨?_,λop=>by cases op <;> rfl,rfl,rfl⟩,λf m k=>⟨?_,λop=>by cases op <;> rfl,rfl,rfl⟩,λf m k=>⟨?_,λop=>by cases op <;> rfl,rfl,rfl⟩⟩
 all_goals
  rw[iL]
  generalize (9999:Nat)=depth
  simp only[Op.equalIn,Sem.run_bind,aK hu,Result.andThen_ok,Sem.run_pure]
theorem Mj {t:TypeId} {x y:Operand} {n o:V} {j d:Value} {b:Bool} (v:aq Z μ w.heap n j) (h1:aq Z μ w.heap o d) (h:yK P t n o=some b):mO P w t x y j d b:=by
 have g:∃ k m l,gn P t=some k/\dq k n=some m/\dq k o=some l/\((m=true/\l=b)∨(m=b/\l=true)):=by
  unfold yK at h
  split at h
  .rename_i k hk
   split at h
   .rename_i l s u
    simp at h;subst h
    exact⟨k,true,_,hk,s,u,.inl ⟨rfl,rfl⟩⟩
   .rename_i l _ s u
    simp at h;subst h
    exact⟨k,_,true,hk,s,u,.inr ⟨rfl,rfl⟩⟩
   .simp at h
  .simp at h
 obtain⟨k,m,l,hk,z,A,i⟩:=g
 have c:=HS z v
 have a:=HS A h1
 clear h v h1 z A
 rcases Dn hk with ⟨rfl,e,hu⟩ | ⟨rfl,e,hu⟩ | ⟨rfl,e,f,hu⟩ | ⟨rfl,p,q,r,hu⟩
 .cases j <;> simp only[mD] at c
  cases d <;> simp only[mD] at a
  exact I2 hu (by rw[c,a];exact i)
 .cases j <;> simp only[mD] at c
  cases d <;> simp only[mD] at a
  exact Dl hu (by rw[c,a];exact i)
 .cases j <;> simp only[mD] at c
  cases d <;> simp only[mD] at a
  exact Lu hu (by rw[c,a];exact i)
 .obtain⟨g1,g2,g3⟩:=JN (P:=P) (w:=w) (x:=x) (y:=y) hu
  cases j <;> simp only[mD] at c
  .cases d <;> simp only[mD] at a
   .subst c a
    simp at i
   .subst c a
    have:b=false:=by simpa using i.symm
    subst this;exact g3 _ _ _
  .cases d <;> simp only[mD] at a
   .subst c a
    have:b=false:=by simpa using i.symm
    subst this;exact g2 _ _ _
   .subst c a
    have:b=true:=by simpa using i.symm
    subst this;exact g1
theorem M5 {o:Oper} {T:Env} {a:Act} (h:bo P o T H n=some (v,au,rd)) (A:∀ x∈o.op.operands,aq Z μ w.heap (ev T x) (a.eval x)) (c:Ctx Z μ w.heap H rd n au) :
  aH Z μ w n v au ((execOp a.eval o).run P w):=by
 unfold bo at h
 split at h
 ·
  rename_i x g
  simp only[OJ,OL] at h
  obtain⟨rfl,rfl,rfl⟩:=h
  rw[g] at A
  refine⟨.value (a.eval x),w,μ,by simp[execOp,g],.inl ⟨_,rfl,A x (by simp[Op.operands])⟩,c8.refl _,fD⟩
 .rename_i x g
  simp only[OJ,OL] at h
  obtain⟨rfl,rfl,rfl⟩:=h
  rw[g] at A
  refine⟨.value (a.eval x),w,μ,by simp[execOp,g],.inl ⟨_,rfl,A x (by simp[Op.operands])⟩,c8.refl _,fD⟩
 ·
  rename_i cc x y g
  rw[g] at A
  split at h
  .rename_i t ht
   simp only[OJ,OL] at h
   obtain⟨rfl,rfl,rfl⟩:=h
   have h1:=A cc (by simp[Op.operands])
   rw[ht] at h1
   have h1:=dr h1
   refine⟨.value (if t then a.eval x else a.eval y),w,μ,by simp[execOp,g,h1,asBool],.inl ⟨_,rfl,?_⟩,c8.refl _,fD⟩
   cases t with
   | true=>exact A x (by simp[Op.operands])
   | false=>exact A y (by simp[Op.operands])
  .simp at h
 ·
  rename_i e g
  split at h
  .rename_i z hz
   have W:∃ i U,P.info? e=some i/\i.zero=some U/\z=(dJ U).cells:=by
    cases hi:P.info? e with
    | none=>simp[zeroCells,hi] at hz
    | some i =>
     obtain⟨U,h1,N⟩:=fA hi hz
     exact⟨i,U,rfl,h1,N⟩
   obtain⟨i,U,hi,a1,rfl⟩:=W
   have:=Fk (P:=P) (x:=U) (t:=e) h (λV=>eH (eF _) V) c
   have C:(execOp a.eval o).run P w=((do pure (Next.value (.pointer (some (<-newVar e U)))):Sem Next).run P w):=by
    unfold execOp
    rw[g]
    simp[Instr.alloc,gA hi a1]
   rw[C];exact this
  .simp at h
 ·
  rename_i e x g
  rw[g] at A
  have:=MN (P:=P) (t:=e) h (λV=>eH (A x (by simp[Op.operands])) V) c
  have C:execOp a.eval o=(do pure (Next.value (<-Instr.box e (a.eval x)))):=by
   unfold execOp;rw[g]
  rw[C];exact this
 ·
  rename_i t parts g
  rw[g] at A
  have C:execOp a.eval o=(do pure (Next.value (<-Instr.build t (parts.map λ(i,x)=>(i,a.eval x))))):=by
   unfold execOp;rw[g]
  rw[C]
  refine II h ?_
  rw[Array.toList_map]
  exact wx _ (λx E=>A x (by simpa [Op.operands] using E))
 ·
  rename_i t len parts g
  rw[g] at A
  have C:execOp a.eval o=(do pure (Next.value (<-Instr.buildSlice t len (parts.map λ(i,x)=>(i,a.eval x))))):=by
   unfold execOp;rw[g]
  rw[C]
  refine yZ h ?_ c
  rw[Array.toList_map]
  exact wx _ (λx E=>A x (by simpa [Op.operands] using E))
 ·
  rename_i t x g
  rw[g] at A
  have C:execOp a.eval o=(do pure (Next.value (<-Instr.loadAt t (a.eval x)))):=by
   unfold execOp;rw[g]
  rw[C]
  exact Kp h (A x (by simp[Op.operands])) c
 ·
  rename_i t x y g
  rw[g] at A
  have C:execOp a.eval o=(do Instr.storeAt t (a.eval x) (a.eval y);pure Next.skip):=by
   unfold execOp;rw[g]
  rw[C]
  exact Jo h (A x (by simp[Op.operands])) (A y (by simp[Op.operands])) c
 ·
  rename_i x g
  rw[g] at A
  have h1:=A x (by simp[Op.operands])
  split at h
  .rename_i id i j E
   simp only[OJ,OL] at h
   obtain⟨rfl,rfl,rfl⟩:=h
   rw[E] at h1
   have N:=h1
   obtain⟨b,o0,s,hm,he⟩:=kE h1
   exact⟨.value (a.eval x),w,μ,by simp[execOp,g,he],.inl ⟨_,rfl,N⟩,c8.refl _,fD⟩
  .rename_i e j E
   simp only[OJ,OL] at h
   obtain⟨rfl,rfl,rfl⟩:=h
   rw[E] at h1
   have N:=h1
   obtain⟨b,off,hz,a7,he⟩:=pv h1
   exact⟨.value (a.eval x),w,μ,by simp[execOp,g,he],.inl ⟨_,rfl,N⟩,c8.refl _,fD⟩
  .rename_i f p q E
   simp only[OJ,OL] at h
   obtain⟨rfl,rfl,rfl⟩:=h
   rw[E] at h1
   have N:=h1
   generalize he:a.eval x=y at h1 N
   cases h1 with
   | fn _ _ _ O bs _ _ _ _=>exact⟨.value (.func (.func f) O bs),w,μ,by simp[execOp,g,he],.inl ⟨_,rfl,N⟩,c8.refl _,fD⟩
  .simp at h
 ·
  rename_i t x f g
  rw[g] at A
  have C:execOp a.eval o=(do pure (Next.value (<-Instr.fieldAt t (a.eval x) f))):=by
   unfold execOp;rw[g]
  rw[C]
  exact AQ h (A x (by simp[Op.operands]))
 ·
  rename_i t x f g
  rw[g] at A
  have C:execOp a.eval o=(do pure (Next.value (<-Instr.field t (a.eval x) f))):=by
   unfold execOp;rw[g]
  rw[C]
  exact Jd h (A x (by simp[Op.operands]))
 ·
  rename_i t x i g
  rw[g] at A
  have C:execOp a.eval o=(do pure (Next.value (<-Instr.indexAt t (a.eval x) (a.eval i)))):=by
   unfold execOp;rw[g]
  rw[C]
  exact AU h (A x (by simp[Op.operands])) (A i (by simp[Op.operands]))
 ·
  rename_i t x lo hi X g
  split at h
  .refine oU h A (λQ B=>?_)
   rw[g] at B
   have J:=B x (by simp[Op.operands])
   have h1:lo.map Q=lo.map a.eval:=by cases lo with | none=>rfl | some y=>simp[B y (by simp[Op.operands])]
   have N:hi.map Q=hi.map a.eval:=by cases hi with | none=>rfl | some y=>simp[B y (by simp[Op.operands])]
   have h3:X.map Q=X.map a.eval:=by cases X with | none=>rfl | some y=>simp[B y (by simp[Op.operands])]
   unfold execOp;rw[g];simp only[J,h1,N,h3]
  .rw[g] at A
   have C:execOp a.eval o=(do pure (Next.value (<-Instr.sliceAt t (a.eval x) (lo.map a.eval) (hi.map a.eval) (X.map a.eval)))):=by
    unfold execOp;rw[g]
   rw[C]
   exact Ho h (A x (by simp[Op.operands])) (yQ lo (λy S=>A y (by simp[Op.operands] at S ⊢;simp[S]))) (yQ hi (λy S=>A y (by simp[Op.operands] at S ⊢;simp[S]))) (yQ X (λy S=>A y (by simp[Op.operands] at S ⊢;simp[S])))
 ·
  rename_i t l cc g
  rw[g] at A
  have C:execOp a.eval o=(do pure (Next.value (<-Instr.makeSlice t (a.eval l) (a.eval cc)))):=by
   unfold execOp;rw[g]
  rw[C]
  exact AL h (A l (by simp[Op.operands])) (A cc (by simp[Op.operands])) c
 ·
  rename_i t r g
  split at h
  .simp only[OJ,OL] at h
   obtain⟨rfl,rfl,rfl⟩:=h
   refine⟨.value (.map (some w.heap.size)),w.alloc (.map #[] 0),μ.set n (w.heap.size,0,0),by simp[execOp,g,Instr.makeMap],.inl ⟨_,rfl,.mp n w.heap.size 0 0 (by simp[Mu.set])⟩,fH _ _,?_⟩
   refine⟨w.heap.size,0,0,OR _,by rw[heap_alloc];simp,rfl,by rw[heap_alloc];exact cZ _ _,?_⟩
   intro b o0 s E
   simp only[Mu.set,if_true,OJ,OL] at E
   obtain⟨rfl,rfl,rfl⟩:=E
   exact⟨#[],by rw[heap_alloc];simp,rfl,λi hi=>by simp at hi⟩
  .simp at h
 ·
  rename_i f first cap g
  simp only[OJ,OL] at h
  obtain⟨rfl,rfl,rfl⟩:=h
  rw[g] at A
  have h1:=EL (T:=T) (a:=a) first (λx E=>A x (by simp[Op.operands,E]))
  have N:=EL (T:=T) (a:=a) cap (λx E=>A x (by simp[Op.operands,E]))
  exact⟨.value (.func (.func f) (first.map a.eval) (cap.map a.eval)),w,μ,by simp[execOp,g,Instr.makeFunc],.inl ⟨_,rfl,.fn f _ _ _ _ h1.1 N.1 h1.2 N.2⟩,c8.refl _,fD⟩
 ·
  rename_i t m k ok g
  rw[g] at A
  have C:execOp a.eval o=(do pure (Next.value (<-Instr.lookup t (a.eval m) (a.eval k) ok))):=by
   unfold execOp;rw[g]
  rw[C]
  exact F0 h (A m (by simp[Op.operands])) (A k (by simp[Op.operands])) c
 .rename_i t m k x g
  rw[g] at A
  have C:execOp a.eval o=(do Instr.mapUpdate t (a.eval m) (a.eval k) (a.eval x);pure Next.skip):=by
   unfold execOp;rw[g]
  rw[C]
  exact tw h (A m (by simp[Op.operands])) (A k (by simp[Op.operands])) (A x (by simp[Op.operands])) c
 .rename_i t m k x g
  rw[g] at A
  have C:execOp a.eval o=(do Instr.mapUpdate t (a.eval m) (a.eval k) (a.eval x);pure Next.skip):=by
   unfold execOp;rw[g]
  rw[C]
  exact tw h (A m (by simp[Op.operands])) (A k (by simp[Op.operands])) (A x (by simp[Op.operands])) c
 .rename_i t m k g
  rw[g] at A
  have C:execOp a.eval o=(do pure (Next.value (<-Instr.mapEntry t (a.eval m) (a.eval k)))):=by
   unfold execOp;rw[g]
  rw[C]
  exact Br h (A m (by simp[Op.operands])) (A k (by simp[Op.operands])) c
 .rename_i t m s x g
  rw[g] at A
  have C:execOp a.eval o=(do Instr.entryStore t (a.eval m) (a.eval s) (a.eval x);pure Next.skip):=by
   unfold execOp;rw[g]
  rw[C]
  exact zn h (A m (by simp[Op.operands])) (A s (by simp[Op.operands])) (A x (by simp[Op.operands])) c
 ·
  rename_i t i g
  rw[g] at A
  have h1:=A t (by simp[Op.operands])
  split at h
  .rename_i vs a6
   split at h
   .rename_i hi
    simp only[OJ,OL] at h
    obtain⟨rfl,rfl,rfl⟩:=h
    rw[a6] at h1
    generalize he:a.eval t=y at h1
    cases h1 with
    | aU _ O hl hr =>
     have h3:=hr i hi
     have Y:i < O.size:=hl ▸ hi
     simp only[OP,OZ Y,OS] at h3
     exact⟨.value O[i],w,μ,by simp[execOp,g,he,Instr.extract,Y],.inl ⟨_,rfl,h3⟩,c8.refl _,fD⟩
   .simp at h
  .simp at h
 ·
  rename_i t x g
  rw[g] at A
  have h1:=A x (by simp[Op.operands])
  split at h
  .rename_i s hs
   split at h
   .rename_i M
    simp only[OJ,OL] at h
    obtain⟨rfl,rfl,rfl⟩:=h
    rw[hs] at h1
    have h1:=dr h1
    have hu:P.underlying t=some .string:=by
     rw[g] at M
     unfold isStr at M
     simp only at M
     split at M <;> simp_all
    refine⟨.value (.pointer (some ⟨w.heap.size,0,none⟩)),w.alloc (.stringIter s 0),μ.set n (w.heap.size,0,0),by simp[execOp,g,h1,Instr.range,aK hu],.inl ⟨_,rfl,?_⟩,fH _ _,?_⟩
    .have:=aq.ptr (Z:=Z) (μ:=μ.set n (w.heap.size,0,0)) (hp:=(w.alloc (.stringIter s 0)).heap) n 0 0 w.heap.size 0 0 (by simp[Mu.set])
     simpa using this
    .refine⟨w.heap.size,0,0,OR _,by rw[heap_alloc];simp,rfl,by rw[heap_alloc];exact cZ _ _,?_⟩
     intro b o0 s' E
     simp only[Mu.set,if_true,OJ,OL] at E
     obtain⟨rfl,rfl,rfl⟩:=E
     exact⟨rfl,by rw[heap_alloc];simp⟩
   .simp at h
  .simp at h
 ·
  rename_i it g
  rw[g] at A
  have C:execOp a.eval o=(do pure (Next.value (<-Instr.next (a.eval it) true o.type))):=by
   unfold execOp;rw[g]
  rw[C]
  exact KF h (A it (by simp[Op.operands])) c
 ·
  rename_i s d x g
  split at h
  .rw[g] at A
   have C:execOp a.eval o=(do pure (Next.value (<-convert s d (a.eval x)))):=by
    unfold execOp;rw[g]
   rw[C]
   exact Dq h (A x (by simp[Op.operands])) c
  .refine oU h A (λQ B=>?_)
   rw[g] at B
   have J:=B x (by simp[Op.operands])
   unfold execOp;rw[g];simp only[J]
 ·
  rename_i b args R g
  have D:execOp a.eval o=builtin b R o.type (args.map fun | .const _=>true | _=>false) (args.map a.eval):=pD g
  have G:cw P o T=some (v,au,rd)->aH Z μ w n v au ((execOp a.eval o).run P w):=by
   intro h
   refine oU h A (λQ B=>?_)
   rw[g] at B
   rw[pD g,pD g]
   have:args.map Q=args.map a.eval:=by
    apply Array.map_congr_left
    intro x E
    exact B x (by simp[Op.operands,Call.operands,E])
   rw[this]
  have I:∀ x∈args.toList,aq Z μ w.heap (ev T x) (a.eval x):=λx E=>A x (by rw[g];simp[Op.operands,Call.operands];simpa using E)
  have J:∀ {k:Nat},k < R.size->R[k]?=some (R.getD k 0):=by
   intro k hk
   simp[OP,hk]
  have L:∀ x,args.toList=[x]->args.map a.eval = #[a.eval x]:=by
   intro x E
   apply Array.ext'
   simp[E]
  have K:∀ x y,args.toList=[x,y]->args.map a.eval = #[a.eval x,a.eval y]:=by
   intro x y E
   apply Array.ext'
   simp[E]
  split at h
  .rename_i x u
   split at h
   .rename_i F
    rw[D,L x u]
    exact Mq h (J F) (I x (by rw[u];simp)) c
   .simp at h
  .rename_i x y u
   split at h
   .rename_i F
    rw[D,K x y u]
    exact FI h (J (by omega)) (J (by omega)) F.2 (I x (by rw[u];simp)) (I y (by rw[u];simp)) c
   .split at h
    .rename_i F
     rw[D,K x y u]
     exact JE h (J (by omega)) (J (by omega)) F.2 (I x (by rw[u];simp)) (I y (by rw[u];simp)) c
    .simp at h
  .rename_i x u
   split at h
   .rename_i F
    rw[D,L x u]
    exact Mk h (J F) (I x (by rw[u];simp)) c
   .simp at h
  .rename_i x y u
   split at h
   .rename_i F
    rw[D,K x y u]
    exact Ki h (J F) (I x (by rw[u];simp)) (I y (by rw[u];simp)) c
   .simp at h
  .rename_i x y u
   split at h
   .rename_i F
    rw[D,K x y u]
    exact FX h (J F) (I x (by rw[u];simp)) (I y (by rw[u];simp)) c
   .simp at h
  .rename_i x u
   split at h
   .rename_i F
    rw[D,L x u]
    exact I0 h (J F) (I x (by rw[u];simp)) c
   .simp at h
  .exact G h
  .exact G h
  .exact G h
  .exact G h
  .exact G h
  .simp at h
 .rename_i op t x y yt g
  split at h
  .rw[g] at A
   have J:=A x (by simp[Op.operands])
   have h1:=A y (by simp[Op.operands])
   have go:∀ b,yK P t (ev T x) (ev T y)=some b->mO P w t x y (a.eval x) (a.eval y) b:=λb hb=>Mj J h1 hb
   split at h
   .rename_i b hb
    simp only[OJ,OL] at h
    obtain⟨rfl,rfl,rfl⟩:=h
    obtain⟨g1,g2,g3,_⟩:=go _ hb
    refine⟨.value (.bool b),w,μ,?_,.inl ⟨_,rfl,.val _ rfl⟩,c8.refl _,fD⟩
    unfold execOp;rw[g]
    simp only[Sem.run_bind,g2,Result.andThen_ok,g3,g1,Sem.run_pure]
   .rename_i b hb
    simp only[OJ,OL] at h
    obtain⟨rfl,rfl,rfl⟩:=h
    obtain⟨g1,g2,_,g4⟩:=go _ hb
    refine⟨.value (.bool (!b)),w,μ,?_,.inl ⟨_,rfl,.val _ rfl⟩,c8.refl _,fD⟩
    unfold execOp;rw[g]
    simp only[Sem.run_bind,g2,Result.andThen_ok,g4,g1,Sem.run_pure]
   .simp at h
  .refine oU h A (λQ B=>?_)
   rw[g] at B
   have J:=B x (by simp[Op.operands])
   have h1:=B y (by simp[Op.operands])
   unfold execOp;rw[g];simp only[J,h1]
 .rename_i op t x g
  refine oU h A (λQ B=>?_)
  rw[g] at B
  have J:=B x (by simp[Op.operands])
  unfold execOp;rw[g];simp only[J]
 .rename_i t x y g
  refine oU h A (λQ B=>?_)
  rw[g] at B
  have J:=B x (by simp[Op.operands])
  have h1:=B y (by simp[Op.operands])
  unfold execOp;rw[g];simp only[J,h1]
 .simp at h
end
def aM.wr:aM->List Nat
 | .none | .new _=>[]
 | .dP id _ | .cF id _=>[id]
def fW (μ:Mu) (b:Nat):Prop:=∃ id o s,μ id=some (b,o,s)
structure Ext (Z:Nat->Prop) (μ:Mu) (w:World) (m:Nat) (Z':Nat->Prop) (μ':Mu) (w':World):Prop where
 same:c8 w w'
 mono:eL Z Z' μ μ' w.heap w'.heap
 frame:ee w.heap w'.heap (fW μ)
 Kg:∀ b,Z' b->Z b∨w.heap.size<=b
 yw:∀ id b o s,μ' id=some (b,o,s)->μ id=some (b,o,s)∨(m<=id/\(w.heap.size<=b∨fW μ b))
theorem Ext.refl (Z:Nat->Prop) (μ:Mu) (w:World) (m:Nat):Ext Z μ w m Z μ w :=
 ⟨c8.refl _,eL.refl _ _ _,λ_ _ _=>rfl,λ_ h=>.inl h,λ_ _ _ _ h=>.inl h⟩
theorem Ext.trans {Z l c:Nat->Prop} {μ μ' a:Mu} {w w' d:World} {m n:Nat} (h:Ext Z μ w m l μ' w') (k:Ext l μ' w' n c a d) (hm:m<=n) (q:∀ id b o s,μ id=some (b,o,s)->b < w.heap.size):Ext Z μ w m c a d:=by
 have e:∀ b,fW μ' b->w.heap.size<=b∨fW μ b:=by
  rintro b ⟨id,o,s,i⟩
  rcases h.yw _ _ _ _ i with h1 | ⟨_,h1 | h1⟩
  .exact .inr ⟨_,_,_,h1⟩
  .exact .inl h1
  .exact .inr h1
 refine⟨h.same.trans k.same,h.mono.trans k.mono,λb g p=>?_,λb g=>?_,λid b o s i=>?_⟩
 .rw[k.frame b (O0 g h.same.size) (λj=>?_),h.frame b g p]
  rcases e b j with h1 | h1
  .omega
  .exact p h1
 .rcases k.Kg b g with h1 | h1
  .exact h.Kg b h1
  .exact .inr (Pp h.same.size h1)
 .rcases k.yw _ _ _ _ i with h1 | ⟨h1,f⟩
  .exact h.yw _ _ _ _ h1
  .refine .inr ⟨by omega,?_⟩
   rcases f with f | f
   .exact .inl (Pp h.same.size f)
   .exact e b f
def cat (h:aw) (F:View):View:=λid=>if id < h.length then h.view id else F id
def bu (P:Program) (f:FuncId) (vs:List V) (h:aw) (r:V) (h':aw):Prop :=
 h.length<=h'.length/\∀ Z μ (F:View) (w:World) (xs:List Value),er Z μ w.heap vs xs->fc Z μ w.heap (cat h F)->(∀ id,h.length<=id->id < h'.length->μ id=none) ->
  Calls P f xs.toArray w λe w'=>∃ x Z' μ',e=.returned x/\aq Z' μ' w'.heap r x/\fc Z' μ' w'.heap (cat h' F)/\Ext Z μ w h.length Z' μ' w'/\(∀ id,id < h.length∨h'.length<=id->μ' id=μ id)
def bX (P:Program) (f:FuncId):Bool:=match P.funcs[f]? with
 | some fn=>fn.name != "runtime.NumGoroutine" && fn.body.isSome
 | none=>false
def oH (n:Nat) (o:Oper):Bool:=match o.dst with
 | some d=>d < n
 | none=>true
def bT (n:Nat) (all:List Oper) (T:Env) (o:Oper):Option Bool:=match o.guard with
 | none=>some true
 | some (j,want)=>match (all[j]?).bind (·.dst) with
  | some d=>if d < n then (match T d with
   | .val (.bool b)=>some (b == want)
   | .aU []=>some false
   | _=>none) else none
  | none=>none
inductive ct (P:Program) (n:Nat) (all:List Oper):Oper->Env->aw->V->aw->List Nat->List Nat->Bool->Prop
 | skip {o:Oper} {T:Env} {h:aw} : bT n all T o=some false->ct P n all o T h (.aU []) h [] [] false
 | op {o:Oper} {T:Env} {h:aw} {v:V} {au:aM} {rd:List Nat} : bT n all T o=some true->bo P o T h.view h.length=some (v,au,rd)->ct P n all o T h v (au.apply h) rd au.wr false
 | gg {o:Oper} {T:Env} {h:aw} {e:TypeId} {x:Operand} : bT n all T o=some true->o.op=.box e x->(ev T x).cells.all aD=true->ct P n all o T h (.aC (ev T x).cells 0) h [] [] false
 | ej {o:Oper} {T:Env} {h:aw} {s d e:TypeId} {x:Operand} {st:ByteArray} : bT n all T o=some true->o.op=.convert s d x->P.underlying s=some .string->P.underlying d=some (.slice e)->P.underlying e=some (.int .u8)->ev T x=.val (.string st)->ct P n all o T h (.aX (eC st)) h [] [] false
 | call {o:Oper} {T:Env} {h h':aw} {r:V} {f:Operand} {args:Array Operand} {ats:Array TypeId} {g:FuncId} {first cap:List V} {wr:List Nat} : bT n all T o=some true ->
  o.op=.call { callee:=.value f,args:=args,argTypes:=ats }->ev T f=.fn g first cap->bX P g=true->bu P g (first ++ args.toList.map (ev T) ++ cap) h r h' ->
  (∀ id,id < h.length->¬ id∈wr->h'.view id=h.view id)->(∀ id,id∈wr->id < h.length)->ct P n all o T h r h' [] wr true
theorem fC {h:aw} {id:Nat} (a:h.view id≠.dead):id < h.length:=by
 rcases Pn id h.length with h1 | h1
 .exact h1
 .exfalso;apply a;simp[aw.view,OH,O5 h1]
theorem o9 {h:aw} {id:Nat} {o:bp} (a:id < h.length):aw.view (h.set id o)=View.set h.view id o:=by
 funext k
 simp only[aw.view,View.set,OH,Qh]
 by_cases e:id=k
 .subst e;simp[a]
 .rw[OK e,OK (λq=>e q.symm)]
theorem Ar (h:aw) (o:bp):aw.view (h ++ [o])=View.set h.view h.length o:=by
 funext k
 simp only[aw.view,View.set,OH]
 by_cases e:k=h.length
 .subst e;simp
 .rw[OK e]
  rcases Pn k h.length with h1 | h1
  .rw[O6 h1]
  .rw[Ph h1,O5 (by simp;omega),O5 h1]
theorem iG {h:aw} {au:aM} (a:∀ id,id∈au.wr->h.view id≠.dead):aw.view (au.apply h)=au.view h.view h.length:=by
 cases au with
 | none=>rfl
 | new o=>exact Ar h o
 | dP id o=>exact o9 (fC (a id (by simp[aM.wr])))
 | cF id o =>
  have:=fC (a id (by simp[aM.wr]))
  simp only[aM.apply,aM.view]
  rw[Ar,o9 this]
  simp
theorem eE (h:aw) (au:aM):(au.apply h).length=h.length+(match au with | .new _ | .cF _ _=>1 | _=>0):=by
 cases au <;> simp[aM.apply]
theorem j0 {P:Program} {o:Oper} {T:Env} {H:View} {n:Nat} {v:V} {au:aM} {rd:List Nat} (h:bo P o T H n=some (v,au,rd)):∀ id,id∈au.wr->H id≠.dead/\id∈rd:=by
 have b:∀ {c:V} {e:aM} {r:List Nat},e.wr=[]->some (c,e,r)=some (v,au,rd)->∀ id,id∈au.wr->H id≠.dead/\id∈rd:=by
  intro c e r he heq id d
  simp only[OJ,OL] at heq
  obtain⟨_,rfl,_⟩:=heq
  rw[he] at d;simp at d
 have pu:cw P o T=some (v,au,rd)->∀ id,id∈au.wr->H id≠.dead/\id∈rd:=by
  intro h
  unfold cw at h
  split at h
  .split at h
   .split at h
    .exact b rfl h
    .simp at h
   .simp at h
  .simp at h
 have up:∀ {id:Nat} {g:bp} {c:V} {r:List Nat},H id≠.dead->id∈r->some (c,aM.dP id g,r)=some (v,au,rd)->∀ i,i∈au.wr->H i≠.dead/\i∈rd:=by
  intro id g c r h1 j heq i hi
  simp only[OJ,OL] at heq
  obtain⟨_,rfl,rfl⟩:=heq
  simp[aM.wr] at hi;subst hi;exact⟨h1,j⟩
 have l:∀ {id:Nat} {g:bp} {c:V} {r:List Nat},H id≠.dead->id∈r->some (c,aM.cF id g,r)=some (v,au,rd)->∀ i,i∈au.wr->H i≠.dead/\i∈rd:=by
  intro id g c r h1 j heq i hi
  simp only[OJ,OL] at heq
  obtain⟨_,rfl,rfl⟩:=heq
  simp[aM.wr] at hi;subst hi;exact⟨h1,j⟩
 have k:∀ {cs:List V},iY cs n=some (v,au,rd)->∀ id,id∈au.wr->H id≠.dead/\id∈rd:=by
  intro cs h
  unfold iY at h
  split at h
  .exact b rfl h
  .simp at h
 have mp:∀ {α:Type} {x:Option α} {f:α->V} {r:List Nat},(x.map λa=>(f a,aM.none,r))=some (v,au,rd)->∀ id,id∈au.wr->H id≠.dead/\id∈rd:=by
  intro α x f r h
  simp only[OQ] at h
  obtain⟨a,_,h⟩:=h
  exact b rfl (Qo some h)
 unfold bo at h
 split at h
 .exact b rfl h
 .exact b rfl h
 .split at h
  .exact b rfl h
  .simp at h
 .split at h
  .exact k h
  .simp at h
 .exact k h
 .unfold qY at h
  split at h
  .split at h
   .exact mp h
   .simp at h
  .simp at h
 .unfold e9 at h
  repeat' (split at h)
  all_goals first | exact b rfl h | (simp at h;done)
 .unfold jM at h
  repeat' (split at h)
  all_goals first | exact mp h | (simp at h;done)
 .unfold nz at h
  split at h
  .split at h
   .rename_i hH
    split at h
    .exact up (by rw[hH];simp) (by simp) h
    .simp at h
   .simp at h
  .simp at h
 .repeat' (split at h)
  all_goals first | exact b rfl h | (simp at h;done)
 .unfold iH at h
  repeat' (split at h)
  all_goals first | exact b rfl h | (simp at h;done)
 .unfold rA at h
  split at h
  .exact mp h
  .simp at h
 .unfold iP at h
  repeat' (split at h)
  all_goals first | exact b rfl h | (simp at h;done)
 .split at h
  .exact pu h
  .unfold pf at h
   repeat' (split at h)
   all_goals first | exact b rfl h | (simp at h;done)
 .unfold iE at h
  repeat' (split at h)
  all_goals first | exact b rfl h | (simp at h;done)
 .repeat' (split at h)
  all_goals first | exact b rfl h | (simp at h;done)
 .exact b rfl h
 .unfold dG at h
  simp only at h
  repeat' (split at h)
  all_goals first | exact b rfl h | (simp at h;done)
 .unfold ep at h
  split at h
  .split at h
   .rename_i hH
    repeat' (split at h)
    all_goals first | exact up (by rw[hH];simp) (by simp) h | (simp at h;done)
   .simp at h
  .simp at h
 .unfold ep at h
  split at h
  .split at h
   .rename_i hH
    repeat' (split at h)
    all_goals first | exact up (by rw[hH];simp) (by simp) h | (simp at h;done)
   .simp at h
  .simp at h
 .unfold cM at h
  split at h
  .split at h
   .rename_i hH
    repeat' (split at h)
    all_goals first | exact up (by rw[hH];simp) (by simp) h | (simp at h;done)
   .simp at h
  .simp at h
 .unfold gP at h
  split at h
  .split at h
   .rename_i hH
    repeat' (split at h)
    all_goals first | exact up (by rw[hH];simp) (by simp) h | (simp at h;done)
   .simp at h
  .simp at h
 .repeat' (split at h)
  all_goals first | exact b rfl h | (simp at h;done)
 .repeat' (split at h)
  all_goals first | exact b rfl h | (simp at h;done)
 .unfold xD at h
  split at h
  .split at h
   .rename_i hH
    split at h
    .exact up (by rw[hH];simp) (by simp) h
    .exact b rfl h
   .simp at h
  .simp at h
 .split at h
  .unfold jT at h
   split at h
   .repeat' (split at h)
    all_goals first | exact mp h | exact b rfl h | (simp at h;done)
   .repeat' (split at h)
    all_goals first | exact mp h | exact b rfl h | (simp at h;done)
   .split at h
    .split at h
     .split at h
      .rename_i hH
       exact up (by rw[hH];simp) (by simp) h
      .simp at h
     .simp at h
    .simp at h
   .simp at h
  .exact pu h
 .split at h
  .split at h
   .unfold qN at h
    repeat' (split at h)
    all_goals first | exact mp h | exact b rfl h | (simp at h;done)
   .simp at h
  .split at h
   .unfold kG at h
    split at h
    .split at h
     .simp at h
     .split at h
      .split at h
       all_goals first | exact b rfl h | (simp at h;done)
      .split at h
       .simp at h
       .split at h
        .split at h
         .exact b rfl h
         .simp at h
        .split at h
         .rename_i hH
          split at h
          .exact l (by rw[hH];simp) (by simp) h
          .simp at h
         .simp at h
        .simp at h
    .simp at h
   .split at h
    .unfold sO at h
     split at h
     .split at h
      .split at h
       .exact b rfl h
       .split at h
        .exact b rfl h
        .simp at h
      .simp at h
     .simp at h
    .simp at h
  .split at h
   .unfold C4 at h
    split at h
    .exact b rfl h
    .simp at h
   .simp at h
  .split at h
   .unfold xl at h
    split at h
    .split at h
     .simp at h
     .split at h
      .exact b rfl h
      .split at h
       .split at h
        .rename_i hH
         split at h
         .exact up (by rw[hH];simp) (by simp) h
         .simp at h
        .simp at h
       .simp at h
    .simp at h
   .simp at h
  .split at h
   .unfold rP at h
    split at h
    .split at h
     .rename_i hH
      repeat' (split at h)
      all_goals first | exact up (by rw[hH];simp) (by simp) h | exact b rfl h | (simp at h;done)
     .simp at h
    .simp at h
   .simp at h
  .split at h
   .unfold uA at h
    split at h
    .split at h
     .exact b rfl h
     .split at h
      .split at h
       .rename_i hH
        split at h
        .exact up (by rw[hH];simp) (by simp) h
        .simp at h
       .simp at h
      .simp at h
    .simp at h
   .simp at h
  .exact pu h
  .exact pu h
  .exact pu h
  .exact pu h
  .exact pu h
  .simp at h
 .split at h
  .split at h
   .exact b rfl h
   .exact b rfl h
   .simp at h
  .exact pu h
 .exact pu h
 .exact pu h
 .simp at h
section
variable {P:Program} {n:Nat} {all:List Oper} {Z:Nat->Prop} {μ:Mu} {w:World}
theorem fc.congr {H H':View} {hp:Array Obj} (h:fc Z μ hp H) (e:∀ id,μ id≠none->H' id=H id):fc Z μ hp H':=by
 refine⟨λid=>?_,λi j b o s g k d hi f=>?_,h.lt,h.bE,h.eU⟩
 .by_cases hm:μ id=none
  .cases hH:H' id with
   | dead=>trivial
   | arr esz es=>intro b o0 s a;rw[hm] at a;simp at a
   | map es c=>intro b o0 s a;rw[hm] at a;simp at a
   | sG s p=>intro b o0 t a;rw[hm] at a;simp at a
  .rw[e id hm];exact h.obj id
 .rw[e i (by rw[hi];simp),e j (by rw[f];simp)]
  exact h.inj i j b o s g k d hi f
def fU (H:View) (h h':aw) (wr:List Nat):View:=λid=>if id∈wr∨(h.length<=id/\id < h'.length) then h'.view id else H id
theorem kX.ext {μ':Mu} {w':World} {au:aM} {m:Nat} (he:kX Z μ μ' w.heap w'.heap m au) (k:c8 w w') (r:au.fresh (μ m=none)) (bE:∀ b,Z b->b < w.heap.size) (eU:∀ id b o s,μ id=some (b,o,s)->¬ Z b) :
  Ext Z μ w m Z μ' w'/\(∀ id,(∀ (_:¬ (match au with | .new _ | .cF _ _=>id=m | _=>False)),μ' id=μ id)):=by
 have hm:=he.mono r bE eU
 cases au with
 | none =>
  obtain⟨rfl,f⟩:=he
  exact⟨⟨k,hm,λb l _=>f b l (λx=>x),λ_ h=>.inl h,λ_ _ _ _ h=>.inl h⟩,λ_ _=>rfl⟩
 | new o =>
  obtain⟨b,o0,s,t,u,rfl,f,_⟩:=he
  refine⟨⟨k,hm,λb l _=>f b l (λx=>x),λ_ h=>.inl h,λid g v y d=>?_⟩,λid i=>by simp[Mu.set];intro e;exact absurd e i⟩
  by_cases e:id=m
  .subst e;simp[Mu.set] at d;exact .inr ⟨OR _,.inl (by omega)⟩
  .simp[Mu.set,e] at d;exact .inl d
 | dP id o =>
  obtain⟨b,o0,s,a,rfl,f,_,_⟩:=he
  exact⟨⟨k,hm,λg c j=>f g c (λe=>j ⟨id,o0,s,e ▸ a⟩),λ_ h=>.inl h,λ_ _ _ _ h=>.inl h⟩,λ_ _=>rfl⟩
 | cF id o =>
  obtain⟨b,o0,s,rfl,_,q⟩:=he
  refine⟨⟨k,hm,?_,λ_ h=>.inl h,λn g v y d=>?_⟩,λid i=>by simp[Mu.set];intro e;exact absurd e i⟩
  .rcases q with h1 | ⟨⟨p,s1,a⟩,f,_⟩
   .exact λg c _=>h1.2.2 g c (λx=>x)
   .exact λg c j=>f g c (λe=>j ⟨id,p,s1,e ▸ a⟩)
  .by_cases e:n=m
   .subst e
    simp[Mu.set] at d
    obtain⟨rfl,_,_⟩:=d
    rcases q with h1 | ⟨⟨p,s1,a⟩,_,_⟩
    .exact .inr ⟨OR _,.inl h1.1⟩
    .exact .inr ⟨OR _,.inr ⟨id,p,s1,a⟩⟩
   .simp[Mu.set,e] at d;exact .inl d
theorem Cj {f:FuncId} {args:Array Value} (h:bX P f=true):(callFunc f args).run P w=.ok (.enter f args) w:=by
 unfold bX at h
 split at h
 .rename_i fn a
  simp only[OO,QD,ne_eq] at h
  have h1:(fn.name == "runtime.NumGoroutine")=false:=by simpa using h.1
  have e:fn.body.isNone=false:=by cases b:fn.body <;> simp_all
  have c:¬ (fn.name = "runtime.NumGoroutine"):=by simpa using h.1
  have d:¬ (fn.body=none):=by cases b:fn.body <;> simp_all
  simp[callFunc,a,c,d]
 .simp at h
theorem kO {ops:Array Oper} (g:ops=all.toArray) {a:Act} (k:a.tmps.size=n) {T:Env} {o:Oper} {t:Bool} (e:bT n all T o=some t)
  (f:∀ j want d,o.guard=some (j,want)->(all[j]?).bind (·.dst)=some d->aq Z μ w.heap (T d) (a.tmps.getD d undef)):Region.wanted o (yielded ops a.tmps)=t:=by
 unfold bT at e
 unfold Region.wanted
 cases i:o.guard with
 | none=>simp[i] at e;subst e;rfl
 | some p =>
  obtain⟨j,want⟩:=p
  simp only[i] at e ⊢
  cases l:(all[j]?).bind (·.dst) with
  | none=>simp[l] at e
  | some d =>
   simp only[l] at e
   split at e
   .rename_i m
    have h:=f j want d i l
    split at e
    .rename_i b r
     rw[r] at h
     have h:=dr h
     simp only[OJ] at e
     subst e
     have c:d < a.tmps.size:=k ▸ m
     simp only[OP,OZ c,OS] at h
     have:yielded ops a.tmps j=some b:=by
      unfold yielded
      subst g
      simp only[Pr,l,Pj,OZ c,h]
     rw[this]
     cases b <;> cases want <;> rfl
    .rename_i r
     rw[r] at h
     have c:d < a.tmps.size:=k ▸ m
     generalize q:a.tmps.getD d undef=x at h
     cases h with
     | aU _ s h1 v =>
      simp only[OJ] at e
      subst e
      have u:a.tmps[d]?=some (.tuple s):=by
       rw[OZ c]
       simp only[OP,OZ c,OS] at q
       rw[q]
      have:yielded ops a.tmps j=none:=by
       unfold yielded
       subst g
       simp only[Pr,l,Pj,u]
      rw[this]
      rfl
    .simp at e
   .simp at e
theorem uJ {ops:Array Oper} (B:ops=all.toArray) {i:Nat} {o:Oper} (hi:ops[i]?=some o) {T:Env} {h Y:aw} {v:V} {rd wr:List Nat} {call:Bool} (st:ct P n all o T h v Y rd wr call) {a:Act} {H:View}
  (G:a.tmps.size=n) (m:∀ j want d,o.guard=some (j,want)->(all[j]?).bind (·.dst)=some d->aq Z μ w.heap (T d) (a.tmps.getD d undef))
  (hT:∀ x∈o.op.operands,aq Z μ w.heap (ev T x) (a.eval x)) (hr:fc Z μ w.heap H) (b4:∀ id,id∈rd->μ id≠none->H id=h.view id)
  (I:call=true->∀ id,id < h.length->μ id≠none->H id=h.view id) (J:∀ id,h.length<=id->id < Y.length->μ id=none)
  {K:Act->World->Prop} {Q:Exit->Act->World->Prop}
  (hK:∀ x w' Z' μ',aq Z' μ' w'.heap v x->fc Z' μ' w'.heap (fU H h Y wr)->Ext Z μ w h.length Z' μ' w'->(∀ id,id < h.length∨Y.length<=id->μ' id=μ id)->K (a.put o.dst x) w') :
  wpOp P ops Q i K a w:=by
 unfold wpOp
 rw[hi]
 cases st with
 | skip R =>
  have:=kO (w:=w) B G R m
  simp only[this,Pb,if_false]
  refine hK undef w Z μ (.aU _ _ rfl (λi hi=>by simp at hi)) (hr.congr λid c=>?_) (Ext.refl _ _ _ _) (λ_ _=>rfl)
  unfold fU
  rw[OK]
  rintro (h1 | h1)
  .simp at h1
  .omega
 | op R b5 =>
  rename_i au
  have:=kO (w:=w) B G R m
  simp only[this,if_true]
  left
  have D:=j0 b5
  have ck:=iG (λid c=>(D id c).1)
  have hlen:=eE h au
  have a1:au.fresh (μ h.length=none):=by
   cases au with
   | new o=>exact J _ (OR _) (by rw[hlen];simp)
   | cF k o=>exact J _ (OR _) (by rw[hlen];simp)
   | _=>trivial
  .have b7:Ctx Z μ w.heap h.view rd h.length au:=by
    refine⟨a1,λid c=>?_,hr.lt,hr.bE,hr.eU⟩
    by_cases hm:μ id=none
    .have:=(fc.congr (H':=λk=>if k=id then h.view id else H k) hr (λk hk=>by
      split
      .rename_i e;subst e;exact absurd hm hk
      .rfl)).obj id
     simpa using this
    .rw[<-b4 id c hm];exact hr.obj id
   obtain⟨nx,w',μ',t,b8,l,u⟩:=M5 b5 hT b7
   have hex:=u.ext l a1 hr.bE hr.eU
   have L:fc Z μ' w'.heap (fU H h (au.apply h) au.wr):=by
    have M:∀ id,id∈au.wr->μ id≠none->H id≠.dead:=λid c hm=>by
     rw[b4 id (D id c).2 hm];exact(D id c).1
    have cc:∀ id o,(au=.dP id o∨au=.cF id o)->H id≠.dead∨μ id=none:=by
     rintro id o (rfl | rfl)
     .by_cases hm:μ id=none
      .exact .inr hm
      .exact .inl (M id (by simp[aM.wr]) hm)
     .by_cases hm:μ id=none
      .exact .inr hm
      .exact .inl (M id (by simp[aM.wr]) hm)
    have h2:fc Z μ w.heap (λk=>if μ k=none then .sG .empty 0 else H k):=hr.congr (λk hk=>by simp[hk])
    have h3:=h2.au a1 l.size u (λid o e=>by
     split
     .simp
     .rename_i hk;exact(cc id o (.inl e)).resolve_right hk) (λid o e=>by
     split
     .simp
     .rename_i hk;exact(cc id o (.inr e)).resolve_right hk)
    refine h3.congr (λid c=>?_)
    unfold fU
    rw[ck]
    cases au with
    | none =>
     obtain⟨rfl,_⟩:=u
     simp only[aM.wr,aM.apply,aM.view,Qv,false_or]
     rw[OK (by omega),OK c]
    | new o =>
     obtain⟨b,o0,s,_,_,rfl,_⟩:=u
     simp only[aM.wr,aM.view,View.set,Qv,false_or]
     by_cases e:id=h.length
     .subst e;rw[OM ⟨OR _,by rw[hlen];simp⟩,OM rfl,OM rfl]
     .rw[OK (by rw[hlen];simp only;omega),OK e]
      have:μ id≠none:=by simpa [Mu.set,e] using c
      rw[OK this]
    | dP k o =>
     obtain⟨b,o0,s,_,rfl,_⟩:=u
     simp only[aM.wr,aM.view,View.set,PU]
     by_cases e:id=k
     .subst e;rw[OM (.inl rfl),OM rfl,OM rfl]
     .rw[OK (by rw[hlen];simp only;omega),OK e,OK c]
    | cF k o =>
     obtain⟨b,o0,s,rfl,_⟩:=u
     simp only[aM.wr,aM.view,View.set,PU]
     by_cases e:id=h.length
     .subst e;rw[OM (.inr ⟨OR _,by rw[hlen];simp⟩),OM rfl,OM rfl]
     .by_cases e2:id=k
      .subst e2;rw[OM (.inl rfl),OK e,OM rfl,OK e,OM rfl]
      .rw[OK (by rw[hlen];simp only;omega),OK e,OK e2]
       have:μ id≠none:=by simpa [Mu.set,e] using c
       rw[OK this]
   have C:∀ id,id < h.length∨(au.apply h).length<=id->μ' id=μ id:=by
    intro id c
    refine hex.2 id (λS=>?_)
    cases au with
    | none=>exact S
    | new o=>simp only at S;subst S;rw[hlen] at c;simp at c;omega
    | dP k o=>exact S
    | cF k o=>simp only at S;subst S;rw[hlen] at c;simp at c;omega
   unfold Oper.wp
   rw[t]
   rcases b8 with ⟨x,rfl,hv⟩ | ⟨rfl,rfl⟩
   .exact hK x w' Z μ' hv L hex.1 C
   .exact hK undef w' Z μ' (.any _) L hex.1 C
 | gg R U a6 =>
  rename_i e x
  have:=kO (w:=w) B G R m
  simp only[this,if_true]
  left
  have z:=hT x (by rw[U];simp[Op.operands])
  have cf:=eH z a6
  have t:(execOp a.eval o).run P w=.ok (.value (.pointer (some ⟨w.heap.size,0,none⟩))) (w.alloc (.cells (a.eval x).cells e)):=by
   unfold execOp
   rw[U]
   simp[Instr.box,newVar,newRow]
  unfold Oper.wp
  rw[t]
  have A:ee w.heap (w.alloc (.cells (a.eval x).cells e)).heap (λ_=>False):=cZ _ _
  have ch:(w.alloc (.cells (a.eval x).cells e)).heap.size=w.heap.size+1:=by rw[heap_alloc];simp
  have hm:eL Z (λb=>Z b∨b=w.heap.size) μ μ w.heap (w.alloc (.cells (a.eval x).cells e)).heap:=⟨λ_ h=>.inl h,λb r=>A b (hr.bE b r) (λx=>x),λ_ _ h=>h,A.mP⟩
  have l:c8 w (w.alloc (.cells (a.eval x).cells e)):=fH _ _
  have a7:fU H h h []=H:=by
   funext id
   unfold fU
   rw[OK]
   rintro (h1 | h1)
   .simp at h1
   .omega
  refine hK _ _ (λb=>Z b∨b=w.heap.size) μ ?_ (a7.symm ▸ ⟨λid=>?_,hr.inj,λid b o s z=>O0 (hr.lt _ _ _ _ z) l.size,λb r=>?_,λid b o s z a8=>?_⟩)
   ⟨l,hm,λb r _=>A b r (λx=>x),λb r=>?_,λ_ _ _ _ h=>.inl h⟩ (λ_ _=>rfl)
  .have:=aq.aC (Z:=λb=>Z b∨b=w.heap.size) (μ:=μ) (hp:=(w.alloc (.cells (a.eval x).cells e)).heap) (ev T x).cells 0 w.heap.size 0 (λk=>(a.eval x).cells.toList.getD k undef) (.inr rfl) (λk hk=>?_) (λk hk=>(cf.2 k hk).mono hm)
   .simpa using this
   .have bl:k < (a.eval x).cells.size:=by have:=cf.1;simp at this;omega
    simp[cellAt,heap_alloc,OH,bl]
  .exact(hr.obj id).mono hm rfl (λb o s z=>A b (hr.lt _ _ _ _ z) (λx=>x))
  .rcases r with r | rfl
   .exact O0 (hr.bE b r) l.size
   .omega
  .rcases a8 with r | rfl
   .exact hr.eU _ _ _ _ z r
   .have:=hr.lt _ _ _ _ z;omega
  .rcases r with r | rfl
   .exact .inl r
   .exact .inr (OR _)
 | ej R U hs hd he cu =>
  rename_i s d e x st
  have:=kO (w:=w) B G R m
  simp only[this,if_true]
  left
  have z:=hT x (by rw[U];simp[Op.operands])
  rw[cu] at z
  have cv:=dr z
  have X:st.size<=grownCap w st.size 0 e:=by unfold grownCap Question.cut;exact Nat.le_add_right _ _
  have t:=run_bytes_of_string w s d e st hs hd he
  generalize c3:grownCap w st.size 0 e=cap at t X
  have cC:(bytesRow st cap).size=cap:=by
   simp only[bytesRow,Array.size_append,Array.size_map,Array.size_replicate]
   have:st.data.size=st.size:=rfl
   omega
  have bn:(execOp a.eval o).run P w=.ok (.value (.slice (some ⟨w.heap.size,0,none⟩) st.size cap)) (w.drew.alloc (.cells (bytesRow st cap) e (cap,cap+1))):=by
   unfold execOp
   rw[U]
   simp only[cv,Sem.run_bind,t,Result.andThen_ok,Sem.run_pure]
   rw[cC]
  unfold Oper.wp
  rw[bn]
  have E:(w.drew.alloc (.cells (bytesRow st cap) e (cap,cap+1))).heap=w.heap.push (.cells (bytesRow st cap) e (cap,cap+1)):=by rw[heap_alloc,dk]
  have A:ee w.heap (w.drew.alloc (.cells (bytesRow st cap) e (cap,cap+1))).heap (λ_=>False):=by rw[E];exact cZ _ _
  have ch:(w.drew.alloc (.cells (bytesRow st cap) e (cap,cap+1))).heap.size=w.heap.size+1:=by rw[E];simp
  have hm:eL Z (λb=>Z b∨b=w.heap.size) μ μ w.heap (w.drew.alloc (.cells (bytesRow st cap) e (cap,cap+1))).heap:=⟨λ_ h=>.inl h,λb r=>A b (hr.bE b r) (λx=>x),λ_ _ h=>h,A.mP⟩
  have l:c8 w (w.drew.alloc (.cells (bytesRow st cap) e (cap,cap+1))):=gW _ _
  have a7:fU H h h []=H:=by
   funext id
   unfold fU
   rw[OK]
   rintro (h1 | h1)
   .simp at h1
   .omega
  refine hK _ _ (λb=>Z b∨b=w.heap.size) μ ?_ (a7.symm ▸ ⟨λid=>?_,hr.inj,λid b o s z=>O0 (hr.lt _ _ _ _ z) l.size,λb r=>?_,λid b o s z a8=>?_⟩)
   ⟨l,hm,λb r _=>A b r (λx=>x),λb r=>?_,λ_ _ _ _ h=>.inl h⟩ (λ_ _=>rfl)
  .have W:(eC st).length=st.size:=by rw[eC,OX,bsize]
   have:=aq.aX (Z:=λb=>Z b∨b=w.heap.size) (μ:=μ) (hp:=(w.drew.alloc (.cells (bytesRow st cap) e (cap,cap+1))).heap) (eC st) w.heap.size 0 1 cap (λi _=>.int .u8 ((st.data.toList.getD i 0).toNat)) (.inr rfl) (by rw[W];exact X) ?_ ?_ ?_
   .rw[W] at this;exact this
   .intro i hi
    have F:i < st.data.toList.length:=by simpa [eC] using hi
    simp only[eC,OH,ON,OI F,OU,OS,OY,Pc]
   .intro i j hi hj
    obtain rfl:j=0:=by omega
    have F:i < st.data.size:=by simpa [eC] using hi
    rw[E]
    simp only[cellAt,Array.getElem?_push_size,bytesRow,Nat.mul_one,Qd,PA]
    rw[P4 (by simpa using F),Array.getElem?_map,OZ F]
    simp[OH,OZ F]
   .intro i j hi hj
    obtain rfl:j=0:=by omega
    have F:i < st.data.size:=by simpa [eC] using hi
    simp only[eC,OH,ON,Array.getElem?_toList,OZ F,OU,OS,O4]
    exact .val _ rfl
  .exact(hr.obj id).mono hm rfl (λb o s z=>A b (hr.lt _ _ _ _ z) (λx=>x))
  .rcases r with r | rfl
   .exact O0 (hr.bE b r) l.size
   .omega
  .rcases a8 with r | rfl
   .exact hr.eU _ _ _ _ z r
   .have:=hr.lt _ _ _ _ z;omega
  .rcases r with r | rfl
   .exact .inl r
   .exact .inr (OR _)
 | call R U hf a6 S hw cN =>
  rename_i f args c4 g first cap
  have:=kO (w:=w) B G R m
  simp only[this,if_true]
  left
  have bx:∀ x∈args.toList,aq Z μ w.heap (ev T x) (a.eval x):=λx z=>hT x (by rw[U];simp[Op.operands,Call.operands];right;simpa using z)
  have b0:=hT f (by rw[U];simp[Op.operands,Call.operands])
  rw[hf] at b0
  generalize cS:a.eval f=fx at b0
  cases b0 with
  | fn _ _ _ N bs h1 h2 h3 h4 =>
   have t:(execOp a.eval o).run P w=.ok (.enter g (N ++ args.map a.eval ++ bs)) w:=by
    unfold execOp
    rw[U]
    simp only[resolve,cS,Deferred.ofValue,Sem.run_bind,Sem.run_pure,Result.andThen_ok,invoke,Cj a6]
   unfold Oper.wp
   rw[t]
   show Calls P g (N ++ args.map a.eval ++ bs) w _
   have cV:(N ++ args.map a.eval ++ bs)=(N.toList ++ args.toList.map a.eval ++ bs.toList).toArray:=by
    apply Array.ext';simp
   rw[cV]
   have b1:er Z μ w.heap (first ++ args.toList.map (ev T) ++ cap) (N.toList ++ args.toList.map a.eval ++ bs.toList):=by
    have app:∀ {p q:List V} {x y:List Value},er Z μ w.heap p x->er Z μ w.heap q y->er Z μ w.heap (p ++ q) (x ++ y):=by
     intro p q x y hp hq
     refine⟨by simp[hp.1,hq.1],λk hk=>?_⟩
     simp only[OH]
     by_cases b2:k < p.length
     .rw[O6 b2,O6 (hp.1 ▸ b2)]
      simpa only [OH] using hp.2 k b2
     .rw[Ph (by omega),Ph (by rw[<-hp.1];omega),<-hp.1]
      simpa only [OH] using hq.2 (k - p.length) (by simp at hk;omega)
    refine app (app ⟨by simpa using h1,λk hk=>?_⟩ ⟨by simp,λk hk=>?_⟩) ⟨by simpa using h2,λk hk=>?_⟩
    .simpa [OH,OP] using h3 k hk
    .have bl:k < args.toList.length:=by simpa using hk
     have:=bx args.toList[k] (OW _)
     simp only[OH,ON,OI bl,OU,OS]
     exact this
    .simpa [OH,OP] using h4 k hk
   have cj:fc Z μ w.heap (cat h H):=hr.congr (λid c=>by
    unfold cat;split
    .rename_i c0;exact(I rfl id c0 c).symm
    .rfl)
   refine(S.2 Z μ H w _ b1 cj J).mono ?_
   rintro e w' ⟨x,Z',μ',rfl,hv,hh,hex,C⟩
   refine hK x w' Z' μ' hv (hh.congr λid c=>?_) hex C
   unfold fU cat
   by_cases O:id∈wr∨(h.length<=id/\id < Y.length)
   .rw[OM O]
    rcases O with h5 | h5
    .by_cases W:id < Y.length
     .rw[OM W]
     .exact absurd (O0 (cN id h5) S.1) W
    .rw[OM h5.2]
   .rw[OK O]
    by_cases W:id < Y.length
    .rw[OM W]
     have b3:id < h.length:=by
      rcases Pn id h.length with h6 | h6
      .exact h6
      .exact absurd (.inr ⟨h6,W⟩) O
     rw[hw id b3 (λq=>O (.inl q))]
     exact I rfl id b3 (by rw[<-C id (.inl b3)];exact c)
    .rw[OK W]
end
structure Rec where
 rd:List Nat
 wr:List Nat
 call:Bool
 lo:Nat
 hi:Nat
inductive Tr (P:Program) (n:Nat) (all:List Oper):List Oper->Env->aw->List Rec->Env->aw->Prop
 | nil {T:Env} {h:aw} : Tr P n all [] T h [] T h
 | cons {o:Oper} {rest:List Oper} {T T':Env} {h h1 h':aw} {v:V} {rd wr:List Nat} {call:Bool} {recs:List Rec} : ct P n all o T h v h1 rd wr call->oH n o=true ->
  Tr P n all rest (T.put o.dst v) h1 recs T' h'->Tr P n all (o :: rest) T h (⟨rd,wr,call,h.length,h1.length⟩ :: recs) T' h'
def mask (o:Oper) (acc:List Nat):Nat:=o.after.toList.foldl (λs e=>if Region.binds .any e then s ||| 2 ^ e.on ||| acc.getD e.on 0 else s) 0
def dN:List Oper->List Nat->List Nat
 | [],acc=>acc
 | o :: r,acc=>dN r (acc ++ [mask o acc])
def tmpsOf (o:Oper):List Nat:=o.op.operands.toList.filterMap fun | .tmp t=>some t | _=>none
def lu (all:List Oper) (o:Oper):List Nat:=o.dst.toList ++ tmpsOf o ++ (match o.guard with
 | some (j,_)=>((all[j]?).bind (·.dst)).toList
 | none=>[])
def FV (d:Option Nat) (l:List Nat):Bool:=match d with
 | some t=>!l.contains t
 | none=>true
def ordered (b:List Nat) (i k:Nat):Bool:=(b.getD k 0).testBit i
def jo (all:List Oper):Bool :=
 let b:=dN all []
 all.zipIdx.all λ(ok,k) =>
  (ok.after.toList.all λe=>!Region.binds .any e || decide (e.on < k)) &&
  all.zipIdx.all λ(oi,i)=>!decide (i < k) || ordered b i k || (FV oi.dst (lu all ok) && FV ok.dst (lu all oi))
structure lq (a b:Rec):Prop where
 NB:∀ id,id∈a.wr->¬ id∈b.rd
 MU:∀ id,id∈b.wr->¬ id∈a.rd
 M7:a.call=true->b.wr=[]
 call2:b.call=true->a.wr=[]
 new:∀ id,id∈b.wr->¬ (a.lo<=id/\id < a.hi)
def qM (all:List Oper) (recs:List Rec):Prop:=∀ i k a b,i < k->recs[i]?=some a->recs[k]?=some b->ordered (dN all []) i k=false->lq a b
theorem zU (l:List Edge) (acc:List Nat) (s j:Nat):(l.foldl (λs e=>if Region.binds .any e then s ||| 2 ^ e.on ||| acc.getD e.on 0 else s) s).testBit j=true ->
  s.testBit j=true∨∃ e∈l,Region.binds .any e=true/\(j=e.on∨(acc.getD e.on 0).testBit j=true):=by
 induction l generalizing s with
 | nil=>intro h;exact .inl h
 | cons e l c =>
  intro h
  simp only[O3] at h
  rcases c _ h with h1 | ⟨e',b,d⟩
  .by_cases a:Region.binds .any e=true
   .rw[OM a,Nat.testBit_or,Nat.testBit_or,Nat.testBit_two_pow] at h1
    simp only[Qi,OT] at h1
    rcases h1 with (h1 | h1) | h1
    .exact .inl h1
    .exact .inr ⟨e,P3,a,.inl h1.symm⟩
    .exact .inr ⟨e,P3,a,.inr h1⟩
   .rw[OK a] at h1;exact .inl h1
  .exact .inr ⟨e',Pu _ b,d⟩
theorem xd:∀ (l:List Oper) (acc:List Nat) (k:Nat),k < acc.length->(dN l acc).getD k 0=acc.getD k 0
 | [],acc,k,_=>rfl
 | o :: r,acc,k,h=>by
  rw[dN,xd r _ k (by simp;omega)]
  simp[OH,O6 h]
theorem yM:∀ (l:List Oper) (acc:List Nat) (k:Nat) (o:Oper),l[k]?=some o->∃ a,(dN l acc).getD (acc.length+k) 0=mask o a/\a.length=acc.length+k/\∀ m,m < a.length->a.getD m 0=(dN l acc).getD m 0
 | [],acc,k,o,h=>by simp at h
 | p :: r,acc,0,o,h=>by
  simp at h;subst h
  refine⟨acc,?_,by simp,λm hm=>?_⟩
  .rw[dN,xd r _ _ (by simp)]
   simp[OH]
  .rw[dN,xd r _ _ (by simp;omega)]
   simp[OH,O6 hm]
 | p :: r,acc,k+1,o,h=>by
  have b:r[k]?=some o:=by simpa using h
  obtain⟨a,h1,c,d⟩:=yM r (acc ++ [mask p acc]) k o b
  refine⟨a,?_,by simp at c;omega,λm hm=>?_⟩
  .rw[dN]
   have e:(acc ++ [mask p acc]).length+k=acc.length+(k+1):=by simp;omega
   rw[<-e];exact h1
  .rw[dN];exact d m hm
theorem tv {all:List Oper} {L:Nat->Prop} (m:∀ k o,all[k]?=some o->∀ e∈o.after.toList,Region.binds .any e=true->e.on < k)
  (n:∀ k o,all[k]?=some o->L k->∀ e∈o.after.toList,Region.binds .any e=true->L e.on):∀ k o j,all[k]?=some o->L k->ordered (dN all []) j k=true->L j:=by
 intro k
 induction k using Nat.strongRecOn with
 | _ k p =>
  intro o j hk d f
  unfold ordered at f
  obtain⟨i,h1,q,r⟩:=yM all [] k o hk
  simp only[Pc,PA] at h1 q
  rw[h1] at f
  rcases zU _ _ _ _ f with a | ⟨e,he,b,a⟩
  .simp at a
  .have g:=m k o hk e he b
   have c:=n k o hk d e he b
   rcases a with a | a
   .rw[a];exact c
   .have l:k < all.length:=by
     rcases Pn k all.length with h | h
     .exact h
     .simp[O5 h] at hk
    refine p e.on g _ j (OI (by omega)) c ?_
    unfold ordered
    rw[<-r e.on (by omega)]
    exact a
theorem Ck {all:List Oper} {L:Nat->Prop} (g:∀ k o,all[k]?=some o->∀ e∈o.after.toList,Region.binds .any e=true->e.on < k)
  (l:∀ k o,all[k]?=some o->L k->∀ e∈o.after.toList,Region.binds .any e=true->L e.on) {k:Nat} {o:Oper} (hk:all[k]?=some o) (hr:∀ e∈o.after.toList,Region.binds .any e=true->L e.on)
  {j:Nat} (d:ordered (dN all []) j k=true):L j:=by
 unfold ordered at d
 obtain⟨h,h1,m,n⟩:=yM all [] k o hk
 simp only[Pc,PA] at h1 m
 rw[h1] at d
 rcases zU _ _ _ _ d with a | ⟨e,he,b,a⟩
 .simp at a
 .have p:=g k o hk e he b
  have c:=hr e he b
  rcases a with a | a
  .rw[a];exact c
  .have i:k < all.length:=by
    rcases Pn k all.length with f | f
    .exact f
    .simp[O5 f] at hk
   refine tv g l e.on _ j (OI (by omega)) c ?_
   unfold ordered
   rw[<-n e.on (by omega)]
   exact a
theorem Di {all:List Oper} (h:jo all=true):(∀ k o,all[k]?=some o->∀ e∈o.after.toList,Region.binds .any e=true->e.on < k) /\
  ∀ i k a ok,i < k->all[i]?=some a->all[k]?=some ok->ordered (dN all []) i k=false->(∀ t,a.dst=some t->¬ t∈lu all ok)/\(∀ t,ok.dst=some t->¬ t∈lu all a):=by
 unfold jo at h
 have mem:∀ k o,all[k]?=some o->(o,k)∈all.zipIdx:=by
  intro k o hk
  rw[Py];exact hk
 refine⟨λk o hk e he f=>?_,λi k a ok b hi hk g=>?_⟩
 .have:=O7.1 h _ (mem k o hk)
  simp only[OO] at this
  have:=O7.1 this.1 e he
  simpa [f] using this
 .have:=O7.1 h _ (mem k ok hk)
  simp only[OO] at this
  have:=O7.1 this.2 _ (mem i a hi)
  simp only[b,decide_true,Qy,Qn,g,OO] at this
  have c:∀ (d:Option Nat) (l:List Nat),FV d l=true->∀ t,d=some t->¬ t∈l:=by
   intro d l j t m
   subst m
   simpa [FV] using j
  exact⟨c _ _ this.1,c _ _ this.2⟩
theorem AD {P:Program} {n:Nat} {all:List Oper} : ∀ (l:List Oper) (T:Env) (h:aw) (a:List Rec) (d:Env) (e:aw),Tr P n all l T h a d e ->
  a.length=l.length/\∃ (c:Nat->Env) (b:Nat->aw) (vs:Nat->V),c 0=T/\b 0=h/\c l.length=d/\b l.length=e /\
   ∀ i o r,l[i]?=some o->a[i]?=some r->ct P n all o (c i) (b i) (vs i) (b (i+1)) r.rd r.wr r.call/\oH n o=true/\c (i+1)=(c i).put o.dst (vs i)/\r.lo=(b i).length/\r.hi=(b (i+1)).length:=by
 intro l T h a d e m
 induction m with
 | nil=>exact⟨rfl,λ_=>_,λ_=>_,λ_=>.any,rfl,rfl,rfl,rfl,λi o r h=>by simp at h⟩
 | @cons o rest T d h h1 e v rd wr call a f p _ q =>
  obtain⟨s,c,b,vs,j,k,t,u,hi⟩:=q
  refine⟨by simp[s],λi=>match i with | 0=>T | i+1=>c i,λi=>match i with | 0=>h | i+1=>b i,λi=>match i with | 0=>v | i+1=>vs i,rfl,rfl,t,u,?_⟩
  intro i w r g hr
  cases i with
  | zero =>
   simp at g hr
   subst g hr
   exact⟨by simpa only [j,k] using f,p,by simp only[j],rfl,by simp only[k]⟩
  | succ i =>
   exact hi i w r (by simpa using g) (by simpa using hr)
theorem qm {P:Program} {n:Nat} {all:List Oper} {o:Oper} {T:Env} {h a:aw} {v:V} {rd wr:List Nat} {call:Bool} (st:ct P n all o T h v a rd wr call):h.length<=a.length:=by
 cases st with
 | skip=>exact OR _
 | op _ _=>rw[eE];exact Nat.le_add_right _ _
 | gg _ _ _=>exact OR _
 | ej _ _ _ _ _ _=>exact OR _
 | call _ _ _ _ b _ _=>exact b.1
theorem oN {P:Program} {n:Nat} {all:List Oper} {o:Oper} {T:Env} {h c:aw} {v:V} {rd wr:List Nat} {call:Bool} (st:ct P n all o T h v c rd wr call) {id:Nat} (a:id < h.length) (hw:¬ id∈wr):c.view id=h.view id:=by
 cases st with
 | skip=>rfl
 | op f b =>
  rename_i au
  rw[iG (λid a=>(j0 b id a).1)]
  cases au with
  | none=>rfl
  | new o=>simp only[aM.view,View.set];rw[OK (by omega)]
  | dP k o=>simp only[aM.view,View.set];rw[OK (λe=>hw (by simp[aM.wr,e]))]
  | cF k o=>simp only[aM.view,View.set];rw[OK (by omega),OK (λe=>hw (by simp[aM.wr,e]))]
 | gg _ _ _=>rfl
 | ej _ _ _ _ _ _=>rfl
 | call _ _ _ _ _ d _=>exact d id a hw
theorem sT {P:Program} {n:Nat} {all:List Oper} {o:Oper} {T:Env} {h b:aw} {v:V} {rd wr:List Nat} {call:Bool} (st:ct P n all o T h v b rd wr call) {id:Nat} (hw:id∈wr):id < h.length/\(call=false->id∈rd):=by
 cases st with
 | skip=>simp at hw
 | op d a=>exact⟨fC (j0 a id hw).1,λ_=>(j0 a id hw).2⟩
 | gg _ _ _=>simp at hw
 | ej _ _ _ _ _ _=>simp at hw
 | call _ _ _ _ _ _ c=>exact⟨c id hw,λh=>by simp at h⟩
theorem CM {H:View} {x:V} {xs:List (List V)} {rd:List Nat} (h:bD H x=some (xs,rd)):∀ id,id∈rd->H id≠.dead:=by
 intro id a
 unfold bD at h
 split at h
 .simp at h;rw[h.2] at a;simp at a
 .simp at h;rw[h.2] at a;simp at a
 .simp at h;rw[h.2] at a;simp at a
 .simp at h;rw[h.2] at a;simp at a
 .split at h
  .rename_i hH
   split at h
   .simp at h;rw[<-h.2] at a;simp at a;subst a;rw[hH];simp
   .simp at h
  .simp at h
 .simp at h;rw[h.2] at a;simp at a
 .simp at h
theorem MM {P:Program} {o:Oper} {T:Env} {H:View} {n:Nat} {v:V} {au:aM} {rd:List Nat} (h:bo P o T H n=some (v,au,rd)):∀ id,id∈rd->H id≠.dead:=by
 have b:∀ {d:V} {e:aM},some (d,e,([]:List Nat))=some (v,au,rd)->∀ id,id∈rd->H id≠.dead:=by
  intro d e heq id c
  simp only[OJ,OL] at heq
  rw[<-heq.2.2] at c;simp at c
 have one:∀ {k:Nat} {d:V} {e:aM},H k≠.dead->some (d,e,[k])=some (v,au,rd)->∀ id,id∈rd->H id≠.dead:=by
  intro k d e hk heq id c
  simp only[OJ,OL] at heq
  rw[<-heq.2.2] at c;simp at c;subst c;exact hk
 have mp:∀ {α:Type} {x:Option α} {f:α->V},(x.map λa=>(f a,aM.none,([]:List Nat)))=some (v,au,rd)->∀ id,id∈rd->H id≠.dead:=by
  intro α x f h
  simp only[OQ] at h
  obtain⟨a,_,h⟩:=h
  exact b (Qo some h)
 have l:∀ {α:Type} {x:Option α} {f:α->V} {k:Nat},H k≠.dead->(x.map λa=>(f a,aM.none,[k]))=some (v,au,rd)->∀ id,id∈rd->H id≠.dead:=by
  intro α x f k hk h
  simp only[OQ] at h
  obtain⟨a,_,h⟩:=h
  exact one hk (Qo some h)
 have pu:cw P o T=some (v,au,rd)->∀ id,id∈rd->H id≠.dead:=by
  intro h
  unfold cw at h
  repeat' (split at h)
  all_goals first | exact b h | (simp at h;done)
 have m:∀ {cs:List V},iY cs n=some (v,au,rd)->∀ id,id∈rd->H id≠.dead:=by
  intro cs h
  unfold iY at h
  split at h
  .exact b h
  .simp at h
 have i:∀ {x:V} {xs:List (List V)} {r:List Nat} {d:V} {e:aM},bD H x=some (xs,r)->some (d,e,r)=some (v,au,rd)->∀ id,id∈rd->H id≠.dead:=by
  intro x xs r d e he heq id c
  simp only[OJ,OL] at heq
  rw[<-heq.2.2] at c
  exact CM he id c
 have j:∀ {x:V} {xs:List (List V)} {r:List Nat} {d:V} {e:aM} {k:Nat},bD H x=some (xs,r)->H k≠.dead->some (d,e,k :: r)=some (v,au,rd)->∀ id,id∈rd->H id≠.dead:=by
  intro x xs r d e k he hk heq id c
  simp only[OJ,OL] at heq
  rw[<-heq.2.2] at c
  rcases O1.1 c with h1 | h1
  .subst h1;exact hk
  .exact CM he id h1
 unfold bo at h
 split at h
 .exact b h
 .exact b h
 .split at h
  .exact b h
  .simp at h
 .split at h
  .exact m h
  .simp at h
 .exact m h
 .unfold qY at h
  split at h
  .split at h
   .exact mp h
   .simp at h
  .simp at h
 .unfold e9 at h
  repeat' (split at h)
  all_goals first | exact b h | (simp at h;done)
 .unfold jM at h
  split at h
  .split at h
   .rename_i hH
    split at h
    .exact l (by rw[hH];simp) h
    .simp at h
   .simp at h
  .exact mp h
  .simp at h
 .unfold nz at h
  split at h
  .split at h
   .rename_i hH
    split at h
    .exact one (by rw[hH];simp) h
    .simp at h
   .simp at h
  .simp at h
 .repeat' (split at h)
  all_goals first | exact b h | (simp at h;done)
 .unfold iH at h
  repeat' (split at h)
  all_goals first | exact b h | (simp at h;done)
 .unfold rA at h
  split at h
  .exact mp h
  .simp at h
 .unfold iP at h
  repeat' (split at h)
  all_goals first | exact b h | (simp at h;done)
 .split at h
  .exact pu h
  .unfold pf at h
   repeat' (split at h)
   all_goals first | exact b h | (simp at h;done)
 .unfold iE at h
  repeat' (split at h)
  all_goals first | exact b h | (simp at h;done)
 .repeat' (split at h)
  all_goals first | exact b h | (simp at h;done)
 .exact b h
 .unfold dG at h
  simp only at h
  split at h
  .simp at h
  .split at h
   .simp at h
   .split at h
    .split at h
     .rename_i hH
      repeat' (split at h)
      all_goals first | exact one (by rw[hH];simp) h | (simp at h;done)
     .simp at h
    .simp at h
 .unfold ep at h
  split at h
  .split at h
   .rename_i hH
    repeat' (split at h)
    all_goals first | exact one (by rw[hH];simp) h | (simp at h;done)
   .simp at h
  .simp at h
 .unfold ep at h
  split at h
  .split at h
   .rename_i hH
    repeat' (split at h)
    all_goals first | exact one (by rw[hH];simp) h | (simp at h;done)
   .simp at h
  .simp at h
 .unfold cM at h
  split at h
  .split at h
   .rename_i hH
    repeat' (split at h)
    all_goals first | exact one (by rw[hH];simp) h | (simp at h;done)
   .simp at h
  .simp at h
 .unfold gP at h
  split at h
  .split at h
   .rename_i hH
    repeat' (split at h)
    all_goals first | exact one (by rw[hH];simp) h | (simp at h;done)
   .simp at h
  .simp at h
 .repeat' (split at h)
  all_goals first | exact b h | (simp at h;done)
 .repeat' (split at h)
  all_goals first | exact b h | (simp at h;done)
 .unfold xD at h
  split at h
  .split at h
   .rename_i hH
    split at h
    .exact one (by rw[hH];simp) h
    .exact one (by rw[hH];simp) h
   .simp at h
  .simp at h
 .split at h
  .unfold jT at h
   split at h
   .split at h
    .split at h
     .rename_i he _
      simp only[OQ] at h
      obtain⟨a,_,h⟩:=h
      exact i he (Qo some h)
     .simp at h
    .simp at h
   .repeat' (split at h)
    all_goals first | exact b h | (simp at h;done)
   .split at h
    .split at h
     .split at h
      .rename_i hH
       exact one (by rw[hH];simp) h
      .simp at h
     .simp at h
    .simp at h
   .simp at h
  .exact pu h
 .split at h
  .split at h
   .unfold qN at h
    split at h
    .exact mp h
    .split at h
     .split at h
      .rename_i hH
       exact one (by rw[hH];simp) h
      .simp at h
     .exact b h
     .simp at h
    .repeat' (split at h)
     all_goals first | exact b h | (simp at h;done)
    .exact b h
    .simp at h
   .simp at h
  .split at h
   .unfold kG at h
    split at h
    .rename_i g
     split at h
     .simp at h
     .split at h
      .split at h
       all_goals first | exact b h | (simp at h;done)
      .split at h
       .simp at h
       .split at h
        .split at h
         .exact i g h
         .simp at h
        .split at h
         .rename_i hH
          split at h
          .exact j g (by rw[hH];simp) h
          .simp at h
         .simp at h
        .simp at h
    .simp at h
   .split at h
    .unfold sO at h
     split at h
     .split at h
      .split at h
       .exact b h
       .split at h
        .exact b h
        .simp at h
      .simp at h
     .simp at h
    .simp at h
  .split at h
   .unfold C4 at h
    split at h
    .exact b h
    .simp at h
   .simp at h
  .split at h
   .unfold xl at h
    split at h
    .rename_i g _
     split at h
     .simp at h
     .split at h
      .exact b h
      .split at h
       .split at h
        .rename_i hH
         split at h
         .exact j g (by rw[hH];simp) h
         .simp at h
        .simp at h
       .simp at h
    .simp at h
   .simp at h
  .split at h
   .unfold rP at h
    split at h
    .split at h
     .rename_i hH
      repeat' (split at h)
      all_goals first | exact one (by rw[hH];simp) h | (simp at h;done)
     .simp at h
    .simp at h
   .simp at h
  .split at h
   .unfold uA at h
    split at h
    .split at h
     .exact b h
     .split at h
      .split at h
       .rename_i hH
        split at h
        .exact one (by rw[hH];simp) h
        .simp at h
       .simp at h
      .simp at h
    .simp at h
   .simp at h
  .exact pu h
  .exact pu h
  .exact pu h
  .exact pu h
  .exact pu h
  .simp at h
 .split at h
  .split at h
   .exact b h
   .exact b h
   .simp at h
  .exact pu h
 .exact pu h
 .exact pu h
 .simp at h
theorem wh {P:Program} {n:Nat} {all:List Oper} {o:Oper} {T:Env} {h b:aw} {v:V} {rd wr:List Nat} {call:Bool} (st:ct P n all o T h v b rd wr call) {id:Nat} (hw:id∈rd):id < h.length:=by
 cases st with
 | skip=>simp at hw
 | op c a=>exact fC (MM a id hw)
 | gg _ _ _=>simp at hw
 | ej _ _ _ _ _ _=>simp at hw
 | call _ _ _ _ _ _ d=>simp at hw
structure mV (n:Nat) (Z:Nat->Prop) (μ:Mu) (F:View) (T:Env) (h:aw) (a:Act) (w:World):Prop where
 defers:a.defers=[]
 size:a.tmps.size=n
 tm:∀ t,aq Z μ w.heap (T t) (a.tmps.getD t undef)
 hr:fc Z μ w.heap (cat h F)
def bK (P:Program) (n:Nat) (c:Code) (T:Env) (h:aw) (e:Exit) (T':Env) (h':aw):Prop :=
 h.length<=h'.length/\∀ Z μ F a w,(∀ id,h.length<=id->id < h'.length->μ id=none)->mV n Z μ F T h a w ->
  c.wp P (λe' a' w'=>e'=e/\∃ Z' μ',mV n Z' μ' F T' h' a' w'/\Ext Z μ w h.length Z' μ' w'/\(∀ id,id < h.length∨h'.length<=id->μ' id=μ id)) a w
section
variable {P:Program} {n:Nat} {all:List Oper}
theorem Dm {Z:Nat->Prop} {μ:Mu} {w:World} {T:Env} {a:Act} {o:Oper} (h:∀ t,t∈tmpsOf o->aq Z μ w.heap (T t) (a.tmps.getD t undef)):∀ x∈o.op.operands,aq Z μ w.heap (ev T x) (a.eval x):=by
 intro x b
 cases x with
 | tmp t=>exact h t (by simp only[tmpsOf,Qp];exact⟨.tmp t,by simpa using b,rfl⟩)
 | const v=>exact eF v
 | global g=>exact .any _
 | func f=>exact .fn f [] [] #[] #[] rfl rfl (λi hi=>by simp at hi) (λi hi=>by simp at hi)
theorem EK {a:Nat->aw} {N:Nat} (h:∀ i,i < N->(a i).length<=(a (i+1)).length):∀ i j,i<=j->j<=N->(a i).length<=(a j).length:=by
 intro i j b
 induction b with
 | refl=>intro _;exact OR _
 | step _ c=>intro d;exact Pp (c (by omega)) (h _ (by omega))
theorem vw {a:Nat->Env} {vs:Nat->V} {N t:Nat} (g:∀ i o,all[i]?=some o->a (i+1)=(a i).put o.dst (vs i)) (p:N=all.length):∀ i j,i<=j->j<=N->(∀ k o,i<=k->k < j->all[k]?=some o->o.dst≠some t)->a j t=a i t:=by
 intro i j c
 induction c with
 | refl=>intro _ _;rfl
 | step hle h =>
  rename_i m
  intro q b
  have hm:m < all.length:=by omega
  rw[g m all[m] (OI hm)]
  have l:=b m all[m] hle (by omega) (OI hm)
  have:(Env.put (a m) (all[m]).dst (vs m)) t=a m t:=by
   cases f:(all[m]).dst with
   | none=>rfl
   | some d =>
    simp only[Env.put]
    rw[OK (λe=>l (by rw[f,e]))]
  rw[this]
  exact h (by omega) (λk o h1 r n=>b k o h1 (by omega) n)
def wH (P:Program) (n:Nat) (all:List Oper) (recs:List Rec) (Ts:Nat->Env) (hs:Nat->aw) (vs:Nat->V):Prop:=∀ i o r,all[i]?=some o->recs[i]?=some r ->
 ct P n all o (Ts i) (hs i) (vs i) (hs (i+1)) r.rd r.wr r.call/\oH n o=true/\Ts (i+1)=(Ts i).put o.dst (vs i)/\r.lo=(hs i).length/\r.hi=(hs (i+1)).length
structure Bears (P:Program) (n:Nat) (all:List Oper) (Ts:Nat->Env) (hs:Nat->aw) (vs:Nat->V) (i k:Nat) (o:Oper) (a b:Rec):Prop where
 wr:a.wr=[]
 call:a.call=false
 len:a.lo=a.hi
 step:∀ g:aw,g.length=(hs i).length->(∀ id,id < (hs i).length->g.view id=if id∈b.wr then (hs (k+1)).view id else (hs i).view id)->ct P n all o (Ts i) g (vs i) g a.rd [] false
def Fw (P:Program) (n:Nat) (all:List Oper) (recs:List Rec) (T T':Env) (h:aw):Prop:=∀ Ts hs vs,Ts 0=T->hs 0=h->Ts all.length=T'->recs.length=all.length->wH P n all recs Ts hs vs->∀ i,∃ tol:Option Nat,
 (∀ k a b,i < k->recs[i]?=some a->recs[k]?=some b->ordered (dN all []) i k=false->tol≠some k->lq a b) /\
 ∀ k a b o,tol=some k->recs[i]?=some a->recs[k]?=some b->all[i]?=some o->i < k/\Bears P n all Ts hs vs i k o a b
theorem qM.Ny {c:List Rec} {T d:Env} {hp:aw} (h:qM all c):Fw P n all c T d hp:=λ_ _ _ _ _ _ _ _ i=>⟨none,λk a b h1 e f g _=>h i k a b h1 e f g,λk a b o h1=>by simp at h1⟩
theorem sf (hm:P.follows .mixedOrders=true) {id:Nat} {T T':Env} {h h':aw} {A:List Rec} (tr:Tr P n all all T h A T' h') (ht:jo all=true) (hF:Fw P n all A T T' h) :
  bK P n (.region id all.toArray true) T h .normal T' h':=by
 obtain⟨hG,Ts,v,vs,ft,bn,fx,bs,E⟩:=AD all T h A T' h' tr
 obtain⟨U,V⟩:=Di ht
 have hc:=hF Ts v vs ft bn fx hG E
 have J:∀ i,i < all.length->∃ o r,all[i]?=some o/\A[i]?=some r:=λi hi=>⟨all[i],A[i]'(by omega),OI hi,OI (by omega)⟩
 have dv:∀ i o,all[i]?=some o->i < all.length:=λi o hi=>iF hi
 have hT:∀ i o,all[i]?=some o->Ts (i+1)=(Ts i).put o.dst (vs i):=λi o hi=>by
  obtain⟨o',r,h1,y⟩:=J i (dv i o hi)
  rw[hi] at h1;simp at h1;subst h1
  exact(E i o r hi y).2.2.1
 have b8:∀ i,i < all.length->(v i).length<=(v (i+1)).length:=λi hi=>by
  obtain⟨o,r,h1,y⟩:=J i hi
  exact qm (E i o r h1 y).1
 have f:=EK b8
 have hle:h.length<=h'.length:=by rw[<-bn,<-bs];exact f _ _ (PL _) (OR _)
 have W:∀ i j id,i<=j->j<=all.length->id < (v i).length->(∀ k r,i<=k->k < j->A[k]?=some r->¬ id∈r.wr)->(v j).view id=(v i).view id:=by
  intro i j id hI
  induction hI with
  | refl=>intro _ _ _;rfl
  | step hle ih =>
   rename_i m
   intro hj s cc
   obtain⟨o,r,h1,y⟩:=J m (by omega)
   rw[oN (E m o r h1 y).1 (O0 s (f _ _ hle (by omega))) (cc m r hle (by omega) y)]
   exact ih (by omega) s (λk r h1 y N=>cc k r h1 (by omega) N)
 refine⟨hle,λZ μ F a w cf a1=>wp_region_any hm ?_⟩
 let Inv (aQ:Array Bool) (I:Act) (w':World):Prop:=∃ Y μ' H,I.defers=[]/\I.tmps.size=n /\
  (∀ t,∃ G,G<=all.length/\aq Y μ' w'.heap (Ts G t) (I.tmps.getD t undef)/\∀ k o,all[k]?=some o->o.dst=some t->(aQ.getD k false=true↔k < G)) /\
  fc Y μ' w'.heap H /\
  (∀ id,μ' id≠none->(∃ G,G<=all.length/\id < (v G).length/\H id=(v G).view id/\∀ k r,A[k]?=some r->id∈r.wr->(aQ.getD k false=true↔k < G))∨(h'.length<=id/\H id=F id)) /\
  (∀ k id,k < all.length->(v k).length<=id->id < (v (k+1)).length->μ' id≠none->aQ.getD k false=true) /\
  (∀ k o,all[k]?=some o->aQ.getD k false=true->∀ e∈o.after.toList,Region.binds .any e=true->aQ.getD e.on false=true) /\
  Ext Z μ w h.length Y μ' w'/\(∀ id,id < h.length∨h'.length<=id->μ' id=μ id)/\aQ.size=all.length
 have key:∀ fuel aQ I w',Inv aQ I w'->((List.range all.length).countP λi=>!aQ.getD i false)<=fuel ->
   wpAny P .any all.toArray (λe' I w'=>e'=.normal/\∃ Y μ',mV n Y μ' F T' h' I w'/\Ext Z μ w h.length Y μ' w'/\(∀ id,id < h.length∨h'.length<=id->μ' id=μ id)) fuel aQ I w':=by
  have ready_iff:∀ (aQ:Array Bool),aQ.size=all.length->∀ i,i∈Region.ready .any all.toArray aQ↔(∃ o,all[i]?=some o/\aQ.getD i false=false/\∀ e∈o.after.toList,Region.binds .any e=true->aQ.getD e.on false=true):=by
   intro aQ X i
   simp only[Region.ready,PZ,PC,Pm,Pr,OO,Qz]
   constructor
   .rintro⟨hi,h1,y⟩
    rw[OI hi] at y
    simp only[OU,OS] at y
    refine⟨all[i],OI hi,?_,λe he hb=>?_⟩
    .have:i < aQ.size:=by omega
     simp only[OP,OZ this,OS] at h1 ⊢
     exact h1
    .have:=Array.all_eq_true_iff_forall_mem.1 y e (by simpa using he)
     simpa [hb] using this
   .rintro⟨o,R,h1,y⟩
    have hi:=dv i o R
    refine⟨hi,?_,?_⟩
    .have:i < aQ.size:=by omega
     simp only[OP,OZ this,OS] at h1 ⊢
     exact h1
    .rw[R]
     simp only[OU,OS]
     rw[Array.all_eq_true_iff_forall_mem]
     intro e he
     cases hb:Region.binds .any e with
     | false=>rfl
     | true=>simpa using y e (by simpa using he) hb
  have ch:∀ (aQ:Array Bool),aQ.size=all.length->Region.ready .any all.toArray aQ=[]->∀ i,i < all.length->aQ.getD i false=true:=by
   intro aQ X cj i
   induction i using Nat.strongRecOn with
   | _ i ih =>
    intro hi
    cases hl:aQ.getD i false with
    | true=>rfl
    | false =>
     exfalso
     have:i∈Region.ready .any all.toArray aQ:=(ready_iff aQ X i).2 ⟨all[i],OI hi,hl,λe he hb=>ih e.on (U i all[i] (OI hi) e he hb) (by have:=U i all[i] (OI hi) e he hb;omega)⟩
     rw[cj] at this;simp at this
  have finish:∀ aQ I w',Inv aQ I w'->(∀ i,i < all.length->aQ.getD i false=true) ->
    ∃ Y μ',mV n Y μ' F T' h' I w'/\Ext Z μ w h.length Y μ' w'/\(∀ id,id < h.length∨h'.length<=id->μ' id=μ id):=by
   rintro aQ I w' ⟨Y,μ',H,hd,X,ea,hr,ck,cu,eb,hex,cv,O⟩ a6
   refine⟨Y,μ',⟨hd,X,λt=>?_,hr.congr λid s=>?_⟩,hex,cv⟩
   .obtain⟨G,B,hv,hw⟩:=ea t
    have:=vw (t:=t) hT rfl G all.length B (OR _) (λk o h1 y N h4=>by
     have:=(hw k o N h4).1 (a6 k y);omega)
    rw[<-fx,this];exact hv
   .unfold cat
    rcases ck id s with ⟨G,B,hl,hH,hw⟩ | ⟨hl,hH⟩
    .have:=W G all.length id B (OR _) hl (λk r h1 y N h4=>by
      have:=(hw k r N h4).1 (a6 k y);omega)
     have hJ:id < h'.length:=by rw[<-bs];exact O0 hl (f _ _ B (OR _))
     rw[OM hJ,hH,<-this,bs]
    .rw[OK (by omega),hH]
  intro fuel
  induction fuel with
  | zero =>
   intro aQ I w' hinv fz
   have O:aQ.size=all.length:=by obtain⟨_,_,_,_,_,_,_,_,_,_,_,_,O⟩:=hinv;exact O
   have a6:∀ i,i < all.length->aQ.getD i false=true:=by
    intro i hi
    have h0:(List.range all.length).countP (λi=>!aQ.getD i false)=0:=by omega
    rw[List.countP_eq_zero] at h0
    have:=h0 i (by simpa using hi)
    simpa using this
   refine⟨?_,rfl,finish aQ I w' hinv a6⟩
   apply List.eq_nil_iff_forall_not_mem.2
   intro i hi
   obtain⟨o,R,h1,_⟩:=(ready_iff aQ O i).1 hi
   rw[a6 i (dv i o R)] at h1;simp at h1
  | succ fuel ih =>
   intro aQ I w' hinv fz
   have O:aQ.size=all.length:=by obtain⟨_,_,_,_,_,_,_,_,_,_,_,_,O⟩:=hinv;exact O
   refine⟨λcj=>⟨rfl,finish aQ I w' hinv (ch aQ O cj)⟩,λi hi=>?_⟩
   obtain⟨o,R,gd,cC⟩:=(ready_iff aQ O i).1 hi
   have K:=dv i o R
   obtain⟨_,r,_,C⟩:=J i K
   obtain⟨cN,cS,_,gk,gr⟩:=E i o r R C
   obtain⟨Y,μ',H,hd,X,ea,hr,ck,cu,eb,hex,cv,_⟩:=hinv
   have b1:¬ (aQ.getD i false=true):=by rw[gd];simp
   have before:∀ j,ordered (dN all []) j i=true->aQ.getD j false=true:=λj hj=>Ck U eb R cC hj
   have behind:∀ k ok,all[k]?=some ok->ordered (dN all []) i k=true->aQ.getD k false=true->False:=λk ok hk c S=>b1 (tv (L:=λk=>aQ.getD k false=true) U eb k ok i hk S c)
   have slot:∀ t,t∈lu all o->aq Y μ' w'.heap (Ts i t) (I.tmps.getD t undef):=by
    intro t cV
    obtain⟨G,B,hv,hw⟩:=ea t
    rcases Nat.le_total G i with bx | bx
    .have:=vw (t:=t) hT rfl G i bx (by omega) (λk ok h1 y N h4=>by
      have a7:=(hw k ok N h4).1
      cases c:ordered (dN all []) k i with
      | true=>have:=a7 (before k c);omega
      | false=>exact(V k i ok o y N R c).1 t h4 cV)
     rw[this];exact hv
    .have:=vw (t:=t) hT rfl i G bx B (λk ok h1 y N h4=>by
      have a7:=(hw k ok N h4).2 y
      rcases Nat.eq_or_lt_of_le h1 with u | u
      .subst u;exact b1 a7
      .cases c:ordered (dN all []) i k with
       | true=>exact behind k ok N c a7
       | false=>exact(V i k o ok u R N c).2 t h4 cV)
     rw[<-this];exact hv
   obtain⟨c0,ha,ez⟩:=hc i
   have c3:∀ id,id < (v i).length->μ' id≠none->(∀ k z,A[k]?=some z->k≠i->id∈z.wr->(aQ.getD k false=true↔k < i))->H id=(v i).view id:=by
    intro id s hm hk
    rcases ck id hm with ⟨G,B,hl,hH,hw⟩ | ⟨hl,_⟩
    .rw[hH]
     rcases Nat.le_total G i with bx | bx
     .exact(W G i id bx (by omega) hl (λk z h1 y N h4=>by
       have:=(hw k z N h4).1 ((hk k z N (by omega) h4).2 y);omega)).symm
     .exact W i G id bx B s (λk z h1 y N h4=>by
       have a7:=(hw k z N h4).2 y
       rcases Nat.eq_or_lt_of_le h1 with u | u
       .subst u;exact b1 a7
       .have:=(hk k z N (by omega) h4).1 a7;omega)
    .have:(v i).length<=h'.length:=by rw[<-bs];exact f _ _ (by omega) (OR _)
     omega
   have place:∀ id,(id∈r.rd∨id∈r.wr∨r.call=true)->∀ k z,A[k]?=some z->k≠i->id∈z.wr->(c0=some k->aQ.getD k false=false)->(aQ.getD k false=true↔k < i):=by
    intro id s k z hk b0 hw hf
    have hK:id∈r.wr->r.call=false->id∈r.rd:=λh1 y=>(sT cN h1).2 y
    have c4:id∈r.rd∨r.call=true:=by
     rcases s with h1 | h1 | h1
     .exact .inl h1
     .cases hh:r.call with
      | true=>exact .inr rfl
      | false=>exact .inl (hK h1 hh)
     .exact .inr h1
    have da:z.wr≠[]:=λe=>by rw[e] at hw;simp at hw
    obtain⟨ok,_,db,_⟩:=J k (by have:=iF hk;omega)
    rcases Nat.lt_or_gt_of_ne b0 with b2 | b2
    .refine⟨λ_=>b2,λ_=>?_⟩
     cases c:ordered (dN all []) k i with
     | true=>exact before k c
     | false =>
      obtain⟨tk,hM,hN⟩:=hc k
      by_cases hn:tk=some i
      .exact absurd (hN i z r ok hn hk C db).2.wr da
      .have nc:=hM i z r b2 hk C c hn
       rcases c4 with h1 | h1
       .exact absurd h1 (nc.NB id hw)
       .exact absurd (nc.call2 h1) da
    .refine⟨λS=>?_,λh6=>by omega⟩
     exfalso
     cases c:ordered (dN all []) i k with
     | true=>exact behind k ok db c S
     | false =>
      by_cases et:c0=some k
      .rw[hf et] at S;simp at S
      .have nc:=ha k r z b2 C hk c et
       rcases c4 with h1 | h1
       .exact absurd h1 (nc.MU id hw)
       .exact absurd (nc.M7 h1) da
   have closing:∀ x w1 Z1 a8,aq Z1 a8 w1.heap (vs i) x->fc Z1 a8 w1.heap (fU H (v i) (v (i+1)) r.wr)->Ext Y μ' w' (v i).length Z1 a8 w1->(∀ id,id < (v i).length∨(v (i+1)).length<=id->a8 id=μ' id) ->
     wpAny P .any all.toArray (λe' I w'=>e'=.normal/\∃ Y μ',mV n Y μ' F T' h' I w'/\Ext Z μ w h.length Y μ' w'/\(∀ id,id < h.length∨h'.length<=id->μ' id=μ id)) fuel (aQ.setIfInBounds i true) (I.put o.dst x) w1:=by
    intro x w1 Z1 a8 e0 e1 b3 M
    have Q:∀ k,(aQ.setIfInBounds i true).getD k false=if k=i then true else aQ.getD k false:=by
     intro k
     simp only[OP,Pt]
     by_cases e:i=k
     .subst e;rw[OM rfl,OM rfl,OM (by omega)];rfl
     .rw[OK e,OK (λq=>e q.symm)]
    have hq:(aQ.setIfInBounds i true).size=all.length:=by simpa using O
    refine ih _ _ _ ⟨Z1,a8,fU H (v i) (v (i+1)) r.wr,?_,?_,?_,e1,?_,?_,?_,?_,?_,hq⟩ ?_
    .unfold Act.put;split <;> exact hd
    .unfold Act.put;split <;> simp[X]
    .intro t
     by_cases dj:o.dst=some t
     .refine⟨i+1,K,?_,λk ok hk b5=>?_⟩
      .rw[hT i o R,dj]
       have hx:t < I.tmps.size:=by unfold oH at cS;rw[dj] at cS;rw[X];simpa using cS
       simp only[Env.put,Act.put,if_true,OP,Pt,hx,OS]
       exact e0
      .rw[Q]
       by_cases e:k=i
       .subst e;simp
       .rw[OK e]
        have cV:t∈lu all o:=by simp[lu,dj]
        rcases Nat.lt_or_gt_of_ne e with u | u
        .cases c:ordered (dN all []) k i with
         | true=>exact⟨λ_=>by omega,λ_=>before k c⟩
         | false=>exact absurd cV ((V k i ok o u hk R c).1 t b5)
        .cases c:ordered (dN all []) i k with
         | true=>exact⟨λS=>(behind k ok hk c S).elim,λh6=>by omega⟩
         | false=>exact absurd cV ((V i k o ok u R hk c).2 t b5)
     .obtain⟨G,B,hv,hw⟩:=ea t
      refine⟨G,B,?_,λk ok hk b5=>?_⟩
      .have:(I.put o.dst x).tmps.getD t undef=I.tmps.getD t undef:=by
        unfold Act.put
        split
        .rename_i d e2
         simp only[OP,Pt]
         rw[OK (λe=>dj (by rw[e2,e]))]
        .rfl
       rw[this];exact hv.mono b3.mono
      .rw[Q,OK (λe=>by subst e;rw[R] at hk;simp at hk;subst hk;exact dj b5)]
       exact hw k ok hk b5
    .intro id e3
     unfold fU
     by_cases b7:id∈r.wr∨((v i).length<=id/\id < (v (i+1)).length)
     .left
      have bl:id < (v (i+1)).length:=by
       rcases b7 with u | u
       .exact O0 (sT cN u).1 (b8 i K)
       .exact u.2
      refine⟨i+1,K,bl,by rw[OM b7],λk z hk D=>?_⟩
      rw[Q]
      by_cases e:k=i
      .subst e;simp
      .rw[OK e]
       obtain⟨ok,_,db,_⟩:=J k (by have:=iF hk;omega)
       rcases b7 with u | u
       .have hp:=place id (.inr (.inl u)) k z hk e D (λet=>by
         have:=(ez k r z o et C hk R).2.wr
         rw[this] at u;simp at u)
        exact⟨λS=>by have:=hp.1 S;omega,λh7=>hp.2 (by omega)⟩
       .obtain⟨dm,_⟩:=E k ok z db hk
        have a7:=(sT dm D).1
        have hP:i < k:=by
         rcases Pn i k with h6 | h6
         .exact h6
         .have:=f k i h6 (by omega);omega
        refine⟨λS=>?_,λh7=>by omega⟩
        exfalso
        cases c:ordered (dN all []) i k with
        | true=>exact behind k ok db c S
        | false =>
         by_cases et:c0=some k
         .have:=(ez k r z o et C hk R).2.len
          omega
         .exact(ha k r z hP C hk c et).new id D (by rw[gk,gr];exact u)
     .rw[OK b7]
      have e4:μ' id≠none:=by
       rw[<-M id ?_]
       .exact e3
       .rcases Pn id (v i).length with h6 | h6
        .exact .inl h6
        .right
         rcases Pn id (v (i+1)).length with h7 | h7
         .exact absurd (.inr ⟨h6,h7⟩) b7
         .exact h7
      rcases ck id e4 with ⟨G,B,hl,hH,hw⟩ | u
      .refine .inl ⟨G,B,hl,hH,λk z hk D=>?_⟩
       rw[Q,OK (λe=>by subst e;rw[C] at hk;simp at hk;subst hk;exact b7 (.inl D))]
       exact hw k z hk D
      .exact .inr u
    .intro k id hk h1 y e3
     rw[Q]
     by_cases e:k=i
     .rw[OM e]
     .rw[OK e]
      refine cu k id hk h1 y ?_
      rw[<-M id ?_]
      .exact e3
      .rcases Nat.lt_or_gt_of_ne e with h6 | h6
       .left;exact O0 y (f _ _ h6 (by omega))
       .right;exact Pp (f _ _ h6 (by omega)) h1
    .intro k ok hk S e he hb
     rw[Q] at S ⊢
     by_cases ek:k=i
     .subst ek
      rw[R] at hk;simp at hk;subst hk
      split
      .rfl
      .exact cC e he hb
     .rw[OK ek] at S
      split
      .rfl
      .exact eb k ok hk S e he hb
    .refine hex.trans b3 ?_ a1.hr.lt
     rw[<-bn];exact f _ _ (PL _) (by omega)
    .intro id s
     rw[M id,cv id s]
     rcases s with u | u
     .left;rw[<-bn] at u;exact O0 u (f _ _ (PL _) (by omega))
     .right;rw[<-bs] at u;exact Pp (f _ _ K (OR _)) u
    .have:(List.range all.length).countP (λk=>!(aQ.setIfInBounds i true).getD k false) < (List.range all.length).countP (λk=>!aQ.getD k false):=by
      have gen:∀ (l:List Nat),i∈l->l.Nodup->l.countP (λk=>!(aQ.setIfInBounds i true).getD k false) < l.countP (λk=>!aQ.getD k false):=by
       intro l
       induction l with
       | nil=>intro h;simp at h
       | cons x l hQ =>
        intro hy e5
        simp only[Ps] at e5
        by_cases e:x=i
        .subst e
         have e6:l.countP (λk=>!(aQ.setIfInBounds x true).getD k false)=l.countP (λk=>!aQ.getD k false):=by
          apply List.countP_congr
          intro k hk
          have hR:k≠x:=λq=>e5.1 (by rw[<-q];exact hk)
          rw[Q,OK hR]
         have h1:(aQ.setIfInBounds x true).getD x false=true:=by rw[Q,OM rfl]
         rw[List.countP_cons,List.countP_cons,e6,h1,gd]
         simp
        .have e7:i∈l:=by
          rcases O1.1 hy with u | u
          .exact absurd u.symm e
          .exact u
         have:=hQ e7 e5.2
         simp only[List.countP_cons,Q,OK e]
         simp only[Q] at this
         omega
      exact gen _ (by simpa using K) List.nodup_range
     omega
   have b4:∀ j want d,o.guard=some (j,want)->(all[j]?).bind (·.dst)=some d->aq Y μ' w'.heap (Ts i d) (I.tmps.getD d undef):=λj want d hg e2=>slot d (by
    simp only[lu,Pg];right;rw[hg];simp[e2])
   have ei:=Dm (o:=o) λt hS=>slot t (by
    simp only[lu,Pg];left;right;exact hS)
   by_cases hz:∃ k0,c0=some k0/\aQ.getD k0 false=true
   .obtain⟨k0,e8,hA⟩:=hz
    have hV:k0 < all.length:=by
     rcases Pn k0 all.length with u | u
     .exact u
     .simp[OP,P6 (show aQ.size<=k0 by omega)] at hA
    obtain⟨_,b,_,hb⟩:=J k0 hV
    obtain⟨hY,hB⟩:=ez k0 r b o e8 C hb R
    let g:aw:=(List.range (v i).length).map λid=>if id∈b.wr then (v (k0+1)).view id else (v i).view id
    have hC:∀ id,id < (v i).length->aw.view g id=if id∈b.wr then (v (k0+1)).view id else (v i).view id:=by
     intro id s
     simp only[g,aw.view,OH,ON,List.getElem?_range s,OU,OS]
    have hlen:(v (i+1)).length=(v i).length:=by rw[<-gr,<-gk,hB.len]
    have ds:List.length g=(v i).length:=by simp only[g,OX,List.length_range]
    have dm:=hB.step g ds hC
    have hW:fU H g g []=fU H (v i) (v (i+1)) r.wr:=by
     funext id
     unfold fU
     rw[OK (by
            rintro (h1 | h1); · simp at h1
            .omega),OK (by
              rw[hB.wr];rintro (h1 | h1); · simp at h1
              .omega)]
    refine uJ rfl (by simpa using R) dm X b4 ei hr (λid s hm=>?_) (λh1=>by simp at h1) (λid h1 y=>by omega) (λx w1 Z1 a8 e0 e1 b3 M=>closing x w1 Z1 a8 e0 (by rw[<-hW];exact e1) (by rw[<-ds];exact b3) (λid s=>M id (by
     rw[ds];omega)))
    have bl:=wh cN s
    rw[hC id bl]
    by_cases eg:id∈b.wr
    .rw[OM eg]
     rcases ck id hm with ⟨G,B,hl,hH,hw⟩ | ⟨hl,_⟩
     .have hX:=(hw k0 b hb eg).1 hA
      rw[hH]
      refine W (k0+1) G id hX B (O0 bl (f _ _ (by omega) (by omega))) (λk z h1 y N h4=>?_)
      have S:=(hw k z N h4).2 y
      have:=(place id (.inl s) k z N (by omega) h4 (λe=>by rw[e8] at e;simp at e;omega)).1 S
      omega
     .have:(v i).length<=h'.length:=by rw[<-bs];exact f _ _ (by omega) (OR _)
      omega
    .rw[OK eg]
     refine c3 id bl hm λk z hk b0 D=>place id (.inl s) k z hk b0 D λe=>?_
     rw[e8] at e;simp at e;subst e
     rw[hb] at hk;simp at hk;subst hk
     exact absurd D eg
   .have cc:∀ k,c0=some k->aQ.getD k false=false:=λk e=>by
     cases hl:aQ.getD k false with
     | false=>rfl
     | true=>exact absurd ⟨k,e,hl⟩ hz
    refine uJ rfl (by simpa using R) cN X b4 ei hr (λid s hm=>c3 id (wh cN s) hm λk z hk b0 D=>place id (.inl s) k z hk b0 D (cc k))
     (λfl id s hm=>c3 id s hm λk z hk b0 D=>place id (.inr (.inr fl)) k z hk b0 D (cc k)) (λid h1 y=>?_) closing
    apply Pd
    intro e4
    exact b1 (cu i id K h1 y e4)
 have fm:Inv (Array.replicate all.length false) a { w with drawn:=w.drawn+1 }:=by
  refine⟨Z,μ,cat h F,a1.defers,a1.size,λt=>⟨0,PL _,by rw[ft];exact a1.tm t,λk o hk b5=>?_⟩,a1.hr,λid fs=>?_,λk id hk h1 y fs=>?_,λk o hk S=>?_,?_,λ_ _=>rfl,by simp⟩
  .have:(Array.replicate all.length false).getD k false=false:=by
    simp only[OP,Array.getElem?_replicate];split <;> rfl
   rw[this];simp
  .unfold cat
   by_cases hl:id < h.length
   .left
    refine⟨0,PL _,by rw[bn];exact hl,by rw[OM hl,bn],λk r hk D=>?_⟩
    have:(Array.replicate all.length false).getD k false=false:=by
     simp only[OP,Array.getElem?_replicate];split <;> rfl
    rw[this];simp
   .rw[OK hl]
    rcases Pn id h'.length with u | u
    .exact absurd (cf id (by omega) u) fs
    .exact .inr ⟨u,rfl⟩
  .exfalso
   refine fs (cf id ?_ ?_)
   .rw[<-bn];exact Pp (f _ _ (PL _) (by omega)) h1
   .rw[<-bs];exact O0 y (f _ _ hk (OR _))
  .have:(Array.replicate all.length false).getD k false=false:=by
    simp only[OP,Array.getElem?_replicate];split <;> rfl
   rw[this] at S;simp at S
  .exact⟨⟨rfl,rfl,rfl,OR _⟩,eL.refl _ _ _,λ_ _ _=>rfl,λ_ h=>.inl h,λ_ _ _ _ h=>.inl h⟩
 have:=key all.length _ _ _ fm (by
  have:=List.countP_le_length (p:=λi=>!(Array.replicate all.length false).getD i false) (l:=List.range all.length)
  simpa using this)
 simpa using this
theorem uh (hm:P.follows .mixedOrders=true) {id:Nat} {T b:Env} {h c:aw} {a:List Rec} (d:Tr P n all all T h a b c) (e:jo all=true) (f:qM all a) :
 bK P n (.region id all.toArray true) T h .normal b c:=sf hm d e f.Ny
end
section
variable {P:Program} {n:Nat}
theorem mV.eval {Z:Nat->Prop} {μ:Mu} {F:View} {T:Env} {h:aw} {a:Act} {w:World} (s:mV n Z μ F T h a w) (x:Operand):aq Z μ w.heap (ev T x) (a.eval x):=by
 cases x with
 | tmp t=>exact s.tm t
 | const v=>exact eF v
 | global g=>exact .any _
 | func f=>exact .fn f [] [] #[] #[] rfl rfl (λi hi=>by simp at hi) (λi hi=>by simp at hi)
theorem Bk {all:List Oper} {id:Nat} {T N:Env} {h B:aw} {f:List Rec} (tr:Tr P n all all T h f N B):bK P n (.region id all.toArray false) T h .normal N B:=by
 obtain⟨a1,Ts,y,vs,O,z,Q,G,g⟩:=AD all T h f N B tr
 have C:∀ i,i < all.length->∃ o r,all[i]?=some o/\f[i]?=some r:=λi hi=>⟨all[i],f[i]'(by omega),OI hi,OI (by omega)⟩
 have l:∀ i,i < all.length->(y i).length<=(y (i+1)).length:=λi hi=>by
  obtain⟨o,r,h1,J⟩:=C i hi
  exact qm (g i o r h1 J).1
 have c:=EK l
 refine⟨by rw[<-z,<-G];exact c _ _ (PL _) (OR _),λZ μ F a w H D=>wp_region ?_⟩
 have key:∀ k i,i+k=all.length->∀ E μ' I w',mV n E μ' F (Ts i) (y i) I w'->Ext Z μ w h.length E μ' w'->(∀ id,id < h.length∨B.length<=id->μ' id=μ id)->(∀ id,(y i).length<=id->id < B.length->μ' id=none) ->
   wpOps P all.toArray (λe' I w'=>e'=.normal/\∃ E μ',mV n E μ' F N B I w'/\Ext Z μ w h.length E μ' w'/\(∀ id,id < h.length∨B.length<=id->μ' id=μ id)) (List.range' i k) I w':=by
  intro k
  induction k with
  | zero =>
   intro i hi E μ' I w' b hex m _
   obtain rfl:i=all.length:=by omega
   simp only[List.range'_zero,wpOps]
   rw[Q,G] at b
   exact⟨trivial,E,μ',b,hex,m⟩
  | succ k ih =>
   intro i hi E μ' I w' b hex m K
   obtain⟨o,r,ho,hr⟩:=C i (by omega)
   obtain⟨A,p,hT,a6,a7⟩:=g i o r ho hr
   have a8:=l i (by omega)
   have bl:(y (i+1)).length<=B.length:=by rw[<-G];exact c _ _ (by omega) (OR _)
   have R:h.length<=(y i).length:=by rw[<-z];exact c _ _ (PL _) (by omega)
   rw[List.range'_succ,wpOps_cons]
   refine uJ rfl (by simpa using ho) A b.size (λj want d _ _=>b.tm d) (λx _=>b.eval x) b.hr (λid s _=>?_) (λ_ id s _=>?_) (λid h1 J=>K id h1 (by omega)) ?_
   .unfold cat;rw[OM (wh A s)]
   .unfold cat;rw[OM s]
   .intro x w1 Z1 S U V u v
    refine ih (i+1) (by omega) Z1 S _ w1 ⟨?_,?_,λt=>?_,V.congr λid _=>?_⟩ (hex.trans u R D.hr.lt) (λid s=>?_) (λid h1 J=>?_)
    .unfold Act.put;split <;> exact b.defers
    .unfold Act.put;split <;> simp[b.size]
    .rw[hT]
     cases W:o.dst with
     | none =>
      simp only[Env.put,Act.put]
      exact(b.tm t).mono u.mono
     | some d =>
      have L:d < I.tmps.size:=by unfold oH at p;rw[W] at p;rw[b.size];simpa using p
      simp only[Env.put,Act.put,OP,Pt]
      by_cases e:t=d
      .subst e;rw[OM rfl,OM rfl,OM L];exact U
      .rw[OK e,OK (λq=>e q.symm)]
       have:=(b.tm t).mono u.mono
       simpa only [OP] using this
    .simp only[cat,fU]
     by_cases X:id < (y (i+1)).length
     .rw[OM X]
      split
      .rfl
      .rename_i hn
       have M:id < (y i).length:=by
        rcases Pn id (y i).length with Y | Y
        .exact Y
        .exact absurd (.inr ⟨Y,X⟩) hn
       rw[OM M,oN A M (λq=>hn (.inl q))]
     .rw[OK X,OK,OK (by omega)]
      rintro (M | M)
      .have:=(sT A M).1;omega
      .omega
    .rw[v id (by omega),m id s]
    .rw[v id (by omega)];exact K id (by omega) J
 have:=key all.length 0 (by omega) Z μ a w (by rw[O,z];exact D) (Ext.refl _ _ _ _) (λ_ _=>rfl) (λid h1 J=>H id (by rw[<-z];exact h1) J)
 rw[PZ,List.range_eq_range']
 exact this
theorem bK.weaken {c:Code} {T q:Env} {h j:aw} {e:Exit} (x:bK P n c T h e q j) {Z:Nat->Prop} {μ:Mu} {F:View} {a:Act} {w:World} {r:Nat->Prop} {d:Mu} {l:World} {m:Nat}
  (f:∀ id,h.length<=id->id < j.length->μ id=none) (s:mV n Z μ F T h a w) (hex:Ext r d l m Z μ w) (hm:m<=h.length) (p:∀ id b o s,d id=some (b,o,s)->b < l.heap.size) :
  c.wp P (λe' t w'=>e'=e/\∃ k μ',mV n k μ' F q j t w'/\Ext r d l m k μ' w'/\(∀ id,id < h.length∨j.length<=id->μ' id=μ id)) a w :=
 wp_mono (x.2 Z μ F a w f s) λ_ _ _ ⟨he,k,μ',u,g,i⟩=>⟨he,k,μ',u,hex.trans g hm p,i⟩
theorem bK.seq {x y:Code} {T k l:Env} {h h1 f:aw} {e:Exit} (g:bK P n x T h .normal k h1) (i:bK P n y k h1 e l f):bK P n (.seq x y) T h e l f:=by
 refine⟨Pp g.1 i.1,λZ μ F a w b s=>wp_seq (wp_mono (g.2 Z μ F a w (λid h1 f=>b id h1 (O0 f i.1)) s) ?_)⟩
 rintro e' o w' ⟨rfl,m,μ',j,hex,c⟩
 refine wp_mono (i.weaken (λid h1 f=>?_) j hex g.1 s.hr.lt) ?_
 .rw[c id (.inr h1)];exact b id (Pp g.1 h1) f
 .rintro e' o w' ⟨he,m,μ',j,hex,d⟩
  refine⟨he,m,μ',j,hex,λid p=>?_⟩
  have:=g.1
  have:=i.1
  rw[d id (by omega),c id (by omega)]
theorem bK.D3 {x y:Code} {T c:Env} {h h1:aw} {e:Exit} (d:bK P n x T h e c h1) (he:e≠.normal):bK P n (.seq x y) T h e c h1:=by
 refine⟨d.1,λZ μ F a w b s=>wp_seq (wp_mono (d.2 Z μ F a w b s) ?_)⟩
 rintro e' f w' ⟨rfl,h⟩
 cases e' <;> first | exact absurd rfl he | exact⟨rfl,h⟩
theorem bK.here {c:Code} {T:Env} {h:aw} {e:Exit} (b:∀ (Q:Exit->Act->World->Prop) a w,Q e a w->c.wp P Q a w):bK P n c T h e T h :=
 ⟨OR _,λZ μ _ a w _ s=>b _ a w ⟨rfl,Z,μ,s,Ext.refl _ _ _ _,λ_ _=>rfl⟩⟩
theorem bK.skip {T:Env} {h:aw} : bK P n .skip T h .normal T h:=.here λ_ _ _ h=>wp_skip h
theorem bK.label {T:Env} {h:aw} {l:Nat} : bK P n (.label l) T h .normal T h:=.here λ_ _ _ h=>wp_label h
theorem bK.exit {T:Env} {h:aw} {id:Nat} : bK P n (.exit id) T h (.exit id) T h:=.here λ_ _ _ h=>wp_exit h
theorem bK.goto {T:Env} {h:aw} {l:Nat} : bK P n (.goto l) T h (.goto l) T h:=.here λ_ _ _ h=>wp_goto h
theorem bK.ret {T:Env} {h:aw} : bK P n .ret T h .ret T h:=.here λ_ _ _ h=>wp_ret h
theorem bK.cond {c:Operand} {x y:Code} {T d:Env} {h f:aw} {e:Exit} {t:Bool} (i:ev T c=.val (.bool t)) (g:bK P n (if t then x else y) T h e d f):bK P n (.cond c x y) T h e d f:=by
 refine⟨g.1,λZ μ F a w b s=>wp_cond (t:=t) ?_ (g.2 Z μ F a w b s)⟩
 have:=s.eval c
 rw[i] at this
 exact dr this
def mF (id:Nat):Exit->Exit
 | .exit id'=>if id'=id then .normal else .exit id'
 | e=>e
theorem bK.block {id:Nat} {c:Code} {T d:Env} {h f:aw} {e:Exit} (g:bK P n c T h e d f):bK P n (.block id c) T h (mF id e) d f:=by
 refine⟨g.1,λZ μ F a w b s=>wp_block (wp_mono (g.2 Z μ F a w b s) ?_)⟩
 rintro e' j w' ⟨rfl,h⟩
 cases e' with
 | exit i =>
  simp only[Exit.inBlock,mF]
  split
  .exact⟨rfl,h⟩
  .exact⟨rfl,h⟩
 | _=>exact⟨rfl,h⟩
theorem vQ {c:Code} {Q b:Exit->Act->World->Prop} (d:∀ e a w,Q e a w->b e a w):∀ (k:Nat) (a:Act) (w:World),Code.rounds P c Q k a w->Code.rounds P c b k a w
 | 0,_,_,h=>h
 | k+1,a,w,h=>by
  rw[rounds_succ] at h ⊢
  refine wp_mono h λe a w h=>?_
  cases e with
  | normal=>exact vQ d k a w h
  | _=>exact d _ _ _ h
def mC (P:Program) (n:Nat) (c:Code) (T:Env) (h:aw) (e:Exit) (T':Env) (h':aw):Prop :=
 h.length<=h'.length/\∃ k,∀ Z μ F a w,(∀ id,h.length<=id->id < h'.length->μ id=none)->mV n Z μ F T h a w ->
  Code.rounds P c (λe' a' w'=>e'=e/\∃ Z' μ',mV n Z' μ' F T' h' a' w'/\Ext Z μ w h.length Z' μ' w'/\(∀ id,id < h.length∨h'.length<=id->μ' id=μ id)) k a w
theorem mC.out {c:Code} {T d:Env} {h h1:aw} {e:Exit} (f:bK P n c T h e d h1) (he:e≠.normal):mC P n c T h e d h1:=by
 refine⟨f.1,1,λZ μ F a w b s=>?_⟩
 rw[rounds_succ]
 refine wp_mono (f.2 Z μ F a w b s) ?_
 rintro e' g w' ⟨rfl,h⟩
 cases e' <;> first | exact absurd rfl he | exact⟨rfl,h⟩
theorem mC.step {c:Code} {T r t:Env} {h h1 g:aw} {e:Exit} (i:bK P n c T h .normal r h1) (m:mC P n c r h1 e t g):mC P n c T h e t g:=by
 obtain⟨j,k,m⟩:=m
 refine⟨Pp i.1 j,k+1,λZ μ F a w b s=>?_⟩
 rw[rounds_succ]
 refine wp_mono (i.2 Z μ F a w (λid h1 g=>b id h1 (O0 g j)) s) ?_
 rintro e' o w' ⟨rfl,p,μ',q,hex,d⟩
 refine vQ ?_ k o w' (m p μ' F o w' (λid h1 g=>?_) q)
 .rintro e' o w' ⟨he,p,μ',q,l,f⟩
  refine⟨he,p,μ',q,hex.trans l i.1 s.hr.lt,λid u=>?_⟩
  have:=i.1
  rw[f id (by omega),d id (by omega)]
 .rw[d id (.inr h1)];exact b id (Pp i.1 h1) g
theorem bK.loop {c:Code} {T d:Env} {h f:aw} {e:Exit} (g:mC P n c T h e d f):bK P n (.loop c) T h e d f:=by
 obtain⟨h1,k,i⟩:=g
 exact⟨h1,λZ μ F a w b s=>wp_loop_rounds k (i Z μ F a w b s)⟩
def jumps (P:Program) (c:Code) (Q:Exit->Act->World->Prop):Nat->Code->Act->World->Prop
 | 0,_,_,_=>False
 | k+1,x,a,w=>x.wp P (λe a w=>match e with
  | .goto l=>(match findLabel c l with
   | some rest=>jumps P c Q k rest a w
   | none=>Q (.goto l) a w)
  | e=>Q e a w) a w
theorem J2 {c:Code} {Q:Exit->Act->World->Prop} {a:Act} {w:World} (k:Nat) (h:jumps P c Q k c a w):(Code.scope c).wp P Q a w:=by
 intro b K cs
 have key:∀ k x a w,jumps P c Q k x a w->∃ e q w',Q e q w'/\Arrives P (lone (b.at a (.code x :: .inScope c :: K)) cs w) b K cs e q w':=by
  intro k
  induction k with
  | zero=>intro x a w h;exact h.elim
  | succ k t =>
   intro x a w h
   obtain⟨e,f,g,i,d⟩:=h b (.inScope c :: K) cs
   cases e with
   | normal=>exact⟨.normal,f,g,i,Steps.trans d (.one step_inScope)⟩
   | exit id=>exact⟨.exit id,f,g,i,λs hk=>d s (by simp[exitTo,hk])⟩
   | goto l =>
    simp only at i
    cases r:findLabel c l with
    | some rest =>
     rw[r] at i
     obtain⟨n,o,p,m,j⟩:=t rest f g i
     exact⟨n,o,p,m,.of_steps (d _ (by simp[gotoIn,r])) j⟩
    | none =>
     rw[r] at i
     exact⟨.goto l,f,g,i,λs hk=>d s (by simp[gotoIn,r,hk])⟩
   | ret=>exact⟨_,f,g,i,d⟩
   | panic u=>exact⟨_,f,g,i,d⟩
   | outgrown=>exact⟨_,f,g,i,d⟩
 obtain⟨e,q,w',i,d⟩:=key k c a w h
 exact⟨e,q,w',i,.of_steps (.one step_scope) d⟩
theorem xx {c:Code} {Q f:Exit->Act->World->Prop} (b:∀ e a w,Q e a w->f e a w):∀ (k:Nat) (x:Code) (a:Act) (w:World),jumps P c Q k x a w->jumps P c f k x a w
 | 0,_,_,_,h=>h
 | k+1,x,a,w,h=>by
  refine wp_mono h λe a w h=>?_
  cases e with
  | goto l =>
   simp only at h ⊢
   split
   .rename_i rest d;rw[d] at h;exact xx b k rest a w h
   .rename_i d;rw[d] at h;exact b _ _ _ h
  | _=>exact b _ _ _ h
def oK (P:Program) (n:Nat) (c x:Code) (T:Env) (h:aw) (e:Exit) (T':Env) (h':aw):Prop :=
 h.length<=h'.length/\∃ k,∀ Z μ F a w,(∀ id,h.length<=id->id < h'.length->μ id=none)->mV n Z μ F T h a w ->
  jumps P c (λe' a' w'=>e'=e/\∃ Z' μ',mV n Z' μ' F T' h' a' w'/\Ext Z μ w h.length Z' μ' w'/\(∀ id,id < h.length∨h'.length<=id->μ' id=μ id)) k x a w
def DK (c:Code):Exit->Bool
 | .goto l=>(findLabel c l).isNone
 | _=>true
theorem oK.out {c x:Code} {T d:Env} {h h1:aw} {e:Exit} (f:bK P n x T h e d h1) (he:DK c e=true):oK P n c x T h e d h1:=by
 refine⟨f.1,1,λZ μ F a w b s=>?_⟩
 refine wp_mono (f.2 Z μ F a w b s) ?_
 rintro e' g w' ⟨rfl,h⟩
 cases e' with
 | goto l =>
  simp only[DK,Option.isNone_iff_eq_none] at he
  simp only[he];exact⟨trivial,h⟩
 | _=>exact⟨rfl,h⟩
theorem oK.jump {c x rest:Code} {T t u:Env} {h h1 g:aw} {e:Exit} {l:Nat} (i:bK P n x T h (.goto l) t h1) (v:findLabel c l=some rest) (o:oK P n c rest t h1 e u g):oK P n c x T h e u g:=by
 obtain⟨j,k,o⟩:=o
 refine⟨Pp i.1 j,k+1,λZ μ F a w b s=>?_⟩
 refine wp_mono (i.2 Z μ F a w (λid h1 g=>b id h1 (O0 g j)) s) ?_
 rintro e' p w' ⟨rfl,q,μ',r,hex,d⟩
 simp only[v]
 refine xx ?_ k rest p w' (o q μ' F p w' (λid h1 g=>?_) r)
 .rintro e' p w' ⟨he,q,μ',r,m,f⟩
  refine⟨he,q,μ',r,hex.trans m i.1 s.hr.lt,λid y=>?_⟩
  have:=i.1
  rw[f id (by omega),d id (by omega)]
 .rw[d id (.inr h1)];exact b id (Pp i.1 h1) g
theorem bK.scope {c:Code} {T d:Env} {h f:aw} {e:Exit} (g:oK P n c c T h e d f):bK P n (.scope c) T h e d f:=by
 obtain⟨h1,k,i⟩:=g
 exact⟨h1,λZ μ F a w b s=>J2 k (i Z μ F a w b s)⟩
def iK (vs:List V):Env:=λt=>vs.getD t .any
def px (P:Program) (T:Env) (h:aw):ResultVar->Option V
 | .tmp t=>some (T t)
 | .cell a t=>(jM P t (T a) h.view).map (·.1)
def jy (P:Program) (T:Env) (h:aw):List ResultVar->Option (List V)
 | []=>some []
 | r :: rest=>match px P T h r,jy P T h rest with
  | some v,some vs=>some (v :: vs)
  | _,_=>none
def Gx (P:Program) (fn:Func) (T:Env) (h:aw):Option V:=match jy P T h fn.results.toList with
 | some [v]=>some v
 | some vs=>some (.aU vs)
 | none=>none
theorem Fl {Z:Nat->Prop} {μ:Mu} {F:View} {T:Env} {h:aw} {a:Act} {w:World} (s:mV n Z μ F T h a w) (f:ResultVar->Sem Value) (o:∀ t,f (.tmp t)=pure (a.tmps.getD t undef))
  (q:∀ p t,f (.cell p t)=(do loadVar t (<-asAddr (a.tmps.getD p undef)))):∀ (l:List ResultVar) (vs:List V),jy P T h l=some vs ->
  ∃ xs:List Value,(l.mapM f).run P w=.ok xs w/\er Z μ w.heap vs xs
 | [],vs,d=>by
  simp only[jy,OJ] at d;subst d
  exact⟨[],rfl,rfl,λi hi=>by simp at hi⟩
 | r :: l,vs,d=>by
  simp only[jy] at d
  split at d
  .rename_i v B h1 I
   simp only[OJ] at d;subst d
   obtain⟨xs,J,hr⟩:=Fl s f o q l B I
   have one:∃ x,(f r).run P w=.ok x w/\aq Z μ w.heap v x:=by
    cases r with
    | tmp t =>
     simp only[px,OJ] at h1;subst h1
     rw[o]
     exact⟨_,rfl,s.tm t⟩
    | cell p t =>
     simp only[px,OQ] at h1
     obtain⟨⟨K,au,rd⟩,c,rfl⟩:=h1
     have hp:=s.tm p
     rw[q]
     unfold jM at c
     split at c
     .rename_i id i j C
      rw[C] at hp
      obtain⟨b,o0,sz,hm,g⟩:=kE hp
      split at c
      .rename_i esz es hH
       split at c
       .rename_i hi
        simp only[OQ,OL] at c
        obtain⟨D,k,rfl,_,_⟩:=c
        have u:=s.hr.obj id
        have z:cat h F id=.arr esz es:=by
         simp only[cat];rw[OM (fC (by rw[hH];simp)),hH]
        rw[z] at u
        obtain⟨y,E,m⟩:=qn (P:=P) (rowOf u hm hi).2 k
        exact⟨y,by rw[g];simp[asAddr,E],m⟩
       .simp at c
      .simp at c
     .rename_i e j C
      rw[C] at hp
      obtain⟨b,off,L,A,g⟩:=pv hp
      simp only[OQ,OL] at c
      obtain⟨D,k,rfl,_,_⟩:=c
      obtain⟨y,E,m⟩:=qn (P:=P) A k
      exact⟨y,by rw[g];simp[asAddr,E],m⟩
     .simp at c
   obtain⟨x,G,H⟩:=one
   refine⟨x :: xs,?_,⟨by simp[hr.1],λi hi=>?_⟩⟩
   .simp only[List.mapM_cons,Sem.run_bind]
    rw[G]
    simp only[Result.andThen_ok,Sem.run_bind]
    rw[J]
    rfl
   .cases i with
    | zero=>exact H
    | succ i=>simpa using hr.2 i (by simpa using hi)
  .simp at d
theorem bu.Ev {f:FuncId} {fn:Func} {c:Code} {vs:List V} {C:Env} {h A:aw} {e:Exit} {r:V} (L:P.funcs[f]?=some fn) (M:fn.body=some c) (Q:vs.length<=fn.ntmps)
  (K:bK P fn.ntmps c (iK vs) h e C A) (he:e=.ret∨e=.normal) (hr:Gx P fn C A=some r):bu P f vs h r A:=by
 refine⟨K.1,λZ μ F w xs j D l=>calls_of_wp L M ?_⟩
 have m:(xs.toArray ++ Array.replicate (fn.ntmps - xs.toArray.size) undef).size=fn.ntmps:=by
  have:=j.1;simp;omega
 have q:mV fn.ntmps Z μ F (iK vs) h { tmps:=xs.toArray ++ Array.replicate (fn.ntmps - xs.toArray.size) undef,defers:=[] } w:=by
  refine⟨rfl,m,λt=>?_,D⟩
  unfold iK
  by_cases E:t < vs.length
  .have:=j.2 t E
   have G:t < xs.length:=j.1 ▸ E
   have g:(xs.toArray ++ Array.replicate (fn.ntmps - xs.toArray.size) undef).getD t undef=xs.getD t undef:=by
    rw[OP,P4 (by simpa using G)]
    simp[OH]
   show aq Z μ w.heap (vs.getD t .any) ((xs.toArray ++ Array.replicate (fn.ntmps - xs.toArray.size) undef).getD t undef)
   rw[g];exact this
  .have:vs.getD t .any=.any:=by simp[OH,O5 (Nat.le_of_not_lt E)]
   rw[this];exact .any _
 refine wp_mono (K.2 Z μ F _ w l q) ?_
 rintro e' o w' ⟨rfl,B,μ',s,hex,k⟩
 have u:∃ x,(results fn o.tmps).run P w'=.ok x w'/\aq B μ' w'.heap r x:=by
  unfold Gx at hr
  have go:∀ d,jy P C A fn.results.toList=some d->(match d with | [v]=>some v | vs=>some (.aU vs))=some r->∃ x,(results fn o.tmps).run P w'=.ok x w'/\aq B μ' w'.heap r x:=by
   intro d h1 g
   unfold results
   obtain⟨n,H,b⟩:=Fl s (fun
     | .tmp t=>pure (o.tmps.getD t undef)
     | .cell p t=>do loadVar t (<-asAddr (o.tmps.getD p undef))) (λ_=>rfl) (λ_ _=>rfl) _ _ h1
   rw[Array.mapM_eq_mapM_toList]
   simp only[Sem.run_bind,Sem.run_map]
   show ∃ x,(((((fn.results.toList.mapM (fun
     | .tmp t=>pure (o.tmps.getD t undef)
     | .cell p t=>do loadVar t (<-asAddr (o.tmps.getD p undef)):ResultVar->Sem Value)).run P w').andThen λa w'=>.ok a.toArray w').andThen λa w'=>(pure (if h:a.size=1 then a[0] else Value.tuple a):Sem Value).run P w')=.ok x w')/\_
   rw[H]
   simp only[Result.andThen_ok,Sem.run_pure]
   match d,n,b,g with
   | [v],[x],b,g =>
    simp only[OJ] at g
    subst g
    exact⟨x,rfl,b.2 0 (by simp)⟩
   | [],[],b,g =>
    simp only[OJ] at g
    subst g
    exact⟨.tuple #[],rfl,.aU _ _ rfl (λi hi=>by simp at hi)⟩
   | v1 :: v2 :: d,N :: O :: n,b,g =>
    simp only[OJ] at g
    subst g
    refine⟨.tuple (N :: O :: n).toArray,by simp,.aU _ _ (by simpa using b.1) (λi hi=>?_)⟩
    have:=b.2 i hi
    simpa [OP,OH] using this
   | [_],[],b,_=>exact absurd b.1 (by simp)
   | [_],_ :: _ :: _,b,_=>exact absurd b.1 (by simp)
   | [],_ :: _,b,_=>exact absurd b.1 (by simp)
   | _ :: _ :: _,[],b,_=>exact absurd b.1 (by simp)
   | _ :: _ :: _,[_],b,_=>exact absurd b.1 (by simp)
  split at hr
  .rename_i v I;exact go _ I hr
  .rename_i d J I
   refine go _ I ?_
   split
   .rename_i v;exact absurd rfl (J v)
   .exact hr
  .simp at hr
 obtain⟨x,y,z⟩:=u
 rcases he with rfl | rfl
 .exact⟨s.defers,x,y,x,B,μ',rfl,z,s.hr,hex,k⟩
 .exact⟨s.defers,x,y,x,B,μ',rfl,z,s.hr,hex,k⟩
end
end Gv
