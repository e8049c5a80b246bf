/-
  Part 3 of the proof: what the machine does and what the functions answer.
  Conditions: those that each lemma names.
-/
import Derived.Orders
import Derived.LoopN
import Derived.Scope
import Derived.Test.YtihmlbdfcmfbdaaGreatSGzB5B
set_option linter.unusedSimpArgs false
set_option linter.unusedVariables false
set_option maxRecDepth 100000
set_option maxHeartbeats 20000000
namespace Gv
open Go
section
variable {Z:Nat->Prop} {μ μ':Mu} {w w':World} {P:Program} {H:View} {n:Nat} {v:V} {eff:bH} {rd:List Nat}
theorem uX {c:Operand->Value} {o:Oper} {b:Builtin} {args:Array Operand} {a:Array TypeId} (d:o.op=.call { callee:=.builtin b,args:=args,argTypes:=a }) :
  execOp c o=builtin b a o.type (args.map fun | .const _=>true | _=>false) (args.map c):=by
 unfold execOp
 rw[d]
 rfl
def sr (k:Nat) (x:Value) (b:Bool):Prop:=match k,x with
 | 0,.slice a _ _=>a.isNone=b
 | 1,.pointer a=>a.isNone=b
 | 2,.map a=>a.isNone=b
 | 3,.nilFunc=>b=true
 | 3,.func _ _ _=>b=false
 | _,_=>False
theorem Q3 {k:Nat} {x:V} {d:Value} {b:Bool} (h:fV k x=some b) (c:aB Z μ w.heap x d):sr k d b:=by
 unfold fV at h
 split at h
 .simp at h;subst h;cases c with | emp k a h1 e=>rw[h1 rfl];rfl
 .simp at h;subst h
  cases c with
  | emp k a h1 e =>
   cases a with
   | none=>exact absurd rfl (e rfl)
   | some a=>rfl
 .simp at h;subst h;cases c;rfl
 .simp at h;subst h;cases c;rfl
 .simp at h;subst h;cases c;rfl
 .simp at h;subst h;cases c;rfl
 .simp at h;subst h;cases c;rfl
 .simp at h;subst h;cases c;rfl
 .simp at h;subst h;cases c;rfl
 .simp at h;subst h;cases c;rfl
 .simp at h;subst h;cases c;rfl
 .simp at h;subst h;cases c;rfl
 .simp at h
theorem Mq {t:TypeId} {k:Nat} (h:kr P t=some k):(k=0/\∃ e,P.underlying t=some (.slice e))∨(k=1/\∃ e,P.underlying t=some (.pointer e)) ∨
  (k=2/\∃ e f,P.underlying t=some (.map e f))∨(k=3/\∃ p q r,P.underlying t=some (.func p q r)):=by
 unfold kr at h
 split at h
 .rename_i e hu;simp at h;exact .inl ⟨h.symm,e,hu⟩
 .rename_i e hu;simp at h;exact .inr (.inl ⟨h.symm,e,hu⟩)
 .rename_i e f hu;simp at h;exact .inr (.inr (.inl ⟨h.symm,e,f,hu⟩))
 .rename_i p q r hu;simp at h;exact .inr (.inr (.inr ⟨h.symm,p,q,r,hu⟩))
 .simp at h
def sR (P:Program) (w:World) (t:TypeId) (x y:Operand) (xv yv:Value) (b:Bool):Prop :=
 (Op.equal t xv yv).run P w=.ok b w/\(∀ op,(eqGuard op t x y xv yv).run P w=.ok () w)/\(binOp .eql t xv yv=(do pure (.bool (<-Op.equal t xv yv))))/\(binOp .neq t xv yv=(do pure (.bool (!(<-Op.equal t xv yv)))))
theorem nB (t:TypeId) (x y:Value):Op.equal t x y=Op.equalIn (9999+1) t x y:=rfl
theorem TN {t e:TypeId} {x y:Operand} {a d:Option Addr} {l c l' f:Nat} {b:Bool} (hu:P.underlying t=some (.slice e)) (h:(a.isNone=true/\d.isNone=b)∨(a.isNone=b/\d.isNone=true)):sR P w t x y (.slice a l c) (.slice d l' f) b:=by
 refine⟨?_,λop=>by cases op <;> rfl,rfl,rfl⟩
 rw[nB]
 generalize (9999:Nat)=depth
 simp only[Op.equalIn,Sem.run_bind,bG hu,Result.andThen_ok]
 cases a with
 | none=>cases d <;> simp_all
 | some a=>cases d <;> simp_all
theorem Mv {t e:TypeId} {x y:Operand} {a c:Option Addr} {b:Bool} (hu:P.underlying t=some (.pointer e)) (h:(a.isNone=true/\c.isNone=b)∨(a.isNone=b/\c.isNone=true)):sR P w t x y (.pointer a) (.pointer c) b:=by
 refine⟨?_,λop=>by cases op <;> rfl,rfl,rfl⟩
 rw[nB]
 generalize (9999:Nat)=depth
 simp only[Op.equalIn,Sem.run_bind,bG hu,Result.andThen_ok]
 cases a with
 | none=>cases c <;> simp_all
 | some a=>cases c <;> simp_all
theorem Xm {t e f:TypeId} {x y:Operand} {a c:Option Nat} {b:Bool} (hu:P.underlying t=some (.map e f)) (h:(a.isNone=true/\c.isNone=b)∨(a.isNone=b/\c.isNone=true)):sR P w t x y (.map a) (.map c) b:=by
 refine⟨?_,λop=>by cases op <;> rfl,rfl,rfl⟩
 rw[nB]
 generalize (9999:Nat)=depth
 simp only[Op.equalIn,Sem.run_bind,bG hu,Result.andThen_ok]
 cases a with
 | none=>cases c <;> simp_all
 | some a=>cases c <;> simp_all
theorem VI {t:TypeId} {p q:Array TypeId} {r:Bool} {x y:Operand} (hu:P.underlying t=some (.func p q r)) :
  sR P w t x y .nilFunc .nilFunc true/\(∀ f m k,sR P w t x y .nilFunc (.func f m k) false)/\(∀ f m k,sR P w t x y (.func f m k) .nilFunc false):=by
 refine⟨⟨?_,λop=>by cases op <;> rfl,rfl,rfl⟩,λf m k=>⟨?_,λop=>by cases op <;> rfl,rfl,rfl⟩,λf m k=>⟨?_,λop=>by cases op <;> rfl,rfl,rfl⟩⟩
 all_goals
  rw[nB]
  generalize (9999:Nat)=depth
  simp only[Op.equalIn,Sem.run_bind,bG hu,Result.andThen_ok,Sem.run_pure]
theorem WX {t:TypeId} {x y:Operand} {n o:V} {j d:Value} {b:Bool} (v:aB Z μ w.heap n j) (h1:aB Z μ w.heap o d) (h:GS P t n o=some b):sR P w t x y j d b:=by
 have g:∃ k m l,kr P t=some k/\fV k n=some m/\fV k o=some l/\((m=true/\l=b)∨(m=b/\l=true)):=by
  unfold GS at h
  split at h
  .rename_i k hk
   split at h
   .rename_i l s u
    simp at h;subst h
    exact⟨k,true,_,hk,s,u,.inl ⟨rfl,rfl⟩⟩
   .rename_i l _ s u
    simp at h;subst h
    exact⟨k,_,true,hk,s,u,.inr ⟨rfl,rfl⟩⟩
   .simp at h
  .simp at h
 obtain⟨k,m,l,hk,z,A,i⟩:=g
 have c:=Q3 z v
 have a:=Q3 A h1
 clear h v h1 z A
 rcases Mq hk with ⟨rfl,e,hu⟩ | ⟨rfl,e,hu⟩ | ⟨rfl,e,f,hu⟩ | ⟨rfl,p,q,r,hu⟩
 .cases j <;> simp only[sr] at c
  cases d <;> simp only[sr] at a
  exact TN hu (by rw[c,a];exact i)
 .cases j <;> simp only[sr] at c
  cases d <;> simp only[sr] at a
  exact Mv hu (by rw[c,a];exact i)
 .cases j <;> simp only[sr] at c
  cases d <;> simp only[sr] at a
  exact Xm hu (by rw[c,a];exact i)
 .obtain⟨g1,g2,g3⟩:=VI (P:=P) (w:=w) (x:=x) (y:=y) hu
  cases j <;> simp only[sr] at c
  .cases d <;> simp only[sr] at a
   .subst c a
    simp at i
   .subst c a
    have:b=false:=by simpa using i.symm
    subst this;exact g3 _ _ _
  .cases d <;> simp only[sr] at a
   .subst c a
    have:b=false:=by simpa using i.symm
    subst this;exact g2 _ _ _
   .subst c a
    have:b=true:=by simpa using i.symm
    subst this;exact g1
theorem X6 {o:Oper} {T:Env} {a:Act} (h:cD P o T H n=some (v,eff,rd)) (A:∀ x∈o.op.operands,aB Z μ w.heap (ev T x) (a.eval x)) (c:Ctx Z μ w.heap H rd n eff) :
  bz Z μ w n v eff ((execOp a.eval o).run P w):=by
 unfold cD at h
 split at h
 ·
  rename_i x g
  simp only[aau,aay] at h
  obtain⟨rfl,rfl,rfl⟩:=h
  rw[g] at A
  refine⟨.value (a.eval x),w,μ,by simp[execOp,g],.inl ⟨_,rfl,A x (by simp[Op.operands])⟩,fv.refl _,jW⟩
 .rename_i x g
  simp only[aau,aay] at h
  obtain⟨rfl,rfl,rfl⟩:=h
  rw[g] at A
  refine⟨.value (a.eval x),w,μ,by simp[execOp,g],.inl ⟨_,rfl,A x (by simp[Op.operands])⟩,fv.refl _,jW⟩
 ·
  rename_i cc x y g
  rw[g] at A
  split at h
  .rename_i t ht
   simp only[aau,aay] at h
   obtain⟨rfl,rfl,rfl⟩:=h
   have h1:=A cc (by simp[Op.operands])
   rw[ht] at h1
   have h1:=fY h1
   refine⟨.value (if t then a.eval x else a.eval y),w,μ,by simp[execOp,g,h1,asBool],.inl ⟨_,rfl,?_⟩,fv.refl _,jW⟩
   cases t with
   | true=>exact A x (by simp[Op.operands])
   | false=>exact A y (by simp[Op.operands])
  .simp at h
 ·
  rename_i e g
  split at h
  .rename_i z hz
   have W:∃ i U,P.info? e=some i/\i.zero=some U/\z=(gC U).cells:=by
    cases hi:P.info? e with
    | none=>simp[zeroCells,hi] at hz
    | some i =>
     obtain⟨U,h1,N⟩:=jT hi hz
     exact⟨i,U,rfl,h1,N⟩
   obtain⟨i,U,hi,an,rfl⟩:=W
   have:=OC (P:=P) (x:=U) (t:=e) h (λV=>iK (iH _) V) c
   have C:(execOp a.eval o).run P w=((do pure (Next.value (.pointer (some (<-newVar e U)))):Sem Next).run P w):=by
    unfold execOp
    rw[g]
    simp[Instr.alloc,kS hi an]
   rw[C];exact this
  .simp at h
 ·
  rename_i e x g
  rw[g] at A
  have:=Yk (P:=P) (t:=e) h (λV=>iK (A x (by simp[Op.operands])) V) c
  have C:execOp a.eval o=(do pure (Next.value (<-Instr.box e (a.eval x)))):=by
   unfold execOp;rw[g]
  rw[C];exact this
 ·
  rename_i t parts g
  rw[g] at A
  have C:execOp a.eval o=(do pure (Next.value (<-Instr.build t (parts.map λ(i,x)=>(i,a.eval x))))):=by
   unfold execOp;rw[g]
  rw[C]
  refine T0 h ?_
  rw[Array.toList_map]
  exact DA _ (λx E=>A x (by simpa [Op.operands] using E))
 ·
  rename_i t len parts g
  rw[g] at A
  have C:execOp a.eval o=(do pure (Next.value (<-Instr.buildSlice t len (parts.map λ(i,x)=>(i,a.eval x))))):=by
   unfold execOp;rw[g]
  rw[C]
  refine Gt h ?_ c
  rw[Array.toList_map]
  exact DA _ (λx E=>A x (by simpa [Op.operands] using E))
 ·
  rename_i t x g
  rw[g] at A
  have C:execOp a.eval o=(do pure (Next.value (<-Instr.loadAt t (a.eval x)))):=by
   unfold execOp;rw[g]
  rw[C]
  exact VZ h (A x (by simp[Op.operands])) c
 ·
  rename_i t x y g
  rw[g] at A
  have C:execOp a.eval o=(do Instr.storeAt t (a.eval x) (a.eval y);pure Next.skip):=by
   unfold execOp;rw[g]
  rw[C]
  exact SY h (A x (by simp[Op.operands])) (A y (by simp[Op.operands])) c
 ·
  rename_i x g
  rw[g] at A
  have h1:=A x (by simp[Op.operands])
  split at h
  .rename_i id i j E
   simp only[aau,aay] at h
   obtain⟨rfl,rfl,rfl⟩:=h
   rw[E] at h1
   have N:=h1
   obtain⟨b,o0,s,hm,he⟩:=pF h1
   exact⟨.value (a.eval x),w,μ,by simp[execOp,g,he],.inl ⟨_,rfl,N⟩,fv.refl _,jW⟩
  .rename_i e j E
   simp only[aau,aay] at h
   obtain⟨rfl,rfl,rfl⟩:=h
   rw[E] at h1
   have N:=h1
   obtain⟨b,off,hz,ar,he⟩:=vK h1
   exact⟨.value (a.eval x),w,μ,by simp[execOp,g,he],.inl ⟨_,rfl,N⟩,fv.refl _,jW⟩
  .rename_i f p q E
   simp only[aau,aay] at h
   obtain⟨rfl,rfl,rfl⟩:=h
   rw[E] at h1
   have N:=h1
   generalize he:a.eval x=y at h1 N
   cases h1 with
   | fn _ _ _ O bs _ _ _ _=>exact⟨.value (.func (.func f) O bs),w,μ,by simp[execOp,g,he],.inl ⟨_,rfl,N⟩,fv.refl _,jW⟩
  .simp at h
 ·
  rename_i t x f g
  rw[g] at A
  have C:execOp a.eval o=(do pure (Next.value (<-Instr.fieldAt t (a.eval x) f))):=by
   unfold execOp;rw[g]
  rw[C]
  exact Jk h (A x (by simp[Op.operands]))
 ·
  rename_i t x f g
  rw[g] at A
  have C:execOp a.eval o=(do pure (Next.value (<-Instr.field t (a.eval x) f))):=by
   unfold execOp;rw[g]
  rw[C]
  exact RD h (A x (by simp[Op.operands]))
 ·
  rename_i t x i g
  rw[g] at A
  have C:execOp a.eval o=(do pure (Next.value (<-Instr.indexAt t (a.eval x) (a.eval i)))):=by
   unfold execOp;rw[g]
  rw[C]
  exact Jj h (A x (by simp[Op.operands])) (A i (by simp[Op.operands]))
 ·
  rename_i t x lo hi X g
  split at h
  .refine uJ h A (λQ B=>?_)
   rw[g] at B
   have J:=B x (by simp[Op.operands])
   have h1:lo.map Q=lo.map a.eval:=by cases lo with | none=>rfl | some y=>simp[B y (by simp[Op.operands])]
   have N:hi.map Q=hi.map a.eval:=by cases hi with | none=>rfl | some y=>simp[B y (by simp[Op.operands])]
   have h3:X.map Q=X.map a.eval:=by cases X with | none=>rfl | some y=>simp[B y (by simp[Op.operands])]
   unfold execOp;rw[g];simp only[J,h1,N,h3]
  .rw[g] at A
   have C:execOp a.eval o=(do pure (Next.value (<-Instr.sliceAt t (a.eval x) (lo.map a.eval) (hi.map a.eval) (X.map a.eval)))):=by
    unfold execOp;rw[g]
   rw[C]
   exact R3 h (A x (by simp[Op.operands])) (GH lo (λy S=>A y (by simp[Op.operands] at S ⊢;simp[S]))) (GH hi (λy S=>A y (by simp[Op.operands] at S ⊢;simp[S]))) (GH X (λy S=>A y (by simp[Op.operands] at S ⊢;simp[S])))
 ·
  rename_i t l cc g
  rw[g] at A
  have C:execOp a.eval o=(do pure (Next.value (<-Instr.makeSlice t (a.eval l) (a.eval cc)))):=by
   unfold execOp;rw[g]
  rw[C]
  exact Je h (A l (by simp[Op.operands])) (A cc (by simp[Op.operands])) c
 ·
  rename_i t r g
  split at h
  .simp only[aau,aay] at h
   obtain⟨rfl,rfl,rfl⟩:=h
   refine⟨.value (.map (some w.heap.size)),w.alloc (.map #[] 0),μ.set n (w.heap.size,0,0),by simp[execOp,g,Instr.makeMap],.inl ⟨_,rfl,.mp n w.heap.size 0 0 (by simp[Mu.set])⟩,j6 _ _,?_⟩
   refine⟨w.heap.size,0,0,aaD _,by rw[heap_alloc];simp,rfl,by rw[heap_alloc];exact fC _ _,?_⟩
   intro b o0 s E
   simp only[Mu.set,if_true,aau,aay] at E
   obtain⟨rfl,rfl,rfl⟩:=E
   exact⟨#[],by rw[heap_alloc];simp,rfl,λi hi=>by simp at hi⟩
  .simp at h
 ·
  rename_i f first cap g
  simp only[aau,aay] at h
  obtain⟨rfl,rfl,rfl⟩:=h
  rw[g] at A
  have h1:=OH (T:=T) (a:=a) first (λx E=>A x (by simp[Op.operands,E]))
  have N:=OH (T:=T) (a:=a) cap (λx E=>A x (by simp[Op.operands,E]))
  exact⟨.value (.func (.func f) (first.map a.eval) (cap.map a.eval)),w,μ,by simp[execOp,g,Instr.makeFunc],.inl ⟨_,rfl,.fn f _ _ _ _ h1.1 N.1 h1.2 N.2⟩,fv.refl _,jW⟩
 ·
  rename_i t m k ok g
  rw[g] at A
  have C:execOp a.eval o=(do pure (Next.value (<-Instr.lookup t (a.eval m) (a.eval k) ok))):=by
   unfold execOp;rw[g]
  rw[C]
  exact P7 h (A m (by simp[Op.operands])) (A k (by simp[Op.operands])) c
 .rename_i t m k x g
  rw[g] at A
  have C:execOp a.eval o=(do Instr.mapUpdate t (a.eval m) (a.eval k) (a.eval x);pure Next.skip):=by
   unfold execOp;rw[g]
  rw[C]
  exact AD h (A m (by simp[Op.operands])) (A k (by simp[Op.operands])) (A x (by simp[Op.operands])) c
 .rename_i t m k x g
  rw[g] at A
  have C:execOp a.eval o=(do Instr.mapUpdate t (a.eval m) (a.eval k) (a.eval x);pure Next.skip):=by
   unfold execOp;rw[g]
  rw[C]
  exact AD h (A m (by simp[Op.operands])) (A k (by simp[Op.operands])) (A x (by simp[Op.operands])) c
 .rename_i t m k g
  rw[g] at A
  have C:execOp a.eval o=(do pure (Next.value (<-Instr.mapEntry t (a.eval m) (a.eval k)))):=by
   unfold execOp;rw[g]
  rw[C]
  exact JU h (A m (by simp[Op.operands])) (A k (by simp[Op.operands])) c
 .rename_i t m s x g
  rw[g] at A
  have C:execOp a.eval o=(do Instr.entryStore t (a.eval m) (a.eval s) (a.eval x);pure Next.skip):=by
   unfold execOp;rw[g]
  rw[C]
  exact GQ h (A m (by simp[Op.operands])) (A s (by simp[Op.operands])) (A x (by simp[Op.operands])) c
 ·
  rename_i t i g
  rw[g] at A
  have h1:=A t (by simp[Op.operands])
  split at h
  .rename_i vs aq
   split at h
   .rename_i hi
    simp only[aau,aay] at h
    obtain⟨rfl,rfl,rfl⟩:=h
    rw[aq] at h1
    generalize he:a.eval t=y at h1
    cases h1 with
    | bD _ O hl hr =>
     have h3:=hr i hi
     have Y:i < O.size:=hl ▸ hi
     simp only[aaH,aaP Y,aaL] at h3
     exact⟨.value O[i],w,μ,by simp[execOp,g,he,Instr.extract,Y],.inl ⟨_,rfl,h3⟩,fv.refl _,jW⟩
   .simp at h
  .simp at h
 ·
  rename_i t x g
  rw[g] at A
  have h1:=A x (by simp[Op.operands])
  split at h
  .rename_i s hs
   split at h
   .rename_i M
    simp only[aau,aay] at h
    obtain⟨rfl,rfl,rfl⟩:=h
    rw[hs] at h1
    have h1:=fY h1
    have hu:P.underlying t=some .string:=by
     rw[g] at M
     unfold isStr at M
     simp only at M
     split at M <;> simp_all
    refine⟨.value (.pointer (some ⟨w.heap.size,0,none⟩)),w.alloc (.stringIter s 0),μ.set n (w.heap.size,0,0),by simp[execOp,g,h1,Instr.range,bG hu],.inl ⟨_,rfl,?_⟩,j6 _ _,?_⟩
    .have:=aB.ptr (Z:=Z) (μ:=μ.set n (w.heap.size,0,0)) (hp:=(w.alloc (.stringIter s 0)).heap) n 0 0 w.heap.size 0 0 (by simp[Mu.set])
     simpa using this
    .refine⟨w.heap.size,0,0,aaD _,by rw[heap_alloc];simp,rfl,by rw[heap_alloc];exact fC _ _,?_⟩
     intro b o0 s' E
     simp only[Mu.set,if_true,aau,aay] at E
     obtain⟨rfl,rfl,rfl⟩:=E
     exact⟨rfl,by rw[heap_alloc];simp⟩
   .simp at h
  .simp at h
 ·
  rename_i it g
  rw[g] at A
  have C:execOp a.eval o=(do pure (Next.value (<-Instr.next (a.eval it) true o.type))):=by
   unfold execOp;rw[g]
  rw[C]
  exact Vj h (A it (by simp[Op.operands])) c
 ·
  rename_i s d x g
  split at h
  .rw[g] at A
   have C:execOp a.eval o=(do pure (Next.value (<-convert s d (a.eval x)))):=by
    unfold execOp;rw[g]
   rw[C]
   exact ME h (A x (by simp[Op.operands])) c
  .refine uJ h A (λQ B=>?_)
   rw[g] at B
   have J:=B x (by simp[Op.operands])
   unfold execOp;rw[g];simp only[J]
 ·
  rename_i b args R g
  have D:execOp a.eval o=builtin b R o.type (args.map fun | .const _=>true | _=>false) (args.map a.eval):=uX g
  have G:eo P o T=some (v,eff,rd)->bz Z μ w n v eff ((execOp a.eval o).run P w):=by
   intro h
   refine uJ h A (λQ B=>?_)
   rw[g] at B
   rw[uX g,uX g]
   have:args.map Q=args.map a.eval:=by
    apply Array.map_congr_left
    intro x E
    exact B x (by simp[Op.operands,Call.operands,E])
   rw[this]
  have I:∀ x∈args.toList,aB Z μ w.heap (ev T x) (a.eval x):=λx E=>A x (by rw[g];simp[Op.operands,Call.operands];simpa using E)
  have J:∀ {k:Nat},k < R.size->R[k]?=some (R.getD k 0):=by
   intro k hk
   simp[aaH,hk]
  have L:∀ x,args.toList=[x]->args.map a.eval = #[a.eval x]:=by
   intro x E
   apply Array.ext'
   simp[E]
  have K:∀ x y,args.toList=[x,y]->args.map a.eval = #[a.eval x,a.eval y]:=by
   intro x y E
   apply Array.ext'
   simp[E]
  split at h
  .rename_i x u
   split at h
   .rename_i F
    rw[D,L x u]
    exact W6 h (J F) (I x (by rw[u];simp)) c
   .simp at h
  .rename_i x y u
   split at h
   .rename_i F
    rw[D,K x y u]
    exact P6 h (J (by omega)) (J (by omega)) F.2 (I x (by rw[u];simp)) (I y (by rw[u];simp)) c
   .split at h
    .rename_i F
     rw[D,K x y u]
     exact Vh h (J (by omega)) (J (by omega)) F.2 (I x (by rw[u];simp)) (I y (by rw[u];simp)) c
    .simp at h
  .rename_i x u
   split at h
   .rename_i F
    rw[D,L x u]
    exact Xk h (J F) (I x (by rw[u];simp)) c
   .simp at h
  .rename_i x y u
   split at h
   .rename_i F
    rw[D,K x y u]
    exact U3 h (J F) (I x (by rw[u];simp)) (I y (by rw[u];simp)) c
   .simp at h
  .rename_i x y u
   split at h
   .rename_i F
    rw[D,K x y u]
    exact OS h (J F) (I x (by rw[u];simp)) (I y (by rw[u];simp)) c
   .simp at h
  .rename_i x u
   split at h
   .rename_i F
    rw[D,L x u]
    exact Qx h (J F) (I x (by rw[u];simp)) c
   .simp at h
  .exact G h
  .exact G h
  .exact G h
  .exact G h
  .exact G h
  .simp at h
 .rename_i op t x y yt g
  split at h
  .rw[g] at A
   have J:=A x (by simp[Op.operands])
   have h1:=A y (by simp[Op.operands])
   have go:∀ b,GS P t (ev T x) (ev T y)=some b->sR P w t x y (a.eval x) (a.eval y) b:=λb hb=>WX J h1 hb
   split at h
   .rename_i b hb
    simp only[aau,aay] at h
    obtain⟨rfl,rfl,rfl⟩:=h
    obtain⟨g1,g2,g3,_⟩:=go _ hb
    refine⟨.value (.bool b),w,μ,?_,.inl ⟨_,rfl,.val _ rfl⟩,fv.refl _,jW⟩
    unfold execOp;rw[g]
    simp only[Sem.run_bind,g2,Result.andThen_ok,g3,g1,Sem.run_pure]
   .rename_i b hb
    simp only[aau,aay] at h
    obtain⟨rfl,rfl,rfl⟩:=h
    obtain⟨g1,g2,_,g4⟩:=go _ hb
    refine⟨.value (.bool (!b)),w,μ,?_,.inl ⟨_,rfl,.val _ rfl⟩,fv.refl _,jW⟩
    unfold execOp;rw[g]
    simp only[Sem.run_bind,g2,Result.andThen_ok,g4,g1,Sem.run_pure]
   .simp at h
  .refine uJ h A (λQ B=>?_)
   rw[g] at B
   have J:=B x (by simp[Op.operands])
   have h1:=B y (by simp[Op.operands])
   unfold execOp;rw[g];simp only[J,h1]
 .rename_i op t x g
  refine uJ h A (λQ B=>?_)
  rw[g] at B
  have J:=B x (by simp[Op.operands])
  unfold execOp;rw[g];simp only[J]
 .rename_i t x y g
  refine uJ h A (λQ B=>?_)
  rw[g] at B
  have J:=B x (by simp[Op.operands])
  have h1:=B y (by simp[Op.operands])
  unfold execOp;rw[g];simp only[J,h1]
 .simp at h
end
def bH.wr:bH->List Nat
 | .none | .new _=>[]
 | .fQ id _ | .eF id _=>[id]
def ko (μ:Mu) (b:Nat):Prop:=∃ id o s,μ id=some (b,o,s)
structure Ext (Z:Nat->Prop) (μ:Mu) (w:World) (m:Nat) (Z':Nat->Prop) (μ':Mu) (w':World):Prop where
 same:fv w w'
 mono:iY Z Z' μ μ' w.heap w'.heap
 frame:ie w.heap w'.heap (ko μ)
 UO:∀ b,Z' b->Z b∨w.heap.size<=b
 FU:∀ id b o s,μ' id=some (b,o,s)->μ id=some (b,o,s)∨(m<=id/\(w.heap.size<=b∨ko μ b))
theorem Ext.refl (Z:Nat->Prop) (μ:Mu) (w:World) (m:Nat):Ext Z μ w m Z μ w :=
 ⟨fv.refl _,iY.refl _ _ _,λ_ _ _=>rfl,λ_ h=>.inl h,λ_ _ _ _ h=>.inl h⟩
theorem Ext.trans {Z l c:Nat->Prop} {μ μ' a:Mu} {w w' d:World} {m n:Nat} (h:Ext Z μ w m l μ' w') (k:Ext l μ' w' n c a d) (hm:m<=n) (q:∀ id b o s,μ id=some (b,o,s)->b < w.heap.size):Ext Z μ w m c a d:=by
 have e:∀ b,ko μ' b->w.heap.size<=b∨ko μ b:=by
  rintro b ⟨id,o,s,i⟩
  rcases h.FU _ _ _ _ i with h1 | ⟨_,h1 | h1⟩
  .exact .inr ⟨_,_,_,h1⟩
  .exact .inl h1
  .exact .inr h1
 refine⟨h.same.trans k.same,h.mono.trans k.mono,λb g p=>?_,λb g=>?_,λid b o s i=>?_⟩
 .rw[k.frame b (aa3 g h.same.size) (λj=>?_),h.frame b g p]
  rcases e b j with h1 | h1
  .omega
  .exact p h1
 .rcases k.UO b g with h1 | h1
  .exact h.UO b h1
  .exact .inr (abp h.same.size h1)
 .rcases k.FU _ _ _ _ i with h1 | ⟨h1,f⟩
  .exact h.FU _ _ _ _ h1
  .refine .inr ⟨by omega,?_⟩
   rcases f with f | f
   .exact .inl (abp h.same.size f)
   .exact e b f
def cat (h:aG) (F:View):View:=λid=>if id < h.length then h.view id else F id
def cd (P:Program) (f:FuncId) (vs:List V) (h:aG) (r:V) (h':aG):Prop :=
 h.length<=h'.length/\∀ Z μ (F:View) (w:World) (xs:List Value),gX Z μ w.heap vs xs->jj Z μ w.heap (cat h F)->(∀ id,h.length<=id->id < h'.length->μ id=none) ->
  Calls P f xs.toArray w λe w'=>∃ x Z' μ',e=.returned x/\aB Z' μ' w'.heap r x/\jj Z' μ' w'.heap (cat h' F)/\Ext Z μ w h.length Z' μ' w'/\(∀ id,id < h.length∨h'.length<=id->μ' id=μ id)
def dW (P:Program) (f:FuncId):Bool:=match P.funcs[f]? with
 | some fn=>fn.name != "runtime.NumGoroutine" && fn.body.isSome
 | none=>false
def uv (n:Nat) (o:Oper):Bool:=match o.dst with
 | some d=>d < n
 | none=>true
def dU (n:Nat) (all:List Oper) (T:Env) (o:Oper):Option Bool:=match o.guard with
 | none=>some true
 | some (j,want)=>match (all[j]?).bind (·.dst) with
  | some d=>if d < n then (match T d with
   | .val (.bool b)=>some (b == want)
   | .bD []=>some false
   | _=>none) else none
  | none=>none
inductive er (P:Program) (n:Nat) (all:List Oper):Oper->Env->aG->V->aG->List Nat->List Nat->Bool->Prop
 | skip {o:Oper} {T:Env} {h:aG} : dU n all T o=some false->er P n all o T h (.bD []) h [] [] false
 | op {o:Oper} {T:Env} {h:aG} {v:V} {eff:bH} {rd:List Nat} : dU n all T o=some true->cD P o T h.view h.length=some (v,eff,rd)->er P n all o T h v (eff.apply h) rd eff.wr false
 | kD {o:Oper} {T:Env} {h:aG} {e:TypeId} {x:Operand} : dU n all T o=some true->o.op=.box e x->(ev T x).cells.all aR=true->er P n all o T h (.aH (ev T x).cells 0) h [] [] false
 | iq {o:Oper} {T:Env} {h:aG} {s d e:TypeId} {x:Operand} {st:ByteArray} : dU n all T o=some true->o.op=.convert s d x->P.underlying s=some .string->P.underlying d=some (.slice e)->P.underlying e=some (.int .u8)->ev T x=.val (.string st)->er P n all o T h (.aE (iG st)) h [] [] false
 | call {o:Oper} {T:Env} {h h':aG} {r:V} {f:Operand} {args:Array Operand} {ats:Array TypeId} {g:FuncId} {first cap:List V} {wr:List Nat} : dU n all T o=some true ->
  o.op=.call { callee:=.value f,args:=args,argTypes:=ats }->ev T f=.fn g first cap->dW P g=true->cd P g (first ++ args.toList.map (ev T) ++ cap) h r h' ->
  (∀ id,id < h.length->¬ id∈wr->h'.view id=h.view id)->(∀ id,id∈wr->id < h.length)->er P n all o T h r h' [] wr true
theorem jw {h:aG} {id:Nat} (hd:h.view id≠.dead):id < h.length:=by
 rcases aaT id h.length with h1 | h1
 .exact h1
 .exfalso;apply hd;simp[aG.view,aaq,aa1 h1]
theorem kY {h:aG} {id:Nat} {o:di} (a:id < h.length):aG.view (h.set id o)=View.set h.view id o:=by
 funext k
 simp only[aG.view,View.set,aaq,abV]
 by_cases e:id=k
 .subst e;simp[a]
 .rw[aat e,aat (λq=>e q.symm)]
theorem HR (h:aG) (o:di):aG.view (h ++ [o])=View.set h.view h.length o:=by
 funext k
 simp only[aG.view,View.set,aaq]
 by_cases e:k=h.length
 .subst e;simp
 .rw[aat e]
  rcases aaT k h.length with h1 | h1
  .rw[aaY h1]
  .rw[aa7 h1,aa1 (by simp;omega),aa1 h1]
theorem nq {h:aG} {eff:bH} (hl:∀ id,id∈eff.wr->h.view id≠.dead):aG.view (eff.apply h)=eff.view h.view h.length:=by
 cases eff with
 | none=>rfl
 | new o=>exact HR h o
 | fQ id o=>exact kY (jw (hl id (by simp[bH.wr])))
 | eF id o =>
  have:=jw (hl id (by simp[bH.wr]))
  simp only[bH.apply,bH.view]
  rw[HR,kY this]
  simp
theorem iM (h:aG) (eff:bH):(eff.apply h).length=h.length+(match eff with | .new _ | .eF _ _=>1 | _=>0):=by
 cases eff <;> simp[bH.apply]
theorem oJ {P:Program} {o:Oper} {T:Env} {H:View} {n:Nat} {v:V} {eff:bH} {rd:List Nat} (h:cD P o T H n=some (v,eff,rd)):∀ id,id∈eff.wr->H id≠.dead/\id∈rd:=by
 have b:∀ {v':V} {e:bH} {r:List Nat},e.wr=[]->some (v',e,r)=some (v,eff,rd)->∀ id,id∈eff.wr->H id≠.dead/\id∈rd:=by
  intro v' e r he heq id c
  simp only[aau,aay] at heq
  obtain⟨_,rfl,_⟩:=heq
  rw[he] at c;simp at c
 have pu:eo P o T=some (v,eff,rd)->∀ id,id∈eff.wr->H id≠.dead/\id∈rd:=by
  intro h
  unfold eo at h
  split at h
  .split at h
   .split at h
    .exact b rfl h
    .simp at h
   .simp at h
  .simp at h
 have up:∀ {id:Nat} {d:di} {v':V} {r:List Nat},H id≠.dead->id∈r->some (v',bH.fQ id d,r)=some (v,eff,rd)->∀ i,i∈eff.wr->H i≠.dead/\i∈rd:=by
  intro id d v' r h1 g heq i hi
  simp only[aau,aay] at heq
  obtain⟨_,rfl,rfl⟩:=heq
  simp[bH.wr] at hi;subst hi;exact⟨h1,g⟩
 have k:∀ {id:Nat} {d:di} {v':V} {r:List Nat},H id≠.dead->id∈r->some (v',bH.eF id d,r)=some (v,eff,rd)->∀ i,i∈eff.wr->H i≠.dead/\i∈rd:=by
  intro id d v' r h1 g heq i hi
  simp only[aau,aay] at heq
  obtain⟨_,rfl,rfl⟩:=heq
  simp[bH.wr] at hi;subst hi;exact⟨h1,g⟩
 have j:∀ {cs:List V},nR cs n=some (v,eff,rd)->∀ id,id∈eff.wr->H id≠.dead/\id∈rd:=by
  intro cs h
  unfold nR at h
  split at h
  .exact b rfl h
  .simp at h
 have mp:∀ {α:Type} {x:Option α} {f:α->V} {r:List Nat},(x.map λa=>(f a,bH.none,r))=some (v,eff,rd)->∀ id,id∈eff.wr->H id≠.dead/\id∈rd:=by
  intro α x f r h
  simp only[aaF] at h
  obtain⟨a,_,h⟩:=h
  exact b rfl (abk some h)
 unfold cD at h
 split at h
 .exact b rfl h
 .exact b rfl h
 .split at h
  .exact b rfl h
  .simp at h
 .split at h
  .exact j h
  .simp at h
 .exact j h
 .unfold x5 at h
  split at h
  .split at h
   .exact mp h
   .simp at h
  .simp at h
 .unfold ju at h
  repeat' (split at h)
  all_goals first | exact b rfl h | (simp at h;done)
 .unfold oz at h
  repeat' (split at h)
  all_goals first | exact mp h | (simp at h;done)
 .unfold td at h
  split at h
  .split at h
   .rename_i hH
    split at h
    .exact up (by rw[hH];simp) (by simp) h
    .simp at h
   .simp at h
  .simp at h
 .repeat' (split at h)
  all_goals first | exact b rfl h | (simp at h;done)
 .unfold na at h
  repeat' (split at h)
  all_goals first | exact b rfl h | (simp at h;done)
 .unfold yD at h
  split at h
  .exact mp h
  .simp at h
 .unfold nC at h
  repeat' (split at h)
  all_goals first | exact b rfl h | (simp at h;done)
 .split at h
  .exact pu h
  .unfold uQ at h
   repeat' (split at h)
   all_goals first | exact b rfl h | (simp at h;done)
 .unfold ni at h
  repeat' (split at h)
  all_goals first | exact b rfl h | (simp at h;done)
 .repeat' (split at h)
  all_goals first | exact b rfl h | (simp at h;done)
 .exact b rfl h
 .unfold gM at h
  simp only at h
  repeat' (split at h)
  all_goals first | exact b rfl h | (simp at h;done)
 .unfold gj at h
  split at h
  .split at h
   .rename_i hH
    repeat' (split at h)
    all_goals first | exact up (by rw[hH];simp) (by simp) h | (simp at h;done)
   .simp at h
  .simp at h
 .unfold gj at h
  split at h
  .split at h
   .rename_i hH
    repeat' (split at h)
    all_goals first | exact up (by rw[hH];simp) (by simp) h | (simp at h;done)
   .simp at h
  .simp at h
 .unfold e9 at h
  split at h
  .split at h
   .rename_i hH
    repeat' (split at h)
    all_goals first | exact up (by rw[hH];simp) (by simp) h | (simp at h;done)
   .simp at h
  .simp at h
 .unfold lI at h
  split at h
  .split at h
   .rename_i hH
    repeat' (split at h)
    all_goals first | exact up (by rw[hH];simp) (by simp) h | (simp at h;done)
   .simp at h
  .simp at h
 .repeat' (split at h)
  all_goals first | exact b rfl h | (simp at h;done)
 .repeat' (split at h)
  all_goals first | exact b rfl h | (simp at h;done)
 .unfold F5 at h
  split at h
  .split at h
   .rename_i hH
    split at h
    .exact up (by rw[hH];simp) (by simp) h
    .exact b rfl h
   .simp at h
  .simp at h
 .split at h
  .unfold oM at h
   split at h
   .repeat' (split at h)
    all_goals first | exact mp h | exact b rfl h | (simp at h;done)
   .repeat' (split at h)
    all_goals first | exact mp h | exact b rfl h | (simp at h;done)
   .split at h
    .split at h
     .split at h
      .rename_i hH
       exact up (by rw[hH];simp) (by simp) h
      .simp at h
     .simp at h
    .simp at h
   .simp at h
  .exact pu h
 .split at h
  .split at h
   .unfold xh at h
    repeat' (split at h)
    all_goals first | exact mp h | exact b rfl h | (simp at h;done)
   .simp at h
  .split at h
   .unfold oY at h
    split at h
    .split at h
     .simp at h
     .split at h
      .split at h
       all_goals first | exact b rfl h | (simp at h;done)
      .split at h
       .simp at h
       .split at h
        .split at h
         .exact b rfl h
         .simp at h
        .split at h
         .rename_i hH
          split at h
          .exact k (by rw[hH];simp) (by simp) h
          .simp at h
         .simp at h
        .simp at h
    .simp at h
   .split at h
    .unfold zS at h
     split at h
     .split at h
      .split at h
       .exact b rfl h
       .split at h
        .exact b rfl h
        .simp at h
      .simp at h
     .simp at h
    .simp at h
  .split at h
   .unfold JP at h
    split at h
    .exact b rfl h
    .simp at h
   .simp at h
  .split at h
   .unfold yZ at h
    split at h
    .split at h
     .simp at h
     .split at h
      .exact b rfl h
      .split at h
       .split at h
        .rename_i hH
         split at h
         .exact up (by rw[hH];simp) (by simp) h
         .simp at h
        .simp at h
       .simp at h
    .simp at h
   .simp at h
  .split at h
   .unfold xP at h
    split at h
    .split at h
     .rename_i hH
      repeat' (split at h)
      all_goals first | exact up (by rw[hH];simp) (by simp) h | exact b rfl h | (simp at h;done)
     .simp at h
    .simp at h
   .simp at h
  .split at h
   .unfold xT at h
    split at h
    .split at h
     .exact b rfl h
     .split at h
      .split at h
       .rename_i hH
        split at h
        .exact up (by rw[hH];simp) (by simp) h
        .simp at h
       .simp at h
      .simp at h
    .simp at h
   .simp at h
  .exact pu h
  .exact pu h
  .exact pu h
  .exact pu h
  .exact pu h
  .simp at h
 .split at h
  .split at h
   .exact b rfl h
   .exact b rfl h
   .simp at h
  .exact pu h
 .exact pu h
 .exact pu h
 .simp at h
section
variable {P:Program} {n:Nat} {all:List Oper} {Z:Nat->Prop} {μ:Mu} {w:World}
theorem jj.congr {H H':View} {hp:Array Obj} (h:jj Z μ hp H) (e:∀ id,μ id≠none->H' id=H id):jj Z μ hp H':=by
 refine⟨λid=>?_,λi j b o s g k d hi f=>?_,h.lt,h.dd,h.iR⟩
 .by_cases hm:μ id=none
  .cases hH:H' id with
   | dead=>trivial
   | arr esz es=>intro b o0 s a;rw[hm] at a;simp at a
   | map es c=>intro b o0 s a;rw[hm] at a;simp at a
   | yM s p=>intro b o0 t a;rw[hm] at a;simp at a
  .rw[e id hm];exact h.obj id
 .rw[e i (by rw[hi];simp),e j (by rw[f];simp)]
  exact h.inj i j b o s g k d hi f
def kp (H:View) (h h':aG) (wr:List Nat):View:=λid=>if id∈wr∨(h.length<=id/\id < h'.length) then h'.view id else H id
theorem oG.ext {μ':Mu} {w':World} {eff:bH} {m:Nat} (he:oG Z μ μ' w.heap w'.heap m eff) (hs:fv w w') (q:eff.fresh (μ m=none)) (dd:∀ b,Z b->b < w.heap.size) (iR:∀ id b o s,μ id=some (b,o,s)->¬ Z b) :
  Ext Z μ w m Z μ' w'/\(∀ id,(∀ (_:¬ (match eff with | .new _ | .eF _ _=>id=m | _=>False)),μ' id=μ id)):=by
 have hm:=he.mono q dd iR
 cases eff with
 | none =>
  obtain⟨rfl,f⟩:=he
  exact⟨⟨hs,hm,λb k _=>f b k (λx=>x),λ_ h=>.inl h,λ_ _ _ _ h=>.inl h⟩,λ_ _=>rfl⟩
 | new o =>
  obtain⟨b,o0,s,r,t,rfl,f,_⟩:=he
  refine⟨⟨hs,hm,λb k _=>f b k (λx=>x),λ_ h=>.inl h,λid g u v d=>?_⟩,λid i=>by simp[Mu.set];intro e;exact absurd e i⟩
  by_cases e:id=m
  .subst e;simp[Mu.set] at d;exact .inr ⟨aaD _,.inl (by omega)⟩
  .simp[Mu.set,e] at d;exact .inl d
 | fQ id o =>
  obtain⟨b,o0,s,a,rfl,f,_,_⟩:=he
  exact⟨⟨hs,hm,λg c j=>f g c (λe=>j ⟨id,o0,s,e ▸ a⟩),λ_ h=>.inl h,λ_ _ _ _ h=>.inl h⟩,λ_ _=>rfl⟩
 | eF id o =>
  obtain⟨b,o0,s,rfl,_,p⟩:=he
  refine⟨⟨hs,hm,?_,λ_ h=>.inl h,λl g u v d=>?_⟩,λid i=>by simp[Mu.set];intro e;exact absurd e i⟩
  .rcases p with h1 | ⟨⟨n,s1,a⟩,f,_⟩
   .exact λg c _=>h1.2.2 g c (λx=>x)
   .exact λg c j=>f g c (λe=>j ⟨id,n,s1,e ▸ a⟩)
  .by_cases e:l=m
   .subst e
    simp[Mu.set] at d
    obtain⟨rfl,_,_⟩:=d
    rcases p with h1 | ⟨⟨n,s1,a⟩,_,_⟩
    .exact .inr ⟨aaD _,.inl h1.1⟩
    .exact .inr ⟨aaD _,.inr ⟨id,n,s1,a⟩⟩
   .simp[Mu.set,e] at d;exact .inl d
theorem JO {f:FuncId} {args:Array Value} (h:dW P f=true):(callFunc f args).run P w=.ok (.enter f args) w:=by
 unfold dW at h
 split at h
 .rename_i fn a
  simp only[aaB,acy,ne_eq] at h
  have h1:(fn.name == "runtime.NumGoroutine")=false:=by simpa using h.1
  have e:fn.body.isNone=false:=by cases b:fn.body <;> simp_all
  have c:¬ (fn.name = "runtime.NumGoroutine"):=by simpa using h.1
  have d:¬ (fn.body=none):=by cases b:fn.body <;> simp_all
  simp[callFunc,a,c,d]
 .simp at h
theorem p8 {ops:Array Oper} (g:ops=all.toArray) {a:Act} (k:a.tmps.size=n) {T:Env} {o:Oper} {t:Bool} (e:dU n all T o=some t)
  (f:∀ j want d,o.guard=some (j,want)->(all[j]?).bind (·.dst)=some d->aB Z μ w.heap (T d) (a.tmps.getD d undef)):Region.wanted o (yielded ops a.tmps)=t:=by
 unfold dU at e
 unfold Region.wanted
 cases i:o.guard with
 | none=>simp[i] at e;subst e;rfl
 | some p =>
  obtain⟨j,want⟩:=p
  simp only[i] at e ⊢
  cases hd:(all[j]?).bind (·.dst) with
  | none=>simp[hd] at e
  | some d =>
   simp only[hd] at e
   split at e
   .rename_i l
    have h:=f j want d i hd
    split at e
    .rename_i b q
     rw[q] at h
     have h:=fY h
     simp only[aau] at e
     subst e
     have c:d < a.tmps.size:=k ▸ l
     simp only[aaH,aaP c,aaL] at h
     have:yielded ops a.tmps j=some b:=by
      unfold yielded
      subst g
      simp only[abw,hd,abf,aaP c,h]
     rw[this]
     cases b <;> cases want <;> rfl
    .rename_i q
     rw[q] at h
     have c:d < a.tmps.size:=k ▸ l
     generalize m:a.tmps.getD d undef=x at h
     cases h with
     | bD _ r h1 u =>
      simp only[aau] at e
      subst e
      have s:a.tmps[d]?=some (.tuple r):=by
       rw[aaP c]
       simp only[aaH,aaP c,aaL] at m
       rw[m]
      have:yielded ops a.tmps j=none:=by
       unfold yielded
       subst g
       simp only[abw,hd,abf,s]
      rw[this]
      rfl
    .simp at e
   .simp at e
theorem BF {ops:Array Oper} (B:ops=all.toArray) {i:Nat} {o:Oper} (hi:ops[i]?=some o) {T:Env} {h X:aG} {v:V} {rd wr:List Nat} {call:Bool} (st:er P n all o T h v X rd wr call) {a:Act} {H:View}
  (G:a.tmps.size=n) (m:∀ j want d,o.guard=some (j,want)->(all[j]?).bind (·.dst)=some d->aB Z μ w.heap (T d) (a.tmps.getD d undef))
  (hT:∀ x∈o.op.operands,aB Z μ w.heap (ev T x) (a.eval x)) (hr:jj Z μ w.heap H) (bn:∀ id,id∈rd->μ id≠none->H id=h.view id)
  (I:call=true->∀ id,id < h.length->μ id≠none->H id=h.view id) (J:∀ id,h.length<=id->id < X.length->μ id=none)
  {K:Act->World->Prop} {Q:Exit->Act->World->Prop}
  (hK:∀ x w' Z' μ',aB Z' μ' w'.heap v x->jj Z' μ' w'.heap (kp H h X wr)->Ext Z μ w h.length Z' μ' w'->(∀ id,id < h.length∨X.length<=id->μ' id=μ id)->K (a.put o.dst x) w') :
  wpOp P ops Q i K a w:=by
 unfold wpOp
 rw[hi]
 cases st with
 | skip R =>
  have:=p8 (w:=w) B G R m
  simp only[this,aaU,if_false]
  refine hK undef w Z μ (.bD _ _ rfl (λi hi=>by simp at hi)) (hr.congr λid c=>?_) (Ext.refl _ _ _ _) (λ_ _=>rfl)
  unfold kp
  rw[aat]
  rintro (h1 | h1)
  .simp at h1
  .omega
 | op R bq =>
  rename_i eff
  have:=p8 (w:=w) B G R m
  simp only[this,if_true]
  left
  have D:=oJ bq
  have b4:=nq (λid c=>(D id c).1)
  have hlen:=iM h eff
  have Y:eff.fresh (μ h.length=none):=by
   cases eff with
   | new o=>exact J _ (aaD _) (by rw[hlen];simp)
   | eF k o=>exact J _ (aaD _) (by rw[hlen];simp)
   | _=>trivial
  .have br:Ctx Z μ w.heap h.view rd h.length eff:=by
    refine⟨Y,λid c=>?_,hr.lt,hr.dd,hr.iR⟩
    by_cases hm:μ id=none
    .have:=(jj.congr (H':=λk=>if k=id then h.view id else H k) hr (λk hk=>by
      split
      .rename_i e;subst e;exact absurd hm hk
      .rfl)).obj id
     simpa using this
    .rw[<-bn id c hm];exact hr.obj id
   obtain⟨nx,w',μ',t,bx,l,u⟩:=X6 bq hT br
   have hex:=u.ext l Y hr.dd hr.iR
   have L:jj Z μ' w'.heap (kp H h (eff.apply h) eff.wr):=by
    have M:∀ id,id∈eff.wr->μ id≠none->H id≠.dead:=λid c hm=>by
     rw[bn id (D id c).2 hm];exact(D id c).1
    have b0:∀ id o,(eff=.fQ id o∨eff=.eF id o)->H id≠.dead∨μ id=none:=by
     rintro id o (rfl | rfl)
     .by_cases hm:μ id=none
      .exact .inr hm
      .exact .inl (M id (by simp[bH.wr]) hm)
     .by_cases hm:μ id=none
      .exact .inr hm
      .exact .inl (M id (by simp[bH.wr]) hm)
    have h2:jj Z μ w.heap (λk=>if μ k=none then .yM .empty 0 else H k):=hr.congr (λk hk=>by simp[hk])
    have h3:=h2.eff Y l.size u (λid o e=>by
     split
     .simp
     .rename_i hk;exact(b0 id o (.inl e)).resolve_right hk) (λid o e=>by
     split
     .simp
     .rename_i hk;exact(b0 id o (.inr e)).resolve_right hk)
    refine h3.congr (λid c=>?_)
    unfold kp
    rw[b4]
    cases eff with
    | none =>
     obtain⟨rfl,_⟩:=u
     simp only[bH.wr,bH.apply,bH.view,List.not_mem_nil,false_or]
     rw[aat (by omega),aat c]
    | new o =>
     obtain⟨b,o0,s,_,_,rfl,_⟩:=u
     simp only[bH.wr,bH.view,View.set,List.not_mem_nil,false_or]
     by_cases e:id=h.length
     .subst e;rw[aaw ⟨aaD _,by rw[hlen];simp⟩,aaw rfl,aaw rfl]
     .rw[aat (by rw[hlen];simp only;omega),aat e]
      have:μ id≠none:=by simpa [Mu.set,e] using c
      rw[aat this]
    | fQ k o =>
     obtain⟨b,o0,s,_,rfl,_⟩:=u
     simp only[bH.wr,bH.view,View.set,abq]
     by_cases e:id=k
     .subst e;rw[aaw (.inl rfl),aaw rfl,aaw rfl]
     .rw[aat (by rw[hlen];simp only;omega),aat e,aat c]
    | eF k o =>
     obtain⟨b,o0,s,rfl,_⟩:=u
     simp only[bH.wr,bH.view,View.set,abq]
     by_cases e:id=h.length
     .subst e;rw[aaw (.inr ⟨aaD _,by rw[hlen];simp⟩),aaw rfl,aaw rfl]
     .by_cases e2:id=k
      .subst e2;rw[aaw (.inl rfl),aat e,aaw rfl,aat e,aaw rfl]
      .rw[aat (by rw[hlen];simp only;omega),aat e,aat e2]
       have:μ id≠none:=by simpa [Mu.set,e] using c
       rw[aat this]
   have C:∀ id,id < h.length∨(eff.apply h).length<=id->μ' id=μ id:=by
    intro id c
    refine hex.2 id (λS=>?_)
    cases eff with
    | none=>exact S
    | new o=>simp only at S;subst S;rw[hlen] at c;simp at c;omega
    | fQ k o=>exact S
    | eF k o=>simp only at S;subst S;rw[hlen] at c;simp at c;omega
   unfold Oper.wp
   rw[t]
   rcases bx with ⟨x,rfl,hv⟩ | ⟨rfl,rfl⟩
   .exact hK x w' Z μ' hv L hex.1 C
   .exact hK undef w' Z μ' (.any _) L hex.1 C
 | kD R U an =>
  rename_i e x
  have:=p8 (w:=w) B G R m
  simp only[this,if_true]
  left
  have z:=hT x (by rw[U];simp[Op.operands])
  have b1:=iK z an
  have t:(execOp a.eval o).run P w=.ok (.value (.pointer (some ⟨w.heap.size,0,none⟩))) (w.alloc (.cells (a.eval x).cells e)):=by
   unfold execOp
   rw[U]
   simp[Instr.box,newVar,newRow]
  unfold Oper.wp
  rw[t]
  have A:ie w.heap (w.alloc (.cells (a.eval x).cells e)).heap (λ_=>False):=fC _ _
  have b2:(w.alloc (.cells (a.eval x).cells e)).heap.size=w.heap.size+1:=by rw[heap_alloc];simp
  have hm:iY Z (λb=>Z b∨b=w.heap.size) μ μ w.heap (w.alloc (.cells (a.eval x).cells e)).heap:=⟨λ_ h=>.inl h,λb r=>A b (hr.dd b r) (λx=>x),λ_ _ h=>h,A.sZ⟩
  have l:fv w (w.alloc (.cells (a.eval x).cells e)):=j6 _ _
  have aq:kp H h h []=H:=by
   funext id
   unfold kp
   rw[aat]
   rintro (h1 | h1)
   .simp at h1
   .omega
  refine hK _ _ (λb=>Z b∨b=w.heap.size) μ ?_ (aq.symm ▸ ⟨λid=>?_,hr.inj,λid b o s z=>aa3 (hr.lt _ _ _ _ z) l.size,λb r=>?_,λid b o s z ar=>?_⟩)
   ⟨l,hm,λb r _=>A b r (λx=>x),λb r=>?_,λ_ _ _ _ h=>.inl h⟩ (λ_ _=>rfl)
  .have:=aB.aH (Z:=λb=>Z b∨b=w.heap.size) (μ:=μ) (hp:=(w.alloc (.cells (a.eval x).cells e)).heap) (ev T x).cells 0 w.heap.size 0 (λk=>(a.eval x).cells.toList.getD k undef) (.inr rfl) (λk hk=>?_) (λk hk=>(b1.2 k hk).mono hm)
   .simpa using this
   .have a1:k < (a.eval x).cells.size:=by have:=b1.1;simp at this;omega
    simp[cellAt,heap_alloc,aaq,a1]
  .exact(hr.obj id).mono hm rfl (λb o s z=>A b (hr.lt _ _ _ _ z) (λx=>x))
  .rcases r with r | rfl
   .exact aa3 (hr.dd b r) l.size
   .omega
  .rcases ar with r | rfl
   .exact hr.iR _ _ _ _ z r
   .have:=hr.lt _ _ _ _ z;omega
  .rcases r with r | rfl
   .exact .inl r
   .exact .inr (aaD _)
 | iq R U hs hd he b5 =>
  rename_i s d e x st
  have:=p8 (w:=w) B G R m
  simp only[this,if_true]
  left
  have z:=hT x (by rw[U];simp[Op.operands])
  rw[b5] at z
  have b7:=fY z
  have W:st.size<=grownCap w st.size 0 e:=by unfold grownCap Question.cut;exact Nat.le_add_right _ _
  have t:=run_bytes_of_string w s d e st hs hd he
  generalize cg:grownCap w st.size 0 e=cap at t W
  have b8:(bytesRow st cap).size=cap:=by
   simp only[bytesRow,Array.size_append,Array.size_map,Array.size_replicate]
   have:st.data.size=st.size:=rfl
   omega
  have a6:(execOp a.eval o).run P w=.ok (.value (.slice (some ⟨w.heap.size,0,none⟩) st.size cap)) (w.drew.alloc (.cells (bytesRow st cap) e (cap,cap+1))):=by
   unfold execOp
   rw[U]
   simp only[b7,Sem.run_bind,t,Result.andThen_ok,Sem.run_pure]
   rw[b8]
  unfold Oper.wp
  rw[a6]
  have E:(w.drew.alloc (.cells (bytesRow st cap) e (cap,cap+1))).heap=w.heap.push (.cells (bytesRow st cap) e (cap,cap+1)):=by rw[heap_alloc,fT]
  have A:ie w.heap (w.drew.alloc (.cells (bytesRow st cap) e (cap,cap+1))).heap (λ_=>False):=by rw[E];exact fC _ _
  have b2:(w.drew.alloc (.cells (bytesRow st cap) e (cap,cap+1))).heap.size=w.heap.size+1:=by rw[E];simp
  have hm:iY Z (λb=>Z b∨b=w.heap.size) μ μ w.heap (w.drew.alloc (.cells (bytesRow st cap) e (cap,cap+1))).heap:=⟨λ_ h=>.inl h,λb r=>A b (hr.dd b r) (λx=>x),λ_ _ h=>h,A.sZ⟩
  have l:fv w (w.drew.alloc (.cells (bytesRow st cap) e (cap,cap+1))):=lS _ _
  have aq:kp H h h []=H:=by
   funext id
   unfold kp
   rw[aat]
   rintro (h1 | h1)
   .simp at h1
   .omega
  refine hK _ _ (λb=>Z b∨b=w.heap.size) μ ?_ (aq.symm ▸ ⟨λid=>?_,hr.inj,λid b o s z=>aa3 (hr.lt _ _ _ _ z) l.size,λb r=>?_,λid b o s z ar=>?_⟩)
   ⟨l,hm,λb r _=>A b r (λx=>x),λb r=>?_,λ_ _ _ _ h=>.inl h⟩ (λ_ _=>rfl)
  .have hl:(iG st).length=st.size:=by rw[iG,aaA,bsize]
   have:=aB.aE (Z:=λb=>Z b∨b=w.heap.size) (μ:=μ) (hp:=(w.drew.alloc (.cells (bytesRow st cap) e (cap,cap+1))).heap) (iG st) w.heap.size 0 1 cap (λi _=>.int .u8 ((st.data.toList.getD i 0).toNat)) (.inr rfl) (by rw[hl];exact W) ?_ ?_ ?_
   .rw[hl] at this;exact this
   .intro i hi
    have F:i < st.data.toList.length:=by simpa [iG] using hi
    simp only[iG,aaq,aav,aar F,aaz,aaL,aaK,aa2]
   .intro i j hi hj
    obtain rfl:j=0:=by omega
    have F:i < st.data.size:=by simpa [iG] using hi
    rw[E]
    simp only[cellAt,Array.getElem?_push_size,bytesRow,Nat.mul_one,ack,aby]
    rw[abY (by simpa using F),Array.getElem?_map,aaP F]
    simp[aaq,aaP F]
   .intro i j hi hj
    obtain rfl:j=0:=by omega
    have F:i < st.data.size:=by simpa [iG] using hi
    simp only[iG,aaq,aav,Array.getElem?_toList,aaP F,aaz,aaL,aa0]
    exact .val _ rfl
  .exact(hr.obj id).mono hm rfl (λb o s z=>A b (hr.lt _ _ _ _ z) (λx=>x))
  .rcases r with r | rfl
   .exact aa3 (hr.dd b r) l.size
   .omega
  .rcases ar with r | rfl
   .exact hr.iR _ _ _ _ z r
   .have:=hr.lt _ _ _ _ z;omega
  .rcases r with r | rfl
   .exact .inl r
   .exact .inr (aaD _)
 | call R U hf an S hw b9 =>
  rename_i f args ch g first cap
  have:=p8 (w:=w) B G R m
  simp only[this,if_true]
  left
  have a7:∀ x∈args.toList,aB Z μ w.heap (ev T x) (a.eval x):=λx z=>hT x (by rw[U];simp[Op.operands,Call.operands];right;simpa using z)
  have a8:=hT f (by rw[U];simp[Op.operands,Call.operands])
  rw[hf] at a8
  generalize ca:a.eval f=fx at a8
  cases a8 with
  | fn _ _ _ N bs h1 h2 h3 h4 =>
   have t:(execOp a.eval o).run P w=.ok (.enter g (N ++ args.map a.eval ++ bs)) w:=by
    unfold execOp
    rw[U]
    simp only[resolve,ca,Deferred.ofValue,Sem.run_bind,Sem.run_pure,Result.andThen_ok,invoke,JO an]
   unfold Oper.wp
   rw[t]
   show Calls P g (N ++ args.map a.eval ++ bs) w _
   have cc:(N ++ args.map a.eval ++ bs)=(N.toList ++ args.toList.map a.eval ++ bs.toList).toArray:=by
    apply Array.ext';simp
   rw[cc]
   have bb:gX Z μ w.heap (first ++ args.toList.map (ev T) ++ cap) (N.toList ++ args.toList.map a.eval ++ bs.toList):=by
    have app:∀ {p q:List V} {x y:List Value},gX Z μ w.heap p x->gX Z μ w.heap q y->gX Z μ w.heap (p ++ q) (x ++ y):=by
     intro p q x y hp hq
     refine⟨by simp[hp.1,hq.1],λk hk=>?_⟩
     simp only[aaq]
     by_cases bd:k < p.length
     .rw[aaY bd,aaY (hp.1 ▸ bd)]
      simpa only [aaq] using hp.2 k bd
     .rw[aa7 (by omega),aa7 (by rw[<-hp.1];omega),<-hp.1]
      simpa only [aaq] using hq.2 (k - p.length) (by simp at hk;omega)
    refine app (app ⟨by simpa using h1,λk hk=>?_⟩ ⟨by simp,λk hk=>?_⟩) ⟨by simpa using h2,λk hk=>?_⟩
    .simpa [aaq,aaH] using h3 k hk
    .have a1:k < args.toList.length:=by simpa using hk
     have:=a7 args.toList[k] (aaC _)
     simp only[aaq,aav,aar a1,aaz,aaL]
     exact this
    .simpa [aaq,aaH] using h4 k hk
   have b3:jj Z μ w.heap (cat h H):=hr.congr (λid c=>by
    unfold cat;split
    .rename_i cf;exact(I rfl id cf c).symm
    .rfl)
   refine(S.2 Z μ H w _ bb b3 J).mono ?_
   rintro e w' ⟨x,Z',μ',rfl,hv,hh,hex,C⟩
   refine hK x w' Z' μ' hv (hh.congr λid c=>?_) hex C
   unfold kp cat
   by_cases O:id∈wr∨(h.length<=id/\id < X.length)
   .rw[aaw O]
    rcases O with h5 | h5
    .by_cases hl:id < X.length
     .rw[aaw hl]
     .exact absurd (aa3 (b9 id h5) S.1) hl
    .rw[aaw h5.2]
   .rw[aat O]
    by_cases hl:id < X.length
    .rw[aaw hl]
     have bl:id < h.length:=by
      rcases aaT id h.length with h6 | h6
      .exact h6
      .exact absurd (.inr ⟨h6,hl⟩) O
     rw[hw id bl (λq=>O (.inl q))]
     exact I rfl id bl (by rw[<-C id (.inl bl)];exact c)
    .rw[aat hl]
end
structure Rec where
 rd:List Nat
 wr:List Nat
 call:Bool
 lo:Nat
 hi:Nat
inductive Tr (P:Program) (n:Nat) (all:List Oper):List Oper->Env->aG->List Rec->Env->aG->Prop
 | nil {T:Env} {h:aG} : Tr P n all [] T h [] T h
 | cons {o:Oper} {rest:List Oper} {T T':Env} {h h1 h':aG} {v:V} {rd wr:List Nat} {call:Bool} {recs:List Rec} : er P n all o T h v h1 rd wr call->uv n o=true ->
  Tr P n all rest (T.put o.dst v) h1 recs T' h'->Tr P n all (o :: rest) T h (⟨rd,wr,call,h.length,h1.length⟩ :: recs) T' h'
def mask (o:Oper) (acc:List Nat):Nat:=o.after.toList.foldl (λs e=>if Region.binds .any e then s ||| 2 ^ e.on ||| acc.getD e.on 0 else s) 0
def gJ:List Oper->List Nat->List Nat
 | [],acc=>acc
 | o :: r,acc=>gJ r (acc ++ [mask o acc])
def tmpsOf (o:Oper):List Nat:=o.op.operands.toList.filterMap fun | .tmp t=>some t | _=>none
def pZ (all:List Oper) (o:Oper):List Nat:=o.dst.toList ++ tmpsOf o ++ (match o.guard with
 | some (j,_)=>((all[j]?).bind (·.dst)).toList
 | none=>[])
def O9 (d:Option Nat) (l:List Nat):Bool:=match d with
 | some t=>!l.contains t
 | none=>true
def ordered (b:List Nat) (i k:Nat):Bool:=(b.getD k 0).testBit i
def od (all:List Oper):Bool :=
 let b:=gJ all []
 all.zipIdx.all λ(ok,k) =>
  (ok.after.toList.all λe=>!Region.binds .any e || decide (e.on < k)) &&
  all.zipIdx.all λ(oi,i)=>!decide (i < k) || ordered b i k || (O9 oi.dst (pZ all ok) && O9 ok.dst (pZ all oi))
structure qN (a b:Rec):Prop where
 Zf:∀ id,id∈a.wr->¬ id∈b.rd
 Yc:∀ id,id∈b.wr->¬ id∈a.rd
 YP:a.call=true->b.wr=[]
 call2:b.call=true->a.wr=[]
 new:∀ id,id∈b.wr->¬ (a.lo<=id/\id < a.hi)
def xm (all:List Oper) (recs:List Rec):Prop:=∀ i k a b,i < k->recs[i]?=some a->recs[k]?=some b->ordered (gJ all []) i k=false->qN a b
theorem HY (l:List Edge) (acc:List Nat) (s j:Nat):(l.foldl (λs e=>if Region.binds .any e then s ||| 2 ^ e.on ||| acc.getD e.on 0 else s) s).testBit j=true ->
  s.testBit j=true∨∃ e∈l,Region.binds .any e=true/\(j=e.on∨(acc.getD e.on 0).testBit j=true):=by
 induction l generalizing s with
 | nil=>intro h;exact .inl h
 | cons e l c =>
  intro h
  simp only[aaR] at h
  rcases c _ h with h1 | ⟨e',b,d⟩
  .by_cases a:Region.binds .any e=true
   .rw[aaw a,Nat.testBit_or,Nat.testBit_or,Nat.testBit_two_pow] at h1
    simp only[abt,aaE] at h1
    rcases h1 with (h1 | h1) | h1
    .exact .inl h1
    .exact .inr ⟨e,acA,a,.inl h1.symm⟩
    .exact .inr ⟨e,acA,a,.inr h1⟩
   .rw[aat a] at h1;exact .inl h1
  .exact .inr ⟨e',aaO _ b,d⟩
theorem DZ:∀ (l:List Oper) (acc:List Nat) (k:Nat),k < acc.length->(gJ l acc).getD k 0=acc.getD k 0
 | [],acc,k,_=>rfl
 | o :: r,acc,k,h=>by
  rw[gJ,DZ r _ k (by simp;omega)]
  simp[aaq,aaY h]
theorem GO:∀ (l:List Oper) (acc:List Nat) (k:Nat) (o:Oper),l[k]?=some o->∃ a,(gJ l acc).getD (acc.length+k) 0=mask o a/\a.length=acc.length+k/\∀ m,m < a.length->a.getD m 0=(gJ l acc).getD m 0
 | [],acc,k,o,h=>by simp at h
 | p :: r,acc,0,o,h=>by
  simp at h;subst h
  refine⟨acc,?_,by simp,λm hm=>?_⟩
  .rw[gJ,DZ r _ _ (by simp)]
   simp[aaq]
  .rw[gJ,DZ r _ _ (by simp;omega)]
   simp[aaq,aaY hm]
 | p :: r,acc,k+1,o,h=>by
  have b:r[k]?=some o:=by simpa using h
  obtain⟨a,h1,c,d⟩:=GO r (acc ++ [mask p acc]) k o b
  refine⟨a,?_,by simp at c;omega,λm hm=>?_⟩
  .rw[gJ]
   have e:(acc ++ [mask p acc]).length+k=acc.length+(k+1):=by simp;omega
   rw[<-e];exact h1
  .rw[gJ];exact d m hm
theorem Ah {all:List Oper} {L:Nat->Prop} (m:∀ k o,all[k]?=some o->∀ e∈o.after.toList,Region.binds .any e=true->e.on < k)
  (n:∀ k o,all[k]?=some o->L k->∀ e∈o.after.toList,Region.binds .any e=true->L e.on):∀ k o j,all[k]?=some o->L k->ordered (gJ all []) j k=true->L j:=by
 intro k
 induction k using Nat.strongRecOn with
 | _ k p =>
  intro o j hk d f
  unfold ordered at f
  obtain⟨i,h1,q,r⟩:=GO all [] k o hk
  simp only[aa2,aby] at h1 q
  rw[h1] at f
  rcases HY _ _ _ _ f with a | ⟨e,he,b,a⟩
  .simp at a
  .have g:=m k o hk e he b
   have c:=n k o hk d e he b
   rcases a with a | a
   .rw[a];exact c
   .have l:k < all.length:=by
     rcases aaT k all.length with h | h
     .exact h
     .simp[aa1 h] at hk
    refine p e.on g _ j (aar (by omega)) c ?_
    unfold ordered
    rw[<-r e.on (by omega)]
    exact a
theorem Ln {all:List Oper} {L:Nat->Prop} (g:∀ k o,all[k]?=some o->∀ e∈o.after.toList,Region.binds .any e=true->e.on < k)
  (l:∀ k o,all[k]?=some o->L k->∀ e∈o.after.toList,Region.binds .any e=true->L e.on) {k:Nat} {o:Oper} (hk:all[k]?=some o) (hr:∀ e∈o.after.toList,Region.binds .any e=true->L e.on)
  {j:Nat} (d:ordered (gJ all []) j k=true):L j:=by
 unfold ordered at d
 obtain⟨h,h1,m,n⟩:=GO all [] k o hk
 simp only[aa2,aby] at h1 m
 rw[h1] at d
 rcases HY _ _ _ _ d with a | ⟨e,he,b,a⟩
 .simp at a
 .have p:=g k o hk e he b
  have c:=hr e he b
  rcases a with a | a
  .rw[a];exact c
  .have i:k < all.length:=by
    rcases aaT k all.length with f | f
    .exact f
    .simp[aa1 f] at hk
   refine Ah g l e.on _ j (aar (by omega)) c ?_
   unfold ordered
   rw[<-n e.on (by omega)]
   exact a
theorem Mz {all:List Oper} (h:od all=true):(∀ k o,all[k]?=some o->∀ e∈o.after.toList,Region.binds .any e=true->e.on < k) /\
  ∀ i k a ok,i < k->all[i]?=some a->all[k]?=some ok->ordered (gJ all []) i k=false->(∀ t,a.dst=some t->¬ t∈pZ all ok)/\(∀ t,ok.dst=some t->¬ t∈pZ all a):=by
 unfold od at h
 have mem:∀ k o,all[k]?=some o->(o,k)∈all.zipIdx:=by
  intro k o hk
  rw[abG];exact hk
 refine⟨λk o hk e he f=>?_,λi k a ok b hi hk g=>?_⟩
 .have:=aaX.1 h _ (mem k o hk)
  simp only[aaB] at this
  have:=aaX.1 this.1 e he
  simpa [f] using this
 .have:=aaX.1 h _ (mem k ok hk)
  simp only[aaB] at this
  have:=aaX.1 this.2 _ (mem i a hi)
  simp only[b,decide_true,acE,acD,g,aaB] at this
  have c:∀ (d:Option Nat) (l:List Nat),O9 d l=true->∀ t,d=some t->¬ t∈l:=by
   intro d l hd t j
   subst j
   simpa [O9] using hd
  exact⟨c _ _ this.1,c _ _ this.2⟩
theorem HX {P:Program} {n:Nat} {all:List Oper} : ∀ (l:List Oper) (T:Env) (h:aG) (a:List Rec) (c:Env) (d:aG),Tr P n all l T h a c d ->
  a.length=l.length/\∃ (b:Nat->Env) (hs:Nat->aG) (vs:Nat->V),b 0=T/\hs 0=h/\b l.length=c/\hs l.length=d /\
   ∀ i o r,l[i]?=some o->a[i]?=some r->er P n all o (b i) (hs i) (vs i) (hs (i+1)) r.rd r.wr r.call/\uv n o=true/\b (i+1)=(b i).put o.dst (vs i)/\r.lo=(hs i).length/\r.hi=(hs (i+1)).length:=by
 intro l T h a c d k
 induction k with
 | nil=>exact⟨rfl,λ_=>_,λ_=>_,λ_=>.any,rfl,rfl,rfl,rfl,λi o r h=>by simp at h⟩
 | @cons o rest T c h h1 d v rd wr call a e hd _ m =>
  obtain⟨hl,b,hs,vs,g,j,p,q,hi⟩:=m
  refine⟨by simp[hl],λi=>match i with | 0=>T | i+1=>b i,λi=>match i with | 0=>h | i+1=>hs i,λi=>match i with | 0=>v | i+1=>vs i,rfl,rfl,p,q,?_⟩
  intro i s r f hr
  cases i with
  | zero =>
   simp at f hr
   subst f hr
   exact⟨by simpa only [g,j] using e,hd,by simp only[g],rfl,by simp only[j]⟩
  | succ i =>
   exact hi i s r (by simpa using f) (by simpa using hr)
theorem wE {P:Program} {n:Nat} {all:List Oper} {o:Oper} {T:Env} {h a:aG} {v:V} {rd wr:List Nat} {call:Bool} (st:er P n all o T h v a rd wr call):h.length<=a.length:=by
 cases st with
 | skip=>exact aaD _
 | op _ _=>rw[iM];exact Nat.le_add_right _ _
 | kD _ _ _=>exact aaD _
 | iq _ _ _ _ _ _=>exact aaD _
 | call _ _ _ _ b _ _=>exact b.1
theorem uh {P:Program} {n:Nat} {all:List Oper} {o:Oper} {T:Env} {h c:aG} {v:V} {rd wr:List Nat} {call:Bool} (st:er P n all o T h v c rd wr call) {id:Nat} (a:id < h.length) (hw:¬ id∈wr):c.view id=h.view id:=by
 cases st with
 | skip=>rfl
 | op f b =>
  rename_i eff
  rw[nq (λid a=>(oJ b id a).1)]
  cases eff with
  | none=>rfl
  | new o=>simp only[bH.view,View.set];rw[aat (by omega)]
  | fQ k o=>simp only[bH.view,View.set];rw[aat (λe=>hw (by simp[bH.wr,e]))]
  | eF k o=>simp only[bH.view,View.set];rw[aat (by omega),aat (λe=>hw (by simp[bH.wr,e]))]
 | kD _ _ _=>rfl
 | iq _ _ _ _ _ _=>rfl
 | call _ _ _ _ _ d _=>exact d id a hw
theorem yT {P:Program} {n:Nat} {all:List Oper} {o:Oper} {T:Env} {h b:aG} {v:V} {rd wr:List Nat} {call:Bool} (st:er P n all o T h v b rd wr call) {id:Nat} (hw:id∈wr):id < h.length/\(call=false->id∈rd):=by
 cases st with
 | skip=>simp at hw
 | op c a=>exact⟨jw (oJ a id hw).1,λ_=>(oJ a id hw).2⟩
 | kD _ _ _=>simp at hw
 | iq _ _ _ _ _ _=>simp at hw
 | call _ _ _ _ _ _ hl=>exact⟨hl id hw,λh=>by simp at h⟩
theorem K3 {H:View} {x:V} {xs:List (List V)} {rd:List Nat} (h:bQ H x=some (xs,rd)):∀ id,id∈rd->H id≠.dead:=by
 intro id a
 unfold bQ at h
 split at h
 .simp at h;rw[h.2] at a;simp at a
 .simp at h;rw[h.2] at a;simp at a
 .simp at h;rw[h.2] at a;simp at a
 .simp at h;rw[h.2] at a;simp at a
 .split at h
  .rename_i hH
   split at h
   .simp at h;rw[<-h.2] at a;simp at a;subst a;rw[hH];simp
   .simp at h
  .simp at h
 .simp at h;rw[h.2] at a;simp at a
 .simp at h
theorem Yz {P:Program} {o:Oper} {T:Env} {H:View} {n:Nat} {v:V} {eff:bH} {rd:List Nat} (h:cD P o T H n=some (v,eff,rd)):∀ id,id∈rd->H id≠.dead:=by
 have b:∀ {v':V} {e:bH},some (v',e,([]:List Nat))=some (v,eff,rd)->∀ id,id∈rd->H id≠.dead:=by
  intro v' e heq id c
  simp only[aau,aay] at heq
  rw[<-heq.2.2] at c;simp at c
 have one:∀ {k:Nat} {v':V} {e:bH},H k≠.dead->some (v',e,[k])=some (v,eff,rd)->∀ id,id∈rd->H id≠.dead:=by
  intro k v' e hk heq id c
  simp only[aau,aay] at heq
  rw[<-heq.2.2] at c;simp at c;subst c;exact hk
 have mp:∀ {α:Type} {x:Option α} {f:α->V},(x.map λa=>(f a,bH.none,([]:List Nat)))=some (v,eff,rd)->∀ id,id∈rd->H id≠.dead:=by
  intro α x f h
  simp only[aaF] at h
  obtain⟨a,_,h⟩:=h
  exact b (abk some h)
 have j:∀ {α:Type} {x:Option α} {f:α->V} {k:Nat},H k≠.dead->(x.map λa=>(f a,bH.none,[k]))=some (v,eff,rd)->∀ id,id∈rd->H id≠.dead:=by
  intro α x f k hk h
  simp only[aaF] at h
  obtain⟨a,_,h⟩:=h
  exact one hk (abk some h)
 have pu:eo P o T=some (v,eff,rd)->∀ id,id∈rd->H id≠.dead:=by
  intro h
  unfold eo at h
  repeat' (split at h)
  all_goals first | exact b h | (simp at h;done)
 have l:∀ {cs:List V},nR cs n=some (v,eff,rd)->∀ id,id∈rd->H id≠.dead:=by
  intro cs h
  unfold nR at h
  split at h
  .exact b h
  .simp at h
 have g:∀ {x:V} {xs:List (List V)} {r:List Nat} {v':V} {e:bH},bQ H x=some (xs,r)->some (v',e,r)=some (v,eff,rd)->∀ id,id∈rd->H id≠.dead:=by
  intro x xs r v' e he heq id c
  simp only[aau,aay] at heq
  rw[<-heq.2.2] at c
  exact K3 he id c
 have i:∀ {x:V} {xs:List (List V)} {r:List Nat} {v':V} {e:bH} {k:Nat},bQ H x=some (xs,r)->H k≠.dead->some (v',e,k :: r)=some (v,eff,rd)->∀ id,id∈rd->H id≠.dead:=by
  intro x xs r v' e k he hk heq id c
  simp only[aau,aay] at heq
  rw[<-heq.2.2] at c
  rcases aaI.1 c with h1 | h1
  .subst h1;exact hk
  .exact K3 he id h1
 unfold cD at h
 split at h
 .exact b h
 .exact b h
 .split at h
  .exact b h
  .simp at h
 .split at h
  .exact l h
  .simp at h
 .exact l h
 .unfold x5 at h
  split at h
  .split at h
   .exact mp h
   .simp at h
  .simp at h
 .unfold ju at h
  repeat' (split at h)
  all_goals first | exact b h | (simp at h;done)
 .unfold oz at h
  split at h
  .split at h
   .rename_i hH
    split at h
    .exact j (by rw[hH];simp) h
    .simp at h
   .simp at h
  .exact mp h
  .simp at h
 .unfold td at h
  split at h
  .split at h
   .rename_i hH
    split at h
    .exact one (by rw[hH];simp) h
    .simp at h
   .simp at h
  .simp at h
 .repeat' (split at h)
  all_goals first | exact b h | (simp at h;done)
 .unfold na at h
  repeat' (split at h)
  all_goals first | exact b h | (simp at h;done)
 .unfold yD at h
  split at h
  .exact mp h
  .simp at h
 .unfold nC at h
  repeat' (split at h)
  all_goals first | exact b h | (simp at h;done)
 .split at h
  .exact pu h
  .unfold uQ at h
   repeat' (split at h)
   all_goals first | exact b h | (simp at h;done)
 .unfold ni at h
  repeat' (split at h)
  all_goals first | exact b h | (simp at h;done)
 .repeat' (split at h)
  all_goals first | exact b h | (simp at h;done)
 .exact b h
 .unfold gM at h
  simp only at h
  split at h
  .simp at h
  .split at h
   .simp at h
   .split at h
    .split at h
     .rename_i hH
      repeat' (split at h)
      all_goals first | exact one (by rw[hH];simp) h | (simp at h;done)
     .simp at h
    .simp at h
 .unfold gj at h
  split at h
  .split at h
   .rename_i hH
    repeat' (split at h)
    all_goals first | exact one (by rw[hH];simp) h | (simp at h;done)
   .simp at h
  .simp at h
 .unfold gj at h
  split at h
  .split at h
   .rename_i hH
    repeat' (split at h)
    all_goals first | exact one (by rw[hH];simp) h | (simp at h;done)
   .simp at h
  .simp at h
 .unfold e9 at h
  split at h
  .split at h
   .rename_i hH
    repeat' (split at h)
    all_goals first | exact one (by rw[hH];simp) h | (simp at h;done)
   .simp at h
  .simp at h
 .unfold lI at h
  split at h
  .split at h
   .rename_i hH
    repeat' (split at h)
    all_goals first | exact one (by rw[hH];simp) h | (simp at h;done)
   .simp at h
  .simp at h
 .repeat' (split at h)
  all_goals first | exact b h | (simp at h;done)
 .repeat' (split at h)
  all_goals first | exact b h | (simp at h;done)
 .unfold F5 at h
  split at h
  .split at h
   .rename_i hH
    split at h
    .exact one (by rw[hH];simp) h
    .exact one (by rw[hH];simp) h
   .simp at h
  .simp at h
 .split at h
  .unfold oM at h
   split at h
   .split at h
    .split at h
     .rename_i he _
      simp only[aaF] at h
      obtain⟨a,_,h⟩:=h
      exact g he (abk some h)
     .simp at h
    .simp at h
   .repeat' (split at h)
    all_goals first | exact b h | (simp at h;done)
   .split at h
    .split at h
     .split at h
      .rename_i hH
       exact one (by rw[hH];simp) h
      .simp at h
     .simp at h
    .simp at h
   .simp at h
  .exact pu h
 .split at h
  .split at h
   .unfold xh at h
    split at h
    .exact mp h
    .split at h
     .split at h
      .rename_i hH
       exact one (by rw[hH];simp) h
      .simp at h
     .exact b h
     .simp at h
    .repeat' (split at h)
     all_goals first | exact b h | (simp at h;done)
    .exact b h
    .simp at h
   .simp at h
  .split at h
   .unfold oY at h
    split at h
    .rename_i d
     split at h
     .simp at h
     .split at h
      .split at h
       all_goals first | exact b h | (simp at h;done)
      .split at h
       .simp at h
       .split at h
        .split at h
         .exact g d h
         .simp at h
        .split at h
         .rename_i hH
          split at h
          .exact i d (by rw[hH];simp) h
          .simp at h
         .simp at h
        .simp at h
    .simp at h
   .split at h
    .unfold zS at h
     split at h
     .split at h
      .split at h
       .exact b h
       .split at h
        .exact b h
        .simp at h
      .simp at h
     .simp at h
    .simp at h
  .split at h
   .unfold JP at h
    split at h
    .exact b h
    .simp at h
   .simp at h
  .split at h
   .unfold yZ at h
    split at h
    .rename_i d _
     split at h
     .simp at h
     .split at h
      .exact b h
      .split at h
       .split at h
        .rename_i hH
         split at h
         .exact i d (by rw[hH];simp) h
         .simp at h
        .simp at h
       .simp at h
    .simp at h
   .simp at h
  .split at h
   .unfold xP at h
    split at h
    .split at h
     .rename_i hH
      repeat' (split at h)
      all_goals first | exact one (by rw[hH];simp) h | (simp at h;done)
     .simp at h
    .simp at h
   .simp at h
  .split at h
   .unfold xT at h
    split at h
    .split at h
     .exact b h
     .split at h
      .split at h
       .rename_i hH
        split at h
        .exact one (by rw[hH];simp) h
        .simp at h
       .simp at h
      .simp at h
    .simp at h
   .simp at h
  .exact pu h
  .exact pu h
  .exact pu h
  .exact pu h
  .exact pu h
  .simp at h
 .split at h
  .split at h
   .exact b h
   .exact b h
   .simp at h
  .exact pu h
 .exact pu h
 .exact pu h
 .simp at h
theorem DT {P:Program} {n:Nat} {all:List Oper} {o:Oper} {T:Env} {h b:aG} {v:V} {rd wr:List Nat} {call:Bool} (st:er P n all o T h v b rd wr call) {id:Nat} (hw:id∈rd):id < h.length:=by
 cases st with
 | skip=>simp at hw
 | op c a=>exact jw (Yz a id hw)
 | kD _ _ _=>simp at hw
 | iq _ _ _ _ _ _=>simp at hw
 | call _ _ _ _ _ _ hl=>simp at hw
structure sQ (n:Nat) (Z:Nat->Prop) (μ:Mu) (F:View) (T:Env) (h:aG) (a:Act) (w:World):Prop where
 defers:a.defers=[]
 size:a.tmps.size=n
 tm:∀ t,aB Z μ w.heap (T t) (a.tmps.getD t undef)
 hr:jj Z μ w.heap (cat h F)
def dw (P:Program) (n:Nat) (c:Code) (T:Env) (h:aG) (e:Exit) (T':Env) (h':aG):Prop :=
 h.length<=h'.length/\∀ Z μ F a w,(∀ id,h.length<=id->id < h'.length->μ id=none)->sQ n Z μ F T h a w ->
  c.wp P (λe' a' w'=>e'=e/\∃ Z' μ',sQ n Z' μ' F T' h' a' w'/\Ext Z μ w h.length Z' μ' w'/\(∀ id,id < h.length∨h'.length<=id->μ' id=μ id)) a w
section
variable {P:Program} {n:Nat} {all:List Oper}
theorem My {Z:Nat->Prop} {μ:Mu} {w:World} {T:Env} {a:Act} {o:Oper} (h:∀ t,t∈tmpsOf o->aB Z μ w.heap (T t) (a.tmps.getD t undef)):∀ x∈o.op.operands,aB Z μ w.heap (ev T x) (a.eval x):=by
 intro x b
 cases x with
 | tmp t=>exact h t (by simp only[tmpsOf,abJ];exact⟨.tmp t,by simpa using b,rfl⟩)
 | const v=>exact iH v
 | global g=>exact .any _
 | func f=>exact .fn f [] [] #[] #[] rfl rfl (λi hi=>by simp at hi) (λi hi=>by simp at hi)
theorem NP {hs:Nat->aG} {N:Nat} (h:∀ i,i < N->(hs i).length<=(hs (i+1)).length):∀ i j,i<=j->j<=N->(hs i).length<=(hs j).length:=by
 intro i j a
 induction a with
 | refl=>intro _;exact aaD _
 | step _ b=>intro c;exact abp (b (by omega)) (h _ (by omega))
theorem Cz {a:Nat->Env} {vs:Nat->V} {N t:Nat} (g:∀ i o,all[i]?=some o->a (i+1)=(a i).put o.dst (vs i)) (n:N=all.length):∀ i j,i<=j->j<=N->(∀ k o,i<=k->k < j->all[k]?=some o->o.dst≠some t)->a j t=a i t:=by
 intro i j c
 induction c with
 | refl=>intro _ _;rfl
 | step hle h =>
  rename_i m
  intro p b
  have hm:m < all.length:=by omega
  rw[g m all[m] (aar hm)]
  have hd:=b m all[m] hle (by omega) (aar hm)
  have:(Env.put (a m) (all[m]).dst (vs m)) t=a m t:=by
   cases f:(all[m]).dst with
   | none=>rfl
   | some d =>
    simp only[Env.put]
    rw[aat (λe=>hd (by rw[f,e]))]
  rw[this]
  exact h (by omega) (λk o h1 q l=>b k o h1 (by omega) l)
def D2 (P:Program) (n:Nat) (all:List Oper) (recs:List Rec) (Ts:Nat->Env) (hs:Nat->aG) (vs:Nat->V):Prop:=∀ i o r,all[i]?=some o->recs[i]?=some r ->
 er P n all o (Ts i) (hs i) (vs i) (hs (i+1)) r.rd r.wr r.call/\uv n o=true/\Ts (i+1)=(Ts i).put o.dst (vs i)/\r.lo=(hs i).length/\r.hi=(hs (i+1)).length
structure Bears (P:Program) (n:Nat) (all:List Oper) (Ts:Nat->Env) (hs:Nat->aG) (vs:Nat->V) (i k:Nat) (o:Oper) (a b:Rec):Prop where
 wr:a.wr=[]
 call:a.call=false
 len:a.lo=a.hi
 step:∀ g:aG,g.length=(hs i).length->(∀ id,id < (hs i).length->g.view id=if id∈b.wr then (hs (k+1)).view id else (hs i).view id)->er P n all o (Ts i) g (vs i) g a.rd [] false
def PD (P:Program) (n:Nat) (all:List Oper) (recs:List Rec) (T T':Env) (h:aG):Prop:=∀ Ts hs vs,Ts 0=T->hs 0=h->Ts all.length=T'->recs.length=all.length->D2 P n all recs Ts hs vs->∀ i,∃ tol:Option Nat,
 (∀ k a b,i < k->recs[i]?=some a->recs[k]?=some b->ordered (gJ all []) i k=false->tol≠some k->qN a b) /\
 ∀ k a b o,tol=some k->recs[i]?=some a->recs[k]?=some b->all[i]?=some o->i < k/\Bears P n all Ts hs vs i k o a b
theorem xm.Zk {c:List Rec} {T d:Env} {hp:aG} (h:xm all c):PD P n all c T d hp:=λ_ _ _ _ _ _ _ _ i=>⟨none,λk a b h1 e f g _=>h i k a b h1 e f g,λk a b o h1=>by simp at h1⟩
theorem zD (hm:P.follows .mixedOrders=true) {id:Nat} {T T':Env} {h h':aG} {z:List Rec} (tr:Tr P n all all T h z T' h') (ht:od all=true) (fm:PD P n all z T T' h) :
  dw P n (.region id all.toArray true) T h .normal T' h':=by
 obtain⟨fs,Ts,hs,vs,eg,a7,ei,a8,D⟩:=HX all T h z T' h' tr
 obtain⟨S,U⟩:=Mz ht
 have hc:=fm Ts hs vs eg a7 ei fs D
 have I:∀ i,i < all.length->∃ o r,all[i]?=some o/\z[i]?=some r:=λi hi=>⟨all[i],z[i]'(by omega),aar hi,aar (by omega)⟩
 have cN:∀ i o,all[i]?=some o->i < all.length:=λi o hi=>nD hi
 have hT:∀ i o,all[i]?=some o->Ts (i+1)=(Ts i).put o.dst (vs i):=λi o hi=>by
  obtain⟨o',r,h1,v⟩:=I i (cN i o hi)
  rw[hi] at h1;simp at h1;subst h1
  exact(D i o r hi v).2.2.1
 have b0:∀ i,i < all.length->(hs i).length<=(hs (i+1)).length:=λi hi=>by
  obtain⟨o,r,h1,v⟩:=I i hi
  exact wE (D i o r h1 v).1
 have f:=NP b0
 have hle:h.length<=h'.length:=by rw[<-a7,<-a8];exact f _ _ (ab5 _) (aaD _)
 have V:∀ i j id,i<=j->j<=all.length->id < (hs i).length->(∀ k r,i<=k->k < j->z[k]?=some r->¬ id∈r.wr)->(hs j).view id=(hs i).view id:=by
  intro i j id ft
  induction ft with
  | refl=>intro _ _ _;rfl
  | step hle ih =>
   rename_i m
   intro hj s b1
   obtain⟨o,r,h1,v⟩:=I m (by omega)
   rw[uh (D m o r h1 v).1 (aa3 s (f _ _ hle (by omega))) (b1 m r hle (by omega) v)]
   exact ih (by omega) s (λk r h1 v M=>b1 k r h1 (by omega) M)
 refine⟨hle,λZ μ F a w b2 an=>wp_region_any hm ?_⟩
 let Inv (listed:Array Bool) (G:Act) (w':World):Prop:=∃ X μ' H,G.defers=[]/\G.tmps.size=n /\
  (∀ t,∃ E,E<=all.length/\aB X μ' w'.heap (Ts E t) (G.tmps.getD t undef)/\∀ k o,all[k]?=some o->o.dst=some t->(listed.getD k false=true↔k < E)) /\
  jj X μ' w'.heap H /\
  (∀ id,μ' id≠none->(∃ E,E<=all.length/\id < (hs E).length/\H id=(hs E).view id/\∀ k r,z[k]?=some r->id∈r.wr->(listed.getD k false=true↔k < E))∨(h'.length<=id/\H id=F id)) /\
  (∀ k id,k < all.length->(hs k).length<=id->id < (hs (k+1)).length->μ' id≠none->listed.getD k false=true) /\
  (∀ k o,all[k]?=some o->listed.getD k false=true->∀ e∈o.after.toList,Region.binds .any e=true->listed.getD e.on false=true) /\
  Ext Z μ w h.length X μ' w'/\(∀ id,id < h.length∨h'.length<=id->μ' id=μ id)/\listed.size=all.length
 have key:∀ fuel listed G w',Inv listed G w'->((List.range all.length).countP λi=>!listed.getD i false)<=fuel ->
   wpAny P .any all.toArray (λe' G w'=>e'=.normal/\∃ X μ',sQ n X μ' F T' h' G w'/\Ext Z μ w h.length X μ' w'/\(∀ id,id < h.length∨h'.length<=id->μ' id=μ id)) fuel listed G w':=by
  have ready_iff:∀ (listed:Array Bool),listed.size=all.length->∀ i,i∈Region.ready .any all.toArray listed↔(∃ o,all[i]?=some o/\listed.getD i false=false/\∀ e∈o.after.toList,Region.binds .any e=true->listed.getD e.on false=true):=by
   intro listed W i
   simp only[Region.ready,ab2,abj,abl,abw,aaB,acF]
   constructor
   .rintro⟨hi,h1,v⟩
    rw[aar hi] at v
    simp only[aaz,aaL] at v
    refine⟨all[i],aar hi,?_,λe he hb=>?_⟩
    .have:i < listed.size:=by omega
     simp only[aaH,aaP this,aaL] at h1 ⊢
     exact h1
    .have:=Array.all_eq_true_iff_forall_mem.1 v e (by simpa using he)
     simpa [hb] using this
   .rintro⟨o,Q,h1,v⟩
    have hi:=cN i o Q
    refine⟨hi,?_,?_⟩
    .have:i < listed.size:=by omega
     simp only[aaH,aaP this,aaL] at h1 ⊢
     exact h1
    .rw[Q]
     simp only[aaz,aaL]
     rw[Array.all_eq_true_iff_forall_mem]
     intro e he
     cases hb:Region.binds .any e with
     | false=>rfl
     | true=>simpa using v e (by simpa using he) hb
  have b3:∀ (listed:Array Bool),listed.size=all.length->Region.ready .any all.toArray listed=[]->∀ i,i < all.length->listed.getD i false=true:=by
   intro listed W b4 i
   induction i using Nat.strongRecOn with
   | _ i ih =>
    intro hi
    cases hl:listed.getD i false with
    | true=>rfl
    | false =>
     exfalso
     have:i∈Region.ready .any all.toArray listed:=(ready_iff listed W i).2 ⟨all[i],aar hi,hl,λe he hb=>ih e.on (S i all[i] (aar hi) e he hb) (by have:=S i all[i] (aar hi) e he hb;omega)⟩
     rw[b4] at this;simp at this
  have finish:∀ listed G w',Inv listed G w'->(∀ i,i < all.length->listed.getD i false=true) ->
    ∃ X μ',sQ n X μ' F T' h' G w'/\Ext Z μ w h.length X μ' w'/\(∀ id,id < h.length∨h'.length<=id->μ' id=μ id):=by
   rintro listed G w' ⟨X,μ',H,hd,W,cS,hr,b5,b7,cV,hex,b8,N⟩ aq
   refine⟨X,μ',⟨hd,W,λt=>?_,hr.congr λid s=>?_⟩,hex,b8⟩
   .obtain⟨E,A,hv,hw⟩:=cS t
    have:=Cz (t:=t) hT rfl E all.length A (aaD _) (λk o h1 v M Y=>by
     have:=(hw k o M Y).1 (aq k v);omega)
    rw[<-ei,this];exact hv
   .unfold cat
    rcases b5 id s with ⟨E,A,hl,hH,hw⟩ | ⟨hl,hH⟩
    .have:=V E all.length id A (aaD _) hl (λk r h1 v M Y=>by
      have:=(hw k r M Y).1 (aq k v);omega)
     have fx:id < h'.length:=by rw[<-a8];exact aa3 hl (f _ _ A (aaD _))
     rw[aaw fx,hH,<-this,a8]
    .rw[aat (by omega),hH]
  intro fuel
  induction fuel with
  | zero =>
   intro listed G w' hinv en
   have N:listed.size=all.length:=by obtain⟨_,_,_,_,_,_,_,_,_,_,_,_,N⟩:=hinv;exact N
   have aq:∀ i,i < all.length->listed.getD i false=true:=by
    intro i hi
    have h0:(List.range all.length).countP (λi=>!listed.getD i false)=0:=by omega
    rw[List.countP_eq_zero] at h0
    have:=h0 i (by simpa using hi)
    simpa using this
   refine⟨?_,rfl,finish listed G w' hinv aq⟩
   apply List.eq_nil_iff_forall_not_mem.2
   intro i hi
   obtain⟨o,Q,h1,_⟩:=(ready_iff listed N i).1 hi
   rw[aq i (cN i o Q)] at h1;simp at h1
  | succ fuel ih =>
   intro listed G w' hinv en
   have N:listed.size=all.length:=by obtain⟨_,_,_,_,_,_,_,_,_,_,_,_,N⟩:=hinv;exact N
   refine⟨λb4=>⟨rfl,finish listed G w' hinv (b3 listed N b4)⟩,λi hi=>?_⟩
   obtain⟨o,Q,eH,b9⟩:=(ready_iff listed N i).1 hi
   have J:=cN i o Q
   obtain⟨_,r,_,B⟩:=I i J
   obtain⟨ca,cc,_,e0,e1⟩:=D i o r Q B
   obtain⟨X,μ',H,hd,W,cS,hr,b5,b7,cV,hex,b8,_⟩:=hinv
   have bl:¬ (listed.getD i false=true):=by rw[eH];simp
   have before:∀ j,ordered (gJ all []) j i=true->listed.getD j false=true:=λj hj=>Ln S cV Q b9 hj
   have behind:∀ k ok,all[k]?=some ok->ordered (gJ all []) i k=true->listed.getD k false=true->False:=λk ok hk c R=>bl (Ah (L:=λk=>listed.getD k false=true) S cV k ok i hk R c)
   have slot:∀ t,t∈pZ all o->aB X μ' w'.heap (Ts i t) (G.tmps.getD t undef):=by
    intro t cf
    obtain⟨E,A,hv,hw⟩:=cS t
    rcases Nat.le_total E i with bb | bb
    .have:=Cz (t:=t) hT rfl E i bb (by omega) (λk ok h1 v M Y=>by
      have ar:=(hw k ok M Y).1
      cases c:ordered (gJ all []) k i with
      | true=>have:=ar (before k c);omega
      | false=>exact(U k i ok o v M Q c).1 t Y cf)
     rw[this];exact hv
    .have:=Cz (t:=t) hT rfl i E bb A (λk ok h1 v M Y=>by
      have ar:=(hw k ok M Y).2 v
      rcases Nat.eq_or_lt_of_le h1 with u | u
      .subst u;exact bl ar
      .cases c:ordered (gJ all []) i k with
       | true=>exact behind k ok M c ar
       | false=>exact(U i k o ok u Q M c).2 t Y cf)
     rw[<-this];exact hv
   obtain⟨cg,e2,c9⟩:=hc i
   have ch:∀ id,id < (hs i).length->μ' id≠none->(∀ k y,z[k]?=some y->k≠i->id∈y.wr->(listed.getD k false=true↔k < i))->H id=(hs i).view id:=by
    intro id s hm hk
    rcases b5 id hm with ⟨E,A,hl,hH,hw⟩ | ⟨hl,_⟩
    .rw[hH]
     rcases Nat.le_total E i with bb | bb
     .exact(V E i id bb (by omega) hl (λk y h1 v M Y=>by
       have:=(hw k y M Y).1 ((hk k y M (by omega) Y).2 v);omega)).symm
     .exact V i E id bb A s (λk y h1 v M Y=>by
       have ar:=(hw k y M Y).2 v
       rcases Nat.eq_or_lt_of_le h1 with u | u
       .subst u;exact bl ar
       .have:=(hk k y M (by omega) Y).1 ar;omega)
    .have:(hs i).length<=h'.length:=by rw[<-a8];exact f _ _ (by omega) (aaD _)
     omega
   have place:∀ id,(id∈r.rd∨id∈r.wr∨r.call=true)->∀ k y,z[k]?=some y->k≠i->id∈y.wr->(cg=some k->listed.getD k false=false)->(listed.getD k false=true↔k < i):=by
    intro id s k y hk bd hw e3
    have fz:id∈r.wr->r.call=false->id∈r.rd:=λh1 v=>(yT ca h1).2 v
    have cj:id∈r.rd∨r.call=true:=by
     rcases s with h1 | h1 | h1
     .exact .inl h1
     .cases e4:r.call with
      | true=>exact .inr rfl
      | false=>exact .inl (fz h1 e4)
     .exact .inr h1
    have ck:y.wr≠[]:=λe=>by rw[e] at hw;simp at hw
    obtain⟨ok,_,cu,_⟩:=I k (by have:=nD hk;omega)
    rcases Nat.lt_or_gt_of_ne bd with bn | bn
    .refine⟨λ_=>bn,λ_=>?_⟩
     cases c:ordered (gJ all []) k i with
     | true=>exact before k c
     | false =>
      obtain⟨tk,fB,fS⟩:=hc k
      by_cases e5:tk=some i
      .exact absurd (fS i y r ok e5 hk B cu).2.wr ck
      .have nc:=fB i y r bn hk B c e5
       rcases cj with h1 | h1
       .exact absurd h1 (nc.Zf id hw)
       .exact absurd (nc.call2 h1) ck
    .refine⟨λR=>?_,λh6=>by omega⟩
     exfalso
     cases c:ordered (gJ all []) i k with
     | true=>exact behind k ok cu c R
     | false =>
      by_cases et:cg=some k
      .rw[e3 et] at R;simp at R
      .have nc:=e2 k r y bn B hk c et
       rcases cj with h1 | h1
       .exact absurd h1 (nc.Yc id hw)
       .exact absurd (nc.YP h1) ck
   have closing:∀ x w1 Z1 a1,aB Z1 a1 w1.heap (vs i) x->jj Z1 a1 w1.heap (kp H (hs i) (hs (i+1)) r.wr)->Ext X μ' w' (hs i).length Z1 a1 w1->(∀ id,id < (hs i).length∨(hs (i+1)).length<=id->a1 id=μ' id) ->
     wpAny P .any all.toArray (λe' G w'=>e'=.normal/\∃ X μ',sQ n X μ' F T' h' G w'/\Ext Z μ w h.length X μ' w'/\(∀ id,id < h.length∨h'.length<=id->μ' id=μ id)) fuel (listed.setIfInBounds i true) (G.put o.dst x) w1:=by
    intro x w1 Z1 a1 da db bq K
    have O:∀ k,(listed.setIfInBounds i true).getD k false=if k=i then true else listed.getD k false:=by
     intro k
     simp only[aaH,abx]
     by_cases e:i=k
     .subst e;rw[aaw rfl,aaw rfl,aaw (by omega)];rfl
     .rw[aat e,aat (λq=>e q.symm)]
    have e6:(listed.setIfInBounds i true).size=all.length:=by simpa using N
    refine ih _ _ _ ⟨Z1,a1,kp H (hs i) (hs (i+1)) r.wr,?_,?_,?_,db,?_,?_,?_,?_,?_,e6⟩ ?_
    .unfold Act.put;split <;> exact hd
    .unfold Act.put;split <;> simp[W]
    .intro t
     by_cases cv:o.dst=some t
     .refine⟨i+1,J,?_,λk ok hk bs=>?_⟩
      .rw[hT i o Q,cv]
       have e7:t < G.tmps.size:=by unfold uv at cc;rw[cv] at cc;rw[W];simpa using cc
       simp only[Env.put,Act.put,if_true,aaH,abx,e7,aaL]
       exact da
      .rw[O]
       by_cases e:k=i
       .subst e;simp
       .rw[aat e]
        have cf:t∈pZ all o:=by simp[pZ,cv]
        rcases Nat.lt_or_gt_of_ne e with u | u
        .cases c:ordered (gJ all []) k i with
         | true=>exact⟨λ_=>by omega,λ_=>before k c⟩
         | false=>exact absurd cf ((U k i ok o u hk Q c).1 t bs)
        .cases c:ordered (gJ all []) i k with
         | true=>exact⟨λR=>(behind k ok hk c R).elim,λh6=>by omega⟩
         | false=>exact absurd cf ((U i k o ok u Q hk c).2 t bs)
     .obtain⟨E,A,hv,hw⟩:=cS t
      refine⟨E,A,?_,λk ok hk bs=>?_⟩
      .have:(G.put o.dst x).tmps.getD t undef=G.tmps.getD t undef:=by
        unfold Act.put
        split
        .rename_i d dc
         simp only[aaH,abx]
         rw[aat (λe=>cv (by rw[dc,e]))]
        .rfl
       rw[this];exact hv.mono bq.mono
      .rw[O,aat (λe=>by subst e;rw[Q] at hk;simp at hk;subst hk;exact cv bs)]
       exact hw k ok hk bs
    .intro id dj
     unfold kp
     by_cases bx:id∈r.wr∨((hs i).length<=id/\id < (hs (i+1)).length)
     .left
      have a6:id < (hs (i+1)).length:=by
       rcases bx with u | u
       .exact aa3 (yT ca u).1 (b0 i J)
       .exact u.2
      refine⟨i+1,J,a6,by rw[aaw bx],λk y hk C=>?_⟩
      rw[O]
      by_cases e:k=i
      .subst e;simp
      .rw[aat e]
       obtain⟨ok,_,cu,_⟩:=I k (by have:=nD hk;omega)
       rcases bx with u | u
       .have hp:=place id (.inr (.inl u)) k y hk e C (λet=>by
         have:=(c9 k r y o et B hk Q).2.wr
         rw[this] at u;simp at u)
        exact⟨λR=>by have:=hp.1 R;omega,λh7=>hp.2 (by omega)⟩
       .obtain⟨cA,_⟩:=D k ok y cu hk
        have ar:=(yT cA C).1
        have gd:i < k:=by
         rcases aaT i k with h6 | h6
         .exact h6
         .have:=f k i h6 (by omega);omega
        refine⟨λR=>?_,λh7=>by omega⟩
        exfalso
        cases c:ordered (gJ all []) i k with
        | true=>exact behind k ok cu c R
        | false =>
         by_cases et:cg=some k
         .have:=(c9 k r y o et B hk Q).2.len
          omega
         .exact(e2 k r y gd B hk c et).new id C (by rw[e0,e1];exact u)
     .rw[aat bx]
      have dm:μ' id≠none:=by
       rw[<-K id ?_]
       .exact dj
       .rcases aaT id (hs i).length with h6 | h6
        .exact .inl h6
        .right
         rcases aaT id (hs (i+1)).length with h7 | h7
         .exact absurd (.inr ⟨h6,h7⟩) bx
         .exact h7
      rcases b5 id dm with ⟨E,A,hl,hH,hw⟩ | u
      .refine .inl ⟨E,A,hl,hH,λk y hk C=>?_⟩
       rw[O,aat (λe=>by subst e;rw[B] at hk;simp at hk;subst hk;exact bx (.inl C))]
       exact hw k y hk C
      .exact .inr u
    .intro k id hk h1 v dj
     rw[O]
     by_cases e:k=i
     .rw[aaw e]
     .rw[aat e]
      refine b7 k id hk h1 v ?_
      rw[<-K id ?_]
      .exact dj
      .rcases Nat.lt_or_gt_of_ne e with h6 | h6
       .left;exact aa3 v (f _ _ h6 (by omega))
       .right;exact abp (f _ _ h6 (by omega)) h1
    .intro k ok hk R e he hb
     rw[O] at R ⊢
     by_cases ek:k=i
     .subst ek
      rw[Q] at hk;simp at hk;subst hk
      split
      .rfl
      .exact b9 e he hb
     .rw[aat ek] at R
      split
      .rfl
      .exact cV k ok hk R e he hb
    .refine hex.trans bq ?_ an.hr.lt
     rw[<-a7];exact f _ _ (ab5 _) (by omega)
    .intro id s
     rw[K id,b8 id s]
     rcases s with u | u
     .left;rw[<-a7] at u;exact aa3 u (f _ _ (ab5 _) (by omega))
     .right;rw[<-a8] at u;exact abp (f _ _ J (aaD _)) u
    .have:(List.range all.length).countP (λk=>!(listed.setIfInBounds i true).getD k false) < (List.range all.length).countP (λk=>!listed.getD k false):=by
      have gen:∀ (l:List Nat),i∈l->l.Nodup->l.countP (λk=>!(listed.setIfInBounds i true).getD k false) < l.countP (λk=>!listed.getD k false):=by
       intro l
       induction l with
       | nil=>intro h;simp at h
       | cons x l gk =>
        intro e8 ds
        simp only[abo] at ds
        by_cases e:x=i
        .subst e
         have dv:l.countP (λk=>!(listed.setIfInBounds x true).getD k false)=l.countP (λk=>!listed.getD k false):=by
          apply List.countP_congr
          intro k hk
          have gl:k≠x:=λq=>ds.1 (by rw[<-q];exact hk)
          rw[O,aat gl]
         have h1:(listed.setIfInBounds x true).getD x false=true:=by rw[O,aaw rfl]
         rw[List.countP_cons,List.countP_cons,dv,h1,eH]
         simp
        .have dy:i∈l:=by
          rcases aaI.1 e8 with u | u
          .exact absurd u.symm e
          .exact u
         have:=gk dy ds.2
         simp only[List.countP_cons,O,aat e]
         simp only[O] at this
         omega
      exact gen _ (by simpa using J) List.nodup_range
     omega
   have br:∀ j want d,o.guard=some (j,want)->(all[j]?).bind (·.dst)=some d->aB X μ' w'.heap (Ts i d) (G.tmps.getD d undef):=λj want d hg dc=>slot d (by
    simp only[pZ,aaZ];right;rw[hg];simp[dc])
   have c5:=My (o:=o) λt gr=>slot t (by
    simp only[pZ,aaZ];left;right;exact gr)
   by_cases fb:∃ k0,cg=some k0/\listed.getD k0 false=true
   .obtain⟨k0,ea,ff⟩:=fb
    have ha:k0 < all.length:=by
     rcases aaT k0 all.length with u | u
     .exact u
     .simp[aaH,ab0 (show listed.size<=k0 by omega)] at ff
    obtain⟨_,b,_,hb⟩:=I k0 ha
    obtain⟨hn,hB⟩:=c9 k0 r b o ea B hb Q
    let g:aG:=(List.range (hs i).length).map λid=>if id∈b.wr then (hs (k0+1)).view id else (hs i).view id
    have fl:∀ id,id < (hs i).length->aG.view g id=if id∈b.wr then (hs (k0+1)).view id else (hs i).view id:=by
     intro id s
     simp only[g,aG.view,aaq,aav,abS s,aaz,aaL]
    have hlen:(hs (i+1)).length=(hs i).length:=by rw[<-e1,<-e0,hB.len]
    have cC:List.length g=(hs i).length:=by simp only[g,aaA,List.length_range]
    have cA:=hB.step g cC fl
    have hf:kp H g g []=kp H (hs i) (hs (i+1)) r.wr:=by
     funext id
     unfold kp
     rw[aat (by
            rintro (h1 | h1); · simp at h1
            .omega),aat (by
              rw[hB.wr];rintro (h1 | h1); · simp at h1
              .omega)]
    refine BF rfl (by simpa using Q) cA W br c5 hr (λid s hm=>?_) (λh1=>by simp at h1) (λid h1 v=>by omega) (λx w1 Z1 a1 da db bq K=>closing x w1 Z1 a1 da (by rw[<-hf];exact db) (by rw[<-cC];exact bq) (λid s=>K id (by
     rw[cC];omega)))
    have a6:=DT ca s
    rw[fl id a6]
    by_cases c3:id∈b.wr
    .rw[aaw c3]
     rcases b5 id hm with ⟨E,A,hl,hH,hw⟩ | ⟨hl,_⟩
     .have hh:=(hw k0 b hb c3).1 ff
      rw[hH]
      refine V (k0+1) E id hh A (aa3 a6 (f _ _ (by omega) (by omega))) (λk y h1 v M Y=>?_)
      have R:=(hw k y M Y).2 v
      have:=(place id (.inl s) k y M (by omega) Y (λe=>by rw[ea] at e;simp at e;omega)).1 R
      omega
     .have:(hs i).length<=h'.length:=by rw[<-a8];exact f _ _ (by omega) (aaD _)
      omega
    .rw[aat c3]
     refine ch id a6 hm λk y hk bd C=>place id (.inl s) k y hk bd C λe=>?_
     rw[ea] at e;simp at e;subst e
     rw[hb] at hk;simp at hk;subst hk
     exact absurd C c3
   .have b1:∀ k,cg=some k->listed.getD k false=false:=λk e=>by
     cases hl:listed.getD k false with
     | false=>rfl
     | true=>exact absurd ⟨k,e,hl⟩ fb
    refine BF rfl (by simpa using Q) ca W br c5 hr (λid s hm=>ch id (DT ca s) hm λk y hk bd C=>place id (.inl s) k y hk bd C (b1 k))
     (λeb id s hm=>ch id s hm λk y hk bd C=>place id (.inr (.inr eb)) k y hk bd C (b1 k)) (λid h1 v=>?_) closing
    apply abK
    intro dm
    exact bl (b7 i id J h1 v dm)
 have ec:Inv (Array.replicate all.length false) a { w with drawn:=w.drawn+1 }:=by
  refine⟨Z,μ,cat h F,an.defers,an.size,λt=>⟨0,ab5 _,by rw[eg];exact an.tm t,λk o hk bs=>?_⟩,an.hr,λid ee=>?_,λk id hk h1 v ee=>?_,λk o hk R=>?_,?_,λ_ _=>rfl,by simp⟩
  .have:(Array.replicate all.length false).getD k false=false:=by
    simp only[aaH,Array.getElem?_replicate];split <;> rfl
   rw[this];simp
  .unfold cat
   by_cases hl:id < h.length
   .left
    refine⟨0,ab5 _,by rw[a7];exact hl,by rw[aaw hl,a7],λk r hk C=>?_⟩
    have:(Array.replicate all.length false).getD k false=false:=by
     simp only[aaH,Array.getElem?_replicate];split <;> rfl
    rw[this];simp
   .rw[aat hl]
    rcases aaT id h'.length with u | u
    .exact absurd (b2 id (by omega) u) ee
    .exact .inr ⟨u,rfl⟩
  .exfalso
   refine ee (b2 id ?_ ?_)
   .rw[<-a7];exact abp (f _ _ (ab5 _) (by omega)) h1
   .rw[<-a8];exact aa3 v (f _ _ hk (aaD _))
  .have:(Array.replicate all.length false).getD k false=false:=by
    simp only[aaH,Array.getElem?_replicate];split <;> rfl
   rw[this] at R;simp at R
  .exact⟨⟨rfl,rfl,rfl,aaD _⟩,iY.refl _ _ _,λ_ _ _=>rfl,λ_ h=>.inl h,λ_ _ _ _ h=>.inl h⟩
 have:=key all.length _ _ _ ec (by
  have:=List.countP_le_length (p:=λi=>!(Array.replicate all.length false).getD i false) (l:=List.range all.length)
  simpa using this)
 simpa using this
theorem Cs (hm:P.follows .mixedOrders=true) {id:Nat} {T b:Env} {h c:aG} {a:List Rec} (d:Tr P n all all T h a b c) (e:od all=true) (f:xm all a) :
 dw P n (.region id all.toArray true) T h .normal b c:=zD hm d e f.Zk
end
section
variable {P:Program} {n:Nat}
theorem sQ.eval {Z:Nat->Prop} {μ:Mu} {F:View} {T:Env} {h:aG} {a:Act} {w:World} (s:sQ n Z μ F T h a w) (x:Operand):aB Z μ w.heap (ev T x) (a.eval x):=by
 cases x with
 | tmp t=>exact s.tm t
 | const v=>exact iH v
 | global g=>exact .any _
 | func f=>exact .fn f [] [] #[] #[] rfl rfl (λi hi=>by simp at hi) (λi hi=>by simp at hi)
theorem J8 {all:List Oper} {id:Nat} {T M:Env} {h A:aG} {f:List Rec} (tr:Tr P n all all T h f M A):dw P n (.region id all.toArray false) T h .normal M A:=by
 obtain⟨an,Ts,hs,vs,N,y,O,E,g⟩:=HX all T h f M A tr
 have B:∀ i,i < all.length->∃ o r,all[i]?=some o/\f[i]?=some r:=λi hi=>⟨all[i],f[i]'(by omega),aar hi,aar (by omega)⟩
 have l:∀ i,i < all.length->(hs i).length<=(hs (i+1)).length:=λi hi=>by
  obtain⟨o,r,h1,I⟩:=B i hi
  exact wE (g i o r h1 I).1
 have c:=NP l
 refine⟨by rw[<-y,<-E];exact c _ _ (ab5 _) (aaD _),λZ μ F a w G C=>wp_region ?_⟩
 have key:∀ k i,i+k=all.length->∀ D μ' H w',sQ n D μ' F (Ts i) (hs i) H w'->Ext Z μ w h.length D μ' w'->(∀ id,id < h.length∨A.length<=id->μ' id=μ id)->(∀ id,(hs i).length<=id->id < A.length->μ' id=none) ->
   wpOps P all.toArray (λe' H w'=>e'=.normal/\∃ D μ',sQ n D μ' F M A H w'/\Ext Z μ w h.length D μ' w'/\(∀ id,id < h.length∨A.length<=id->μ' id=μ id)) (List.range' i k) H w':=by
  intro k
  induction k with
  | zero =>
   intro i hi D μ' H w' b hex m _
   obtain rfl:i=all.length:=by omega
   simp only[List.range'_zero,wpOps]
   rw[O,E] at b
   exact⟨trivial,D,μ',b,hex,m⟩
  | succ k ih =>
   intro i hi D μ' H w' b hex m J
   obtain⟨o,r,Y,hr⟩:=B i (by omega)
   obtain⟨z,p,hT,aq,ar⟩:=g i o r Y hr
   have a1:=l i (by omega)
   have a6:(hs (i+1)).length<=A.length:=by rw[<-E];exact c _ _ (by omega) (aaD _)
   have Q:h.length<=(hs i).length:=by rw[<-y];exact c _ _ (ab5 _) (by omega)
   rw[List.range'_succ,wpOps_cons]
   refine BF rfl (by simpa using Y) z b.size (λj want d _ _=>b.tm d) (λx _=>b.eval x) b.hr (λid s _=>?_) (λ_ id s _=>?_) (λid h1 I=>J id h1 (by omega)) ?_
   .unfold cat;rw[aaw (DT z s)]
   .unfold cat;rw[aaw s]
   .intro x w1 Z1 R S U u v
    refine ih (i+1) (by omega) Z1 R _ w1 ⟨?_,?_,λt=>?_,U.congr λid _=>?_⟩ (hex.trans u Q C.hr.lt) (λid s=>?_) (λid h1 I=>?_)
    .unfold Act.put;split <;> exact b.defers
    .unfold Act.put;split <;> simp[b.size]
    .rw[hT]
     cases V:o.dst with
     | none =>
      simp only[Env.put,Act.put]
      exact(b.tm t).mono u.mono
     | some d =>
      have K:d < H.tmps.size:=by unfold uv at p;rw[V] at p;rw[b.size];simpa using p
      simp only[Env.put,Act.put,aaH,abx]
      by_cases e:t=d
      .subst e;rw[aaw rfl,aaw rfl,aaw K];exact S
      .rw[aat e,aat (λq=>e q.symm)]
       have:=(b.tm t).mono u.mono
       simpa only [aaH] using this
    .simp only[cat,kp]
     by_cases W:id < (hs (i+1)).length
     .rw[aaw W]
      split
      .rfl
      .rename_i hn
       have L:id < (hs i).length:=by
        rcases aaT id (hs i).length with X | X
        .exact X
        .exact absurd (.inr ⟨X,W⟩) hn
       rw[aaw L,uh z L (λq=>hn (.inl q))]
     .rw[aat W,aat,aat (by omega)]
      rintro (L | L)
      .have:=(yT z L).1;omega
      .omega
    .rw[v id (by omega),m id s]
    .rw[v id (by omega)];exact J id (by omega) I
 have:=key all.length 0 (by omega) Z μ a w (by rw[N,y];exact C) (Ext.refl _ _ _ _) (λ_ _=>rfl) (λid h1 I=>G id (by rw[<-y];exact h1) I)
 rw[ab2,List.range_eq_range']
 exact this
theorem dw.weaken {c:Code} {T q:Env} {h j:aG} {e:Exit} (x:dw P n c T h e q j) {Z:Nat->Prop} {μ:Mu} {F:View} {a:Act} {w:World} {r:Nat->Prop} {d:Mu} {l:World} {m:Nat}
  (f:∀ id,h.length<=id->id < j.length->μ id=none) (s:sQ n Z μ F T h a w) (hex:Ext r d l m Z μ w) (hm:m<=h.length) (p:∀ id b o s,d id=some (b,o,s)->b < l.heap.size) :
  c.wp P (λe' t w'=>e'=e/\∃ k μ',sQ n k μ' F q j t w'/\Ext r d l m k μ' w'/\(∀ id,id < h.length∨j.length<=id->μ' id=μ id)) a w :=
 wp_mono (x.2 Z μ F a w f s) λ_ _ _ ⟨he,k,μ',u,g,i⟩=>⟨he,k,μ',u,hex.trans g hm p,i⟩
theorem dw.seq {x y:Code} {T k l:Env} {h h1 f:aG} {e:Exit} (g:dw P n x T h .normal k h1) (i:dw P n y k h1 e l f):dw P n (.seq x y) T h e l f:=by
 refine⟨abp g.1 i.1,λZ μ F a w b s=>wp_seq (wp_mono (g.2 Z μ F a w (λid h1 f=>b id h1 (aa3 f i.1)) s) ?_)⟩
 rintro e' o w' ⟨rfl,m,μ',j,hex,c⟩
 refine wp_mono (i.weaken (λid h1 f=>?_) j hex g.1 s.hr.lt) ?_
 .rw[c id (.inr h1)];exact b id (abp g.1 h1) f
 .rintro e' o w' ⟨he,m,μ',j,hex,d⟩
  refine⟨he,m,μ',j,hex,λid p=>?_⟩
  have:=g.1
  have:=i.1
  rw[d id (by omega),c id (by omega)]
theorem dw.NC {x y:Code} {T c:Env} {h h1:aG} {e:Exit} (d:dw P n x T h e c h1) (he:e≠.normal):dw P n (.seq x y) T h e c h1:=by
 refine⟨d.1,λZ μ F a w b s=>wp_seq (wp_mono (d.2 Z μ F a w b s) ?_)⟩
 rintro e' f w' ⟨rfl,h⟩
 cases e' <;> first | exact absurd rfl he | exact⟨rfl,h⟩
theorem dw.here {c:Code} {T:Env} {h:aG} {e:Exit} (b:∀ (Q:Exit->Act->World->Prop) a w,Q e a w->c.wp P Q a w):dw P n c T h e T h :=
 ⟨aaD _,λZ μ _ a w _ s=>b _ a w ⟨rfl,Z,μ,s,Ext.refl _ _ _ _,λ_ _=>rfl⟩⟩
theorem dw.skip {T:Env} {h:aG} : dw P n .skip T h .normal T h:=.here λ_ _ _ h=>wp_skip h
theorem dw.label {T:Env} {h:aG} {l:Nat} : dw P n (.label l) T h .normal T h:=.here λ_ _ _ h=>wp_label h
theorem dw.exit {T:Env} {h:aG} {id:Nat} : dw P n (.exit id) T h (.exit id) T h:=.here λ_ _ _ h=>wp_exit h
theorem dw.goto {T:Env} {h:aG} {l:Nat} : dw P n (.goto l) T h (.goto l) T h:=.here λ_ _ _ h=>wp_goto h
theorem dw.ret {T:Env} {h:aG} : dw P n .ret T h .ret T h:=.here λ_ _ _ h=>wp_ret h
theorem dw.cond {c:Operand} {x y:Code} {T d:Env} {h f:aG} {e:Exit} {t:Bool} (i:ev T c=.val (.bool t)) (g:dw P n (if t then x else y) T h e d f):dw P n (.cond c x y) T h e d f:=by
 refine⟨g.1,λZ μ F a w b s=>wp_cond (t:=t) ?_ (g.2 Z μ F a w b s)⟩
 have:=s.eval c
 rw[i] at this
 exact fY this
def sy (id:Nat):Exit->Exit
 | .exit id'=>if id'=id then .normal else .exit id'
 | e=>e
theorem dw.block {id:Nat} {c:Code} {T d:Env} {h f:aG} {e:Exit} (g:dw P n c T h e d f):dw P n (.block id c) T h (sy id e) d f:=by
 refine⟨g.1,λZ μ F a w b s=>wp_block (wp_mono (g.2 Z μ F a w b s) ?_)⟩
 rintro e' j w' ⟨rfl,h⟩
 cases e' with
 | exit i =>
  simp only[Exit.inBlock,sy]
  split
  .exact⟨rfl,h⟩
  .exact⟨rfl,h⟩
 | _=>exact⟨rfl,h⟩
theorem Dh {c:Code} {Q b:Exit->Act->World->Prop} (hq:∀ e a w,Q e a w->b e a w):∀ (k:Nat) (a:Act) (w:World),Code.rounds P c Q k a w->Code.rounds P c b k a w
 | 0,_,_,h=>h
 | k+1,a,w,h=>by
  rw[rounds_succ] at h ⊢
  refine wp_mono h λe a w h=>?_
  cases e with
  | normal=>exact Dh hq k a w h
  | _=>exact hq _ _ _ h
def sm (P:Program) (n:Nat) (c:Code) (T:Env) (h:aG) (e:Exit) (T':Env) (h':aG):Prop :=
 h.length<=h'.length/\∃ k,∀ Z μ F a w,(∀ id,h.length<=id->id < h'.length->μ id=none)->sQ n Z μ F T h a w ->
  Code.rounds P c (λe' a' w'=>e'=e/\∃ Z' μ',sQ n Z' μ' F T' h' a' w'/\Ext Z μ w h.length Z' μ' w'/\(∀ id,id < h.length∨h'.length<=id->μ' id=μ id)) k a w
theorem sm.out {c:Code} {T d:Env} {h h1:aG} {e:Exit} (f:dw P n c T h e d h1) (he:e≠.normal):sm P n c T h e d h1:=by
 refine⟨f.1,1,λZ μ F a w b s=>?_⟩
 rw[rounds_succ]
 refine wp_mono (f.2 Z μ F a w b s) ?_
 rintro e' g w' ⟨rfl,h⟩
 cases e' <;> first | exact absurd rfl he | exact⟨rfl,h⟩
theorem sm.step {c:Code} {T r t:Env} {h h1 g:aG} {e:Exit} (i:dw P n c T h .normal r h1) (m:sm P n c r h1 e t g):sm P n c T h e t g:=by
 obtain⟨j,k,m⟩:=m
 refine⟨abp i.1 j,k+1,λZ μ F a w b s=>?_⟩
 rw[rounds_succ]
 refine wp_mono (i.2 Z μ F a w (λid h1 g=>b id h1 (aa3 g j)) s) ?_
 rintro e' o w' ⟨rfl,p,μ',q,hex,d⟩
 refine Dh ?_ k o w' (m p μ' F o w' (λid h1 g=>?_) q)
 .rintro e' o w' ⟨he,p,μ',q,l,f⟩
  refine⟨he,p,μ',q,hex.trans l i.1 s.hr.lt,λid u=>?_⟩
  have:=i.1
  rw[f id (by omega),d id (by omega)]
 .rw[d id (.inr h1)];exact b id (abp i.1 h1) g
theorem dw.loop {c:Code} {T d:Env} {h f:aG} {e:Exit} (g:sm P n c T h e d f):dw P n (.loop c) T h e d f:=by
 obtain⟨h1,k,i⟩:=g
 exact⟨h1,λZ μ F a w b s=>wp_loop_rounds k (i Z μ F a w b s)⟩
def jumps (P:Program) (c:Code) (Q:Exit->Act->World->Prop):Nat->Code->Act->World->Prop
 | 0,_,_,_=>False
 | k+1,x,a,w=>x.wp P (λe a w=>match e with
  | .goto l=>(match findLabel c l with
   | some rest=>jumps P c Q k rest a w
   | none=>Q (.goto l) a w)
  | e=>Q e a w) a w
theorem UW {c:Code} {Q:Exit->Act->World->Prop} {a:Act} {w:World} (k:Nat) (h:jumps P c Q k c a w):(Code.scope c).wp P Q a w:=by
 intro b K cs
 have key:∀ k x a w,jumps P c Q k x a w->∃ e p w',Q e p w'/\Arrives P (lone (b.at a (.code x :: .inScope c :: K)) cs w) b K cs e p w':=by
  intro k
  induction k with
  | zero=>intro x a w h;exact h.elim
  | succ k s =>
   intro x a w h
   obtain⟨e,f,g,hq,d⟩:=h b (.inScope c :: K) cs
   cases e with
   | normal=>exact⟨.normal,f,g,hq,Steps.trans d (.one step_inScope)⟩
   | exit id=>exact⟨.exit id,f,g,hq,λr hk=>d r (by simp[exitTo,hk])⟩
   | goto l =>
    simp only at hq
    cases q:findLabel c l with
    | some rest =>
     rw[q] at hq
     obtain⟨m,n,o,j,i⟩:=s rest f g hq
     exact⟨m,n,o,j,.of_steps (d _ (by simp[gotoIn,q])) i⟩
    | none =>
     rw[q] at hq
     exact⟨.goto l,f,g,hq,λr hk=>d r (by simp[gotoIn,q,hk])⟩
   | ret=>exact⟨_,f,g,hq,d⟩
   | panic t=>exact⟨_,f,g,hq,d⟩
   | outgrown=>exact⟨_,f,g,hq,d⟩
 obtain⟨e,p,w',hq,d⟩:=key k c a w h
 exact⟨e,p,w',hq,.of_steps (.one step_scope) d⟩
theorem FV {c:Code} {Q d:Exit->Act->World->Prop} (hq:∀ e a w,Q e a w->d e a w):∀ (k:Nat) (x:Code) (a:Act) (w:World),jumps P c Q k x a w->jumps P c d k x a w
 | 0,_,_,_,h=>h
 | k+1,x,a,w,h=>by
  refine wp_mono h λe a w h=>?_
  cases e with
  | goto l =>
   simp only at h ⊢
   split
   .rename_i rest b;rw[b] at h;exact FV hq k rest a w h
   .rename_i b;rw[b] at h;exact hq _ _ _ h
  | _=>exact hq _ _ _ h
def tZ (P:Program) (n:Nat) (c x:Code) (T:Env) (h:aG) (e:Exit) (T':Env) (h':aG):Prop :=
 h.length<=h'.length/\∃ k,∀ Z μ F a w,(∀ id,h.length<=id->id < h'.length->μ id=none)->sQ n Z μ F T h a w ->
  jumps P c (λe' a' w'=>e'=e/\∃ Z' μ',sQ n Z' μ' F T' h' a' w'/\Ext Z μ w h.length Z' μ' w'/\(∀ id,id < h.length∨h'.length<=id->μ' id=μ id)) k x a w
def NX (c:Code):Exit->Bool
 | .goto l=>(findLabel c l).isNone
 | _=>true
theorem tZ.out {c x:Code} {T d:Env} {h h1:aG} {e:Exit} (f:dw P n x T h e d h1) (he:NX c e=true):tZ P n c x T h e d h1:=by
 refine⟨f.1,1,λZ μ F a w b s=>?_⟩
 refine wp_mono (f.2 Z μ F a w b s) ?_
 rintro e' g w' ⟨rfl,h⟩
 cases e' with
 | goto l =>
  simp only[NX,Option.isNone_iff_eq_none] at he
  simp only[he];exact⟨trivial,h⟩
 | _=>exact⟨rfl,h⟩
theorem tZ.jump {c x rest:Code} {T t u:Env} {h h1 g:aG} {e:Exit} {l:Nat} (i:dw P n x T h (.goto l) t h1) (v:findLabel c l=some rest) (o:tZ P n c rest t h1 e u g):tZ P n c x T h e u g:=by
 obtain⟨j,k,o⟩:=o
 refine⟨abp i.1 j,k+1,λZ μ F a w b s=>?_⟩
 refine wp_mono (i.2 Z μ F a w (λid h1 g=>b id h1 (aa3 g j)) s) ?_
 rintro e' p w' ⟨rfl,q,μ',r,hex,d⟩
 simp only[v]
 refine FV ?_ k rest p w' (o q μ' F p w' (λid h1 g=>?_) r)
 .rintro e' p w' ⟨he,q,μ',r,m,f⟩
  refine⟨he,q,μ',r,hex.trans m i.1 s.hr.lt,λid y=>?_⟩
  have:=i.1
  rw[f id (by omega),d id (by omega)]
 .rw[d id (.inr h1)];exact b id (abp i.1 h1) g
theorem dw.scope {c:Code} {T d:Env} {h f:aG} {e:Exit} (g:tZ P n c c T h e d f):dw P n (.scope c) T h e d f:=by
 obtain⟨h1,k,i⟩:=g
 exact⟨h1,λZ μ F a w b s=>UW k (i Z μ F a w b s)⟩
def nj (vs:List V):Env:=λt=>vs.getD t .any
def uT (P:Program) (T:Env) (h:aG):ResultVar->Option V
 | .tmp t=>some (T t)
 | .cell a t=>(oz P t (T a) h.view).map (·.1)
def nX (P:Program) (T:Env) (h:aG):List ResultVar->Option (List V)
 | []=>some []
 | r :: rest=>match uT P T h r,nX P T h rest with
  | some v,some vs=>some (v :: vs)
  | _,_=>none
def PV (P:Program) (fn:Func) (T:Env) (h:aG):Option V:=match nX P T h fn.results.toList with
 | some [v]=>some v
 | some vs=>some (.bD vs)
 | none=>none
theorem NA {Z:Nat->Prop} {μ:Mu} {F:View} {T:Env} {h:aG} {a:Act} {w:World} (s:sQ n Z μ F T h a w) (f:ResultVar->Sem Value) (o:∀ t,f (.tmp t)=pure (a.tmps.getD t undef))
  (q:∀ p t,f (.cell p t)=(do loadVar t (<-asAddr (a.tmps.getD p undef)))):∀ (l:List ResultVar) (vs:List V),nX P T h l=some vs ->
  ∃ xs:List Value,(l.mapM f).run P w=.ok xs w/\gX Z μ w.heap vs xs
 | [],vs,d=>by
  simp only[nX,aau] at d;subst d
  exact⟨[],rfl,rfl,λi hi=>by simp at hi⟩
 | r :: l,vs,d=>by
  simp only[nX] at d
  split at d
  .rename_i v B h1 I
   simp only[aau] at d;subst d
   obtain⟨xs,J,hr⟩:=NA s f o q l B I
   have one:∃ x,(f r).run P w=.ok x w/\aB Z μ w.heap v x:=by
    cases r with
    | tmp t =>
     simp only[uT,aau] at h1;subst h1
     rw[o]
     exact⟨_,rfl,s.tm t⟩
    | cell p t =>
     simp only[uT,aaF] at h1
     obtain⟨⟨v',eff,rd⟩,c,rfl⟩:=h1
     have hp:=s.tm p
     rw[q]
     unfold oz at c
     split at c
     .rename_i id i j C
      rw[C] at hp
      obtain⟨b,o0,sz,hm,g⟩:=pF hp
      split at c
      .rename_i esz es hH
       split at c
       .rename_i hi
        simp only[aaF,aay] at c
        obtain⟨D,k,rfl,_,_⟩:=c
        have u:=s.hr.obj id
        have z:cat h F id=.arr esz es:=by
         simp only[cat];rw[aaw (jw (by rw[hH];simp)),hH]
        rw[z] at u
        obtain⟨y,E,m⟩:=wv (P:=P) (rowOf u hm hi).2 k
        exact⟨y,by rw[g];simp[asAddr,E],m⟩
       .simp at c
      .simp at c
     .rename_i e j C
      rw[C] at hp
      obtain⟨b,off,K,A,g⟩:=vK hp
      simp only[aaF,aay] at c
      obtain⟨D,k,rfl,_,_⟩:=c
      obtain⟨y,E,m⟩:=wv (P:=P) A k
      exact⟨y,by rw[g];simp[asAddr,E],m⟩
     .simp at c
   obtain⟨x,G,H⟩:=one
   refine⟨x :: xs,?_,⟨by simp[hr.1],λi hi=>?_⟩⟩
   .simp only[List.mapM_cons,Sem.run_bind]
    rw[G]
    simp only[Result.andThen_ok,Sem.run_bind]
    rw[J]
    rfl
   .cases i with
    | zero=>exact H
    | succ i=>simpa using hr.2 i (by simpa using hi)
  .simp at d
theorem cd.Of {f:FuncId} {fn:Func} {c:Code} {vs:List V} {C:Env} {h A:aG} {e:Exit} {r:V} (L:P.funcs[f]?=some fn) (M:fn.body=some c) (Q:vs.length<=fn.ntmps)
  (K:dw P fn.ntmps c (nj vs) h e C A) (he:e=.ret∨e=.normal) (hr:PV P fn C A=some r):cd P f vs h r A:=by
 refine⟨K.1,λZ μ F w xs j D l=>calls_of_wp L M ?_⟩
 have m:(xs.toArray ++ Array.replicate (fn.ntmps - xs.toArray.size) undef).size=fn.ntmps:=by
  have:=j.1;simp;omega
 have q:sQ fn.ntmps Z μ F (nj vs) h { tmps:=xs.toArray ++ Array.replicate (fn.ntmps - xs.toArray.size) undef,defers:=[] } w:=by
  refine⟨rfl,m,λt=>?_,D⟩
  unfold nj
  by_cases E:t < vs.length
  .have:=j.2 t E
   have G:t < xs.length:=j.1 ▸ E
   have g:(xs.toArray ++ Array.replicate (fn.ntmps - xs.toArray.size) undef).getD t undef=xs.getD t undef:=by
    rw[aaH,abY (by simpa using G)]
    simp[aaq]
   show aB Z μ w.heap (vs.getD t .any) ((xs.toArray ++ Array.replicate (fn.ntmps - xs.toArray.size) undef).getD t undef)
   rw[g];exact this
  .have:vs.getD t .any=.any:=by simp[aaq,aa1 (Nat.le_of_not_lt E)]
   rw[this];exact .any _
 refine wp_mono (K.2 Z μ F _ w l q) ?_
 rintro e' o w' ⟨rfl,B,μ',s,hex,k⟩
 have u:∃ x,(results fn o.tmps).run P w'=.ok x w'/\aB B μ' w'.heap r x:=by
  unfold PV at hr
  have go:∀ d,nX P C A fn.results.toList=some d->(match d with | [v]=>some v | vs=>some (.bD vs))=some r->∃ x,(results fn o.tmps).run P w'=.ok x w'/\aB B μ' w'.heap r x:=by
   intro d h1 g
   unfold results
   obtain⟨n,H,b⟩:=NA s (fun
     | .tmp t=>pure (o.tmps.getD t undef)
     | .cell p t=>do loadVar t (<-asAddr (o.tmps.getD p undef))) (λ_=>rfl) (λ_ _=>rfl) _ _ h1
   rw[Array.mapM_eq_mapM_toList]
   simp only[Sem.run_bind,Sem.run_map]
   show ∃ x,(((((fn.results.toList.mapM (fun
     | .tmp t=>pure (o.tmps.getD t undef)
     | .cell p t=>do loadVar t (<-asAddr (o.tmps.getD p undef)):ResultVar->Sem Value)).run P w').andThen λa w'=>.ok a.toArray w').andThen λa w'=>(pure (if h:a.size=1 then a[0] else Value.tuple a):Sem Value).run P w')=.ok x w')/\_
   rw[H]
   simp only[Result.andThen_ok,Sem.run_pure]
   match d,n,b,g with
   | [v],[x],b,g =>
    simp only[aau] at g
    subst g
    exact⟨x,rfl,b.2 0 (by simp)⟩
   | [],[],b,g =>
    simp only[aau] at g
    subst g
    exact⟨.tuple #[],rfl,.bD _ _ rfl (λi hi=>by simp at hi)⟩
   | v1 :: v2 :: d,N :: O :: n,b,g =>
    simp only[aau] at g
    subst g
    refine⟨.tuple (N :: O :: n).toArray,by simp,.bD _ _ (by simpa using b.1) (λi hi=>?_)⟩
    have:=b.2 i hi
    simpa [aaH,aaq] using this
   | [_],[],b,_=>exact absurd b.1 (by simp)
   | [_],_ :: _ :: _,b,_=>exact absurd b.1 (by simp)
   | [],_ :: _,b,_=>exact absurd b.1 (by simp)
   | _ :: _ :: _,[],b,_=>exact absurd b.1 (by simp)
   | _ :: _ :: _,[_],b,_=>exact absurd b.1 (by simp)
  split at hr
  .rename_i v I;exact go _ I hr
  .rename_i d J I
   refine go _ I ?_
   split
   .rename_i v;exact absurd rfl (J v)
   .exact hr
  .simp at hr
 obtain⟨x,y,z⟩:=u
 rcases he with rfl | rfl
 .exact⟨s.defers,x,y,x,B,μ',rfl,z,s.hr,hex,k⟩
 .exact⟨s.defers,x,y,x,B,μ',rfl,z,s.hr,hex,k⟩
end
end Gv
