/-
  Part 3 of the proof: what the machine does and what the functions answer.
  Conditions: those that each lemma names.
-/
import Derived.Orders
import Derived.LoopN
import Derived.Scope
import Derived.Test.YtihmlbdfcmfbdaaGreatSGzB3B
set_option linter.unusedSimpArgs false
set_option linter.unusedVariables false
set_option maxRecDepth 100000
set_option maxHeartbeats 20000000
namespace Gv
open Go
section
variable {Z:Nat->Prop} {μ μ':Mu} {w w':World} {P:Program} {H:View} {n:Nat} {v:V} {eff:bH} {rd:List Nat}
theorem uB {c:Operand->Value} {o:Oper} {b:Builtin} {args:Array Operand} {a:Array TypeId} (d:o.op=.call { callee:=.builtin b,args:=args,argTypes:=a }) :
  execOp c o=builtin b a o.type (args.map fun | .const _=>true | _=>false) (args.map c):=by
 unfold execOp
 rw[d]
 rfl
def rI (k:Nat) (x:Value) (b:Bool):Prop:=match k,x with
 | 0,.slice a _ _=>a.isNone=b
 | 1,.pointer a=>a.isNone=b
 | 2,.map a=>a.isNone=b
 | 3,.nilFunc=>b=true
 | 3,.func _ _ _=>b=false
 | _,_=>False
theorem P0 {k:Nat} {x:V} {d:Value} {b:Bool} (h:fN k x=some b) (c:aC Z μ w.heap x d):rI k d b:=by
 unfold fN at h
 split at h
 .simp at h;subst h;cases c with | emp k a h1 e=>rw[h1 rfl];rfl
 .simp at h;subst h
  cases c with
  | emp k a h1 e =>
   cases a with
   | none=>exact absurd rfl (e rfl)
   | some a=>rfl
 .simp at h;subst h;cases c;rfl
 .simp at h;subst h;cases c;rfl
 .simp at h;subst h;cases c;rfl
 .simp at h;subst h;cases c;rfl
 .simp at h;subst h;cases c;rfl
 .simp at h;subst h;cases c;rfl
 .simp at h;subst h;cases c;rfl
 .simp at h;subst h;cases c;rfl
 .simp at h;subst h;cases c;rfl
 .simp at h;subst h;cases c;rfl
 .simp at h
theorem Lr {t:TypeId} {k:Nat} (h:kh P t=some k):(k=0/\∃ e,P.underlying t=some (.slice e))∨(k=1/\∃ e,P.underlying t=some (.pointer e)) ∨
  (k=2/\∃ e f,P.underlying t=some (.map e f))∨(k=3/\∃ p q r,P.underlying t=some (.func p q r)):=by
 unfold kh at h
 split at h
 .rename_i e hu;simp at h;exact .inl ⟨h.symm,e,hu⟩
 .rename_i e hu;simp at h;exact .inr (.inl ⟨h.symm,e,hu⟩)
 .rename_i e f hu;simp at h;exact .inr (.inr (.inl ⟨h.symm,e,f,hu⟩))
 .rename_i p q r hu;simp at h;exact .inr (.inr (.inr ⟨h.symm,p,q,r,hu⟩))
 .simp at h
def sf (P:Program) (w:World) (t:TypeId) (x y:Operand) (xv yv:Value) (b:Bool):Prop :=
 (Op.equal t xv yv).run P w=.ok b w/\(∀ op,(eqGuard op t x y xv yv).run P w=.ok () w)/\(binOp .eql t xv yv=(do pure (.bool (<-Op.equal t xv yv))))/\(binOp .neq t xv yv=(do pure (.bool (!(<-Op.equal t xv yv)))))
theorem mB (t:TypeId) (x y:Value):Op.equal t x y=Op.equalIn (9999+1) t x y:=rfl
theorem Qb {t e:TypeId} {x y:Operand} {a d:Option Addr} {l c l' f:Nat} {b:Bool} (hu:P.underlying t=some (.slice e)) (h:(a.isNone=true/\d.isNone=b)∨(a.isNone=b/\d.isNone=true)):sf P w t x y (.slice a l c) (.slice d l' f) b:=by
 refine⟨?_,λop=>by cases op <;> rfl,rfl,rfl⟩
 rw[mB]
 generalize (9999:Nat)=depth
 simp only[Op.equalIn,Sem.run_bind,bG hu,Result.andThen_ok]
 cases a with
 | none=>cases d <;> simp_all
 | some a=>cases d <;> simp_all
theorem Lu {t e:TypeId} {x y:Operand} {a c:Option Addr} {b:Bool} (hu:P.underlying t=some (.pointer e)) (h:(a.isNone=true/\c.isNone=b)∨(a.isNone=b/\c.isNone=true)):sf P w t x y (.pointer a) (.pointer c) b:=by
 refine⟨?_,λop=>by cases op <;> rfl,rfl,rfl⟩
 rw[mB]
 generalize (9999:Nat)=depth
 simp only[Op.equalIn,Sem.run_bind,bG hu,Result.andThen_ok]
 cases a with
 | none=>cases c <;> simp_all
 | some a=>cases c <;> simp_all
theorem V8 {t e f:TypeId} {x y:Operand} {a c:Option Nat} {b:Bool} (hu:P.underlying t=some (.map e f)) (h:(a.isNone=true/\c.isNone=b)∨(a.isNone=b/\c.isNone=true)):sf P w t x y (.map a) (.map c) b:=by
 refine⟨?_,λop=>by cases op <;> rfl,rfl,rfl⟩
 rw[mB]
 generalize (9999:Nat)=depth
 simp only[Op.equalIn,Sem.run_bind,bG hu,Result.andThen_ok]
 cases a with
 | none=>cases c <;> simp_all
 | some a=>cases c <;> simp_all
theorem UW {t:TypeId} {p q:Array TypeId} {r:Bool} {x y:Operand} (hu:P.underlying t=some (.func p q r)) :
  sf P w t x y .nilFunc .nilFunc true/\(∀ f m k,sf P w t x y .nilFunc (.func f m k) false)/\(∀ f m k,sf P w t x y (.func f m k) .nilFunc false):=by
 refine⟨⟨?_,λop=>by cases op <;> rfl,rfl,rfl⟩,λf m k=>⟨?_,λop=>by cases op <;> rfl,rfl,rfl⟩,λf m k=>⟨?_,λop=>by cases op <;> rfl,rfl,rfl⟩⟩
 all_goals
  rw[mB]
  generalize (9999:Nat)=depth
  simp only[Op.equalIn,Sem.run_bind,bG hu,Result.andThen_ok,Sem.run_pure]
theorem Wv {t:TypeId} {x y:Operand} {n o:V} {j d:Value} {b:Bool} (v:aC Z μ w.heap n j) (h1:aC Z μ w.heap o d) (h:Gp P t n o=some b):sf P w t x y j d b:=by
 have g:∃ k m l,kh P t=some k/\fN k n=some m/\fN k o=some l/\((m=true/\l=b)∨(m=b/\l=true)):=by
  unfold Gp at h
  split at h
  .rename_i k hk
   split at h
   .rename_i l s u
    simp at h;subst h
    exact⟨k,true,_,hk,s,u,.inl ⟨rfl,rfl⟩⟩
   .rename_i l _ s u
    simp at h;subst h
    exact⟨k,_,true,hk,s,u,.inr ⟨rfl,rfl⟩⟩
   .simp at h
  .simp at h
 obtain⟨k,m,l,hk,z,A,i⟩:=g
 have c:=P0 z v
 have a:=P0 A h1
 clear h v h1 z A
 rcases Lr hk with ⟨rfl,e,hu⟩ | ⟨rfl,e,hu⟩ | ⟨rfl,e,f,hu⟩ | ⟨rfl,p,q,r,hu⟩
 .cases j <;> simp only[rI] at c
  cases d <;> simp only[rI] at a
  exact Qb hu (by rw[c,a];exact i)
 .cases j <;> simp only[rI] at c
  cases d <;> simp only[rI] at a
  exact Lu hu (by rw[c,a];exact i)
 .cases j <;> simp only[rI] at c
  cases d <;> simp only[rI] at a
  exact V8 hu (by rw[c,a];exact i)
 .obtain⟨g1,g2,g3⟩:=UW (P:=P) (w:=w) (x:=x) (y:=y) hu
  cases j <;> simp only[rI] at c
  .cases d <;> simp only[rI] at a
   .subst c a
    simp at i
   .subst c a
    have:b=false:=by simpa using i.symm
    subst this;exact g3 _ _ _
  .cases d <;> simp only[rI] at a
   .subst c a
    have:b=false:=by simpa using i.symm
    subst this;exact g2 _ _ _
   .subst c a
    have:b=true:=by simpa using i.symm
    subst this;exact g1
theorem Xc {o:Oper} {T:Env} {a:Act} (h:cx P o T H n=some (v,eff,rd)) (A:∀ x∈o.op.operands,aC Z μ w.heap (ev T x) (a.eval x)) (c:Ctx Z μ w.heap H rd n eff) :
  bp Z μ w n v eff ((execOp a.eval o).run P w):=by
 unfold cx at h
 split at h
 ·
  rename_i x g
  simp only[Zl,Zo] at h
  obtain⟨rfl,rfl,rfl⟩:=h
  rw[g] at A
  refine⟨.value (a.eval x),w,μ,by simp[execOp,g],.inl ⟨_,rfl,A x (by simp[Op.operands])⟩,fk.refl _,jJ⟩
 .rename_i x g
  simp only[Zl,Zo] at h
  obtain⟨rfl,rfl,rfl⟩:=h
  rw[g] at A
  refine⟨.value (a.eval x),w,μ,by simp[execOp,g],.inl ⟨_,rfl,A x (by simp[Op.operands])⟩,fk.refl _,jJ⟩
 ·
  rename_i cc x y g
  rw[g] at A
  split at h
  .rename_i t ht
   simp only[Zl,Zo] at h
   obtain⟨rfl,rfl,rfl⟩:=h
   have h1:=A cc (by simp[Op.operands])
   rw[ht] at h1
   have h1:=fP h1
   refine⟨.value (if t then a.eval x else a.eval y),w,μ,by simp[execOp,g,h1,asBool],.inl ⟨_,rfl,?_⟩,fk.refl _,jJ⟩
   cases t with
   | true=>exact A x (by simp[Op.operands])
   | false=>exact A y (by simp[Op.operands])
  .simp at h
 ·
  rename_i e g
  split at h
  .rename_i z hz
   have W:∃ i U,P.info? e=some i/\i.zero=some U/\z=(gq U).cells:=by
    cases hi:P.info? e with
    | none=>simp[zeroCells,hi] at hz
    | some i =>
     obtain⟨U,h1,N⟩:=jG hi hz
     exact⟨i,U,rfl,h1,N⟩
   obtain⟨i,U,hi,an,rfl⟩:=W
   have:=NV (P:=P) (x:=U) (t:=e) h (λV=>iF (iG _) V) c
   have C:(execOp a.eval o).run P w=((do pure (Next.value (.pointer (some (<-newVar e U)))):Sem Next).run P w):=by
    unfold execOp
    rw[g]
    simp[Instr.alloc,kJ hi an]
   rw[C];exact this
  .simp at h
 ·
  rename_i e x g
  rw[g] at A
  have:=W9 (P:=P) (t:=e) h (λV=>iF (A x (by simp[Op.operands])) V) c
  have C:execOp a.eval o=(do pure (Next.value (<-Instr.box e (a.eval x)))):=by
   unfold execOp;rw[g]
  rw[C];exact this
 ·
  rename_i t parts g
  rw[g] at A
  have C:execOp a.eval o=(do pure (Next.value (<-Instr.build t (parts.map λ(i,x)=>(i,a.eval x))))):=by
   unfold execOp;rw[g]
  rw[C]
  refine Ql h ?_
  rw[Array.toList_map]
  exact Dk _ (λx E=>A x (by simpa [Op.operands] using E))
 ·
  rename_i t len parts g
  rw[g] at A
  have C:execOp a.eval o=(do pure (Next.value (<-Instr.buildSlice t len (parts.map λ(i,x)=>(i,a.eval x))))):=by
   unfold execOp;rw[g]
  rw[C]
  refine Gl h ?_ c
  rw[Array.toList_map]
  exact Dk _ (λx E=>A x (by simpa [Op.operands] using E))
 ·
  rename_i t x g
  rw[g] at A
  have C:execOp a.eval o=(do pure (Next.value (<-Instr.loadAt t (a.eval x)))):=by
   unfold execOp;rw[g]
  rw[C]
  exact UT h (A x (by simp[Op.operands])) c
 ·
  rename_i t x y g
  rw[g] at A
  have C:execOp a.eval o=(do Instr.storeAt t (a.eval x) (a.eval y);pure Next.skip):=by
   unfold execOp;rw[g]
  rw[C]
  exact QE h (A x (by simp[Op.operands])) (A y (by simp[Op.operands])) c
 ·
  rename_i x g
  rw[g] at A
  have h1:=A x (by simp[Op.operands])
  split at h
  .rename_i id i j E
   simp only[Zl,Zo] at h
   obtain⟨rfl,rfl,rfl⟩:=h
   rw[E] at h1
   have N:=h1
   obtain⟨b,o0,s,hm,he⟩:=oW h1
   exact⟨.value (a.eval x),w,μ,by simp[execOp,g,he],.inl ⟨_,rfl,N⟩,fk.refl _,jJ⟩
  .rename_i e j E
   simp only[Zl,Zo] at h
   obtain⟨rfl,rfl,rfl⟩:=h
   rw[E] at h1
   have N:=h1
   obtain⟨b,off,hz,ar,he⟩:=uT h1
   exact⟨.value (a.eval x),w,μ,by simp[execOp,g,he],.inl ⟨_,rfl,N⟩,fk.refl _,jJ⟩
  .rename_i f p q E
   simp only[Zl,Zo] at h
   obtain⟨rfl,rfl,rfl⟩:=h
   rw[E] at h1
   have N:=h1
   generalize he:a.eval x=y at h1 N
   cases h1 with
   | fn _ _ _ O bs _ _ _ _=>exact⟨.value (.func (.func f) O bs),w,μ,by simp[execOp,g,he],.inl ⟨_,rfl,N⟩,fk.refl _,jJ⟩
  .simp at h
 ·
  rename_i t x f g
  rw[g] at A
  have C:execOp a.eval o=(do pure (Next.value (<-Instr.fieldAt t (a.eval x) f))):=by
   unfold execOp;rw[g]
  rw[C]
  exact Iz h (A x (by simp[Op.operands]))
 ·
  rename_i t x f g
  rw[g] at A
  have C:execOp a.eval o=(do pure (Next.value (<-Instr.field t (a.eval x) f))):=by
   unfold execOp;rw[g]
  rw[C]
  exact Rh h (A x (by simp[Op.operands]))
 ·
  rename_i t x i g
  rw[g] at A
  have C:execOp a.eval o=(do pure (Next.value (<-Instr.indexAt t (a.eval x) (a.eval i)))):=by
   unfold execOp;rw[g]
  rw[C]
  exact Iy h (A x (by simp[Op.operands])) (A i (by simp[Op.operands]))
 ·
  rename_i t x lo hi X g
  split at h
  .refine ud h A (λQ B=>?_)
   rw[g] at B
   have J:=B x (by simp[Op.operands])
   have h1:lo.map Q=lo.map a.eval:=by cases lo with | none=>rfl | some y=>simp[B y (by simp[Op.operands])]
   have N:hi.map Q=hi.map a.eval:=by cases hi with | none=>rfl | some y=>simp[B y (by simp[Op.operands])]
   have h3:X.map Q=X.map a.eval:=by cases X with | none=>rfl | some y=>simp[B y (by simp[Op.operands])]
   unfold execOp;rw[g];simp only[J,h1,N,h3]
  .rw[g] at A
   have C:execOp a.eval o=(do pure (Next.value (<-Instr.sliceAt t (a.eval x) (lo.map a.eval) (hi.map a.eval) (X.map a.eval)))):=by
    unfold execOp;rw[g]
   rw[C]
   exact Rr h (A x (by simp[Op.operands])) (Gd lo (λy S=>A y (by simp[Op.operands] at S ⊢;simp[S]))) (Gd hi (λy S=>A y (by simp[Op.operands] at S ⊢;simp[S]))) (Gd X (λy S=>A y (by simp[Op.operands] at S ⊢;simp[S])))
 ·
  rename_i t l cc g
  rw[g] at A
  have C:execOp a.eval o=(do pure (Next.value (<-Instr.makeSlice t (a.eval l) (a.eval cc)))):=by
   unfold execOp;rw[g]
  rw[C]
  exact II h (A l (by simp[Op.operands])) (A cc (by simp[Op.operands])) c
 ·
  rename_i t r g
  split at h
  .simp only[Zl,Zo] at h
   obtain⟨rfl,rfl,rfl⟩:=h
   refine⟨.value (.map (some w.heap.size)),w.alloc (.map #[] 0),μ.set n (w.heap.size,0,0),by simp[execOp,g,Instr.makeMap],.inl ⟨_,rfl,.mp n w.heap.size 0 0 (by simp[Mu.set])⟩,jQ _ _,?_⟩
   refine⟨w.heap.size,0,0,Zt _,by rw[heap_alloc];simp,rfl,by rw[heap_alloc];exact fq _ _,?_⟩
   intro b o0 s E
   simp only[Mu.set,if_true,Zl,Zo] at E
   obtain⟨rfl,rfl,rfl⟩:=E
   exact⟨#[],by rw[heap_alloc];simp,rfl,λi hi=>by simp at hi⟩
  .simp at h
 ·
  rename_i f first cap g
  simp only[Zl,Zo] at h
  obtain⟨rfl,rfl,rfl⟩:=h
  rw[g] at A
  have h1:=Nb (T:=T) (a:=a) first (λx E=>A x (by simp[Op.operands,E]))
  have N:=Nb (T:=T) (a:=a) cap (λx E=>A x (by simp[Op.operands,E]))
  exact⟨.value (.func (.func f) (first.map a.eval) (cap.map a.eval)),w,μ,by simp[execOp,g,Instr.makeFunc],.inl ⟨_,rfl,.fn f _ _ _ _ h1.1 N.1 h1.2 N.2⟩,fk.refl _,jJ⟩
 ·
  rename_i t m k ok g
  rw[g] at A
  have C:execOp a.eval o=(do pure (Next.value (<-Instr.lookup t (a.eval m) (a.eval k) ok))):=by
   unfold execOp;rw[g]
  rw[C]
  exact On h (A m (by simp[Op.operands])) (A k (by simp[Op.operands])) c
 .rename_i t m k x g
  rw[g] at A
  have C:execOp a.eval o=(do Instr.mapUpdate t (a.eval m) (a.eval k) (a.eval x);pure Next.skip):=by
   unfold execOp;rw[g]
  rw[C]
  exact zZ h (A m (by simp[Op.operands])) (A k (by simp[Op.operands])) (A x (by simp[Op.operands])) c
 .rename_i t m k x g
  rw[g] at A
  have C:execOp a.eval o=(do Instr.mapUpdate t (a.eval m) (a.eval k) (a.eval x);pure Next.skip):=by
   unfold execOp;rw[g]
  rw[C]
  exact zZ h (A m (by simp[Op.operands])) (A k (by simp[Op.operands])) (A x (by simp[Op.operands])) c
 .rename_i t m k g
  rw[g] at A
  have C:execOp a.eval o=(do pure (Next.value (<-Instr.mapEntry t (a.eval m) (a.eval k)))):=by
   unfold execOp;rw[g]
  rw[C]
  exact J7 h (A m (by simp[Op.operands])) (A k (by simp[Op.operands])) c
 .rename_i t m s x g
  rw[g] at A
  have C:execOp a.eval o=(do Instr.entryStore t (a.eval m) (a.eval s) (a.eval x);pure Next.skip):=by
   unfold execOp;rw[g]
  rw[C]
  exact FN h (A m (by simp[Op.operands])) (A s (by simp[Op.operands])) (A x (by simp[Op.operands])) c
 ·
  rename_i t i g
  rw[g] at A
  have h1:=A t (by simp[Op.operands])
  split at h
  .rename_i vs aq
   split at h
   .rename_i hi
    simp only[Zl,Zo] at h
    obtain⟨rfl,rfl,rfl⟩:=h
    rw[aq] at h1
    generalize he:a.eval t=y at h1
    cases h1 with
    | bt _ O hl hr =>
     have h3:=hr i hi
     have Y:i < O.size:=hl ▸ hi
     simp only[Zv,ZH Y,ZC] at h3
     exact⟨.value O[i],w,μ,by simp[execOp,g,he,Instr.extract,Y],.inl ⟨_,rfl,h3⟩,fk.refl _,jJ⟩
   .simp at h
  .simp at h
 ·
  rename_i t x g
  rw[g] at A
  have h1:=A x (by simp[Op.operands])
  split at h
  .rename_i s hs
   split at h
   .rename_i M
    simp only[Zl,Zo] at h
    obtain⟨rfl,rfl,rfl⟩:=h
    rw[hs] at h1
    have h1:=fP h1
    have hu:P.underlying t=some .string:=by
     rw[g] at M
     unfold isStr at M
     simp only at M
     split at M <;> simp_all
    refine⟨.value (.pointer (some ⟨w.heap.size,0,none⟩)),w.alloc (.stringIter s 0),μ.set n (w.heap.size,0,0),by simp[execOp,g,h1,Instr.range,bG hu],.inl ⟨_,rfl,?_⟩,jQ _ _,?_⟩
    .have:=aC.ptr (Z:=Z) (μ:=μ.set n (w.heap.size,0,0)) (hp:=(w.alloc (.stringIter s 0)).heap) n 0 0 w.heap.size 0 0 (by simp[Mu.set])
     simpa using this
    .refine⟨w.heap.size,0,0,Zt _,by rw[heap_alloc];simp,rfl,by rw[heap_alloc];exact fq _ _,?_⟩
     intro b o0 s' E
     simp only[Mu.set,if_true,Zl,Zo] at E
     obtain⟨rfl,rfl,rfl⟩:=E
     exact⟨rfl,by rw[heap_alloc];simp⟩
   .simp at h
  .simp at h
 ·
  rename_i it g
  rw[g] at A
  have C:execOp a.eval o=(do pure (Next.value (<-Instr.next (a.eval it) true o.type))):=by
   unfold execOp;rw[g]
  rw[C]
  exact T0 h (A it (by simp[Op.operands])) c
 ·
  rename_i s d x g
  split at h
  .rw[g] at A
   have C:execOp a.eval o=(do pure (Next.value (<-convert s d (a.eval x)))):=by
    unfold execOp;rw[g]
   rw[C]
   exact Lw h (A x (by simp[Op.operands])) c
  .refine ud h A (λQ B=>?_)
   rw[g] at B
   have J:=B x (by simp[Op.operands])
   unfold execOp;rw[g];simp only[J]
 ·
  rename_i b args R g
  have D:execOp a.eval o=builtin b R o.type (args.map fun | .const _=>true | _=>false) (args.map a.eval):=uB g
  have G:ej P o T=some (v,eff,rd)->bp Z μ w n v eff ((execOp a.eval o).run P w):=by
   intro h
   refine ud h A (λQ B=>?_)
   rw[g] at B
   rw[uB g,uB g]
   have:args.map Q=args.map a.eval:=by
    apply Array.map_congr_left
    intro x E
    exact B x (by simp[Op.operands,Call.operands,E])
   rw[this]
  have I:∀ x∈args.toList,aC Z μ w.heap (ev T x) (a.eval x):=λx E=>A x (by rw[g];simp[Op.operands,Call.operands];simpa using E)
  have J:∀ {k:Nat},k < R.size->R[k]?=some (R.getD k 0):=by
   intro k hk
   simp[Zv,hk]
  have L:∀ x,args.toList=[x]->args.map a.eval = #[a.eval x]:=by
   intro x E
   apply Array.ext'
   simp[E]
  have K:∀ x y,args.toList=[x,y]->args.map a.eval = #[a.eval x,a.eval y]:=by
   intro x y E
   apply Array.ext'
   simp[E]
  split at h
  .rename_i x u
   split at h
   .rename_i F
    rw[D,L x u]
    exact Wh h (J F) (I x (by rw[u];simp)) c
   .simp at h
  .rename_i x y u
   split at h
   .rename_i F
    rw[D,K x y u]
    exact Ox h (J (by omega)) (J (by omega)) F.2 (I x (by rw[u];simp)) (I y (by rw[u];simp)) c
   .split at h
    .rename_i F
     rw[D,K x y u]
     exact Tp h (J (by omega)) (J (by omega)) F.2 (I x (by rw[u];simp)) (I y (by rw[u];simp)) c
    .simp at h
  .rename_i x u
   split at h
   .rename_i F
    rw[D,L x u]
    exact Wn h (J F) (I x (by rw[u];simp)) c
   .simp at h
  .rename_i x y u
   split at h
   .rename_i F
    rw[D,K x y u]
    exact Ux h (J F) (I x (by rw[u];simp)) (I y (by rw[u];simp)) c
   .simp at h
  .rename_i x y u
   split at h
   .rename_i F
    rw[D,K x y u]
    exact OT h (J F) (I x (by rw[u];simp)) (I y (by rw[u];simp)) c
   .simp at h
  .rename_i x u
   split at h
   .rename_i F
    rw[D,L x u]
    exact Qr h (J F) (I x (by rw[u];simp)) c
   .simp at h
  .exact G h
  .exact G h
  .exact G h
  .exact G h
  .exact G h
  .simp at h
 .rename_i op t x y yt g
  split at h
  .rw[g] at A
   have J:=A x (by simp[Op.operands])
   have h1:=A y (by simp[Op.operands])
   have go:∀ b,Gp P t (ev T x) (ev T y)=some b->sf P w t x y (a.eval x) (a.eval y) b:=λb hb=>Wv J h1 hb
   split at h
   .rename_i b hb
    simp only[Zl,Zo] at h
    obtain⟨rfl,rfl,rfl⟩:=h
    obtain⟨g1,g2,g3,_⟩:=go _ hb
    refine⟨.value (.bool b),w,μ,?_,.inl ⟨_,rfl,.val _ rfl⟩,fk.refl _,jJ⟩
    unfold execOp;rw[g]
    simp only[Sem.run_bind,g2,Result.andThen_ok,g3,g1,Sem.run_pure]
   .rename_i b hb
    simp only[Zl,Zo] at h
    obtain⟨rfl,rfl,rfl⟩:=h
    obtain⟨g1,g2,_,g4⟩:=go _ hb
    refine⟨.value (.bool (!b)),w,μ,?_,.inl ⟨_,rfl,.val _ rfl⟩,fk.refl _,jJ⟩
    unfold execOp;rw[g]
    simp only[Sem.run_bind,g2,Result.andThen_ok,g4,g1,Sem.run_pure]
   .simp at h
  .refine ud h A (λQ B=>?_)
   rw[g] at B
   have J:=B x (by simp[Op.operands])
   have h1:=B y (by simp[Op.operands])
   unfold execOp;rw[g];simp only[J,h1]
 .rename_i op t x g
  refine ud h A (λQ B=>?_)
  rw[g] at B
  have J:=B x (by simp[Op.operands])
  unfold execOp;rw[g];simp only[J]
 .rename_i t x y g
  refine ud h A (λQ B=>?_)
  rw[g] at B
  have J:=B x (by simp[Op.operands])
  have h1:=B y (by simp[Op.operands])
  unfold execOp;rw[g];simp only[J,h1]
 .simp at h
end
def bH.wr:bH->List Nat
 | .none | .new _=>[]
 | .fK id _ | .er id _=>[id]
def j6 (μ:Mu) (b:Nat):Prop:=∃ id o s,μ id=some (b,o,s)
structure Ext (Z:Nat->Prop) (μ:Mu) (w:World) (m:Nat) (Z':Nat->Prop) (μ':Mu) (w':World):Prop where
 same:fk w w'
 mono:iO Z Z' μ μ' w.heap w'.heap
 frame:gX w.heap w'.heap (j6 μ)
 Ur:∀ b,Z' b->Z b∨w.heap.size<=b
 EM:∀ id b o s,μ' id=some (b,o,s)->μ id=some (b,o,s)∨(m<=id/\(w.heap.size<=b∨j6 μ b))
theorem Ext.refl (Z:Nat->Prop) (μ:Mu) (w:World) (m:Nat):Ext Z μ w m Z μ w :=
 ⟨fk.refl _,iO.refl _ _ _,λ_ _ _=>rfl,λ_ h=>.inl h,λ_ _ _ _ h=>.inl h⟩
theorem Ext.trans {Z l c:Nat->Prop} {μ μ' a:Mu} {w w' d:World} {m n:Nat} (h:Ext Z μ w m l μ' w') (k:Ext l μ' w' n c a d) (hm:m<=n) (q:∀ id b o s,μ id=some (b,o,s)->b < w.heap.size):Ext Z μ w m c a d:=by
 have e:∀ b,j6 μ' b->w.heap.size<=b∨j6 μ b:=by
  rintro b ⟨id,o,s,i⟩
  rcases h.EM _ _ _ _ i with h1 | ⟨_,h1 | h1⟩
  .exact .inr ⟨_,_,_,h1⟩
  .exact .inl h1
  .exact .inr h1
 refine⟨h.same.trans k.same,h.mono.trans k.mono,λb g p=>?_,λb g=>?_,λid b o s i=>?_⟩
 .rw[k.frame b (ZX g h.same.size) (λj=>?_),h.frame b g p]
  rcases e b j with h1 | h1
  .omega
  .exact p h1
 .rcases k.Ur b g with h1 | h1
  .exact h.Ur b h1
  .exact .inr (aai h.same.size h1)
 .rcases k.EM _ _ _ _ i with h1 | ⟨h1,f⟩
  .exact h.EM _ _ _ _ h1
  .refine .inr ⟨by omega,?_⟩
   rcases f with f | f
   .exact .inl (aai h.same.size f)
   .exact e b f
def cat (h:aF) (F:View):View:=λid=>if id < h.length then h.view id else F id
def bZ (P:Program) (f:FuncId) (vs:List V) (h:aF) (r:V) (h':aF):Prop :=
 h.length<=h'.length/\∀ Z μ (F:View) (w:World) (xs:List Value),gS Z μ w.heap vs xs->iU Z μ w.heap (cat h F)->(∀ id,h.length<=id->id < h'.length->μ id=none) ->
  Calls P f xs.toArray w λe w'=>∃ x Z' μ',e=.returned x/\aC Z' μ' w'.heap r x/\iU Z' μ' w'.heap (cat h' F)/\Ext Z μ w h.length Z' μ' w'/\(∀ id,id < h.length∨h'.length<=id->μ' id=μ id)
def dS (P:Program) (f:FuncId):Bool:=match P.funcs[f]? with
 | some fn=>fn.name != "runtime.NumGoroutine" && fn.body.isSome
 | none=>false
def tK (n:Nat) (o:Oper):Bool:=match o.dst with
 | some d=>d < n
 | none=>true
def dM (n:Nat) (all:List Oper) (T:Env) (o:Oper):Option Bool:=match o.guard with
 | none=>some true
 | some (j,want)=>match (all[j]?).bind (·.dst) with
  | some d=>if d < n then (match T d with
   | .val (.bool b)=>some (b == want)
   | .bt []=>some false
   | _=>none) else none
  | none=>none
inductive eh (P:Program) (n:Nat) (all:List Oper):Oper->Env->aF->V->aF->List Nat->List Nat->Bool->Prop
 | skip {o:Oper} {T:Env} {h:aF} : dM n all T o=some false->eh P n all o T h (.bt []) h [] [] false
 | op {o:Oper} {T:Env} {h:aF} {v:V} {eff:bH} {rd:List Nat} : dM n all T o=some true->cx P o T h.view h.length=some (v,eff,rd)->eh P n all o T h v (eff.apply h) rd eff.wr false
 | kf {o:Oper} {T:Env} {h:aF} {e:TypeId} {x:Operand} : dM n all T o=some true->o.op=.box e x->(ev T x).cells.all aL=true->eh P n all o T h (.aI (ev T x).cells 0) h [] [] false
 | hX {o:Oper} {T:Env} {h:aF} {s d e:TypeId} {x:Operand} {st:ByteArray} : dM n all T o=some true->o.op=.convert s d x->P.underlying s=some .string->P.underlying d=some (.slice e)->P.underlying e=some (.int .u8)->ev T x=.val (.string st)->eh P n all o T h (.aD (iD st)) h [] [] false
 | call {o:Oper} {T:Env} {h h':aF} {r:V} {f:Operand} {args:Array Operand} {ats:Array TypeId} {g:FuncId} {first cap:List V} {wr:List Nat} : dM n all T o=some true ->
  o.op=.call { callee:=.value f,args:=args,argTypes:=ats }->ev T f=.fn g first cap->dS P g=true->bZ P g (first ++ args.toList.map (ev T) ++ cap) h r h' ->
  (∀ id,id < h.length->¬ id∈wr->h'.view id=h.view id)->(∀ id,id∈wr->id < h.length)->eh P n all o T h r h' [] wr true
theorem jj {h:aF} {id:Nat} (hd:h.view id≠.dead):id < h.length:=by
 rcases ZI id h.length with h1 | h1
 .exact h1
 .exfalso;apply hd;simp[aF.view,Zi,ZT h1]
theorem kN {h:aF} {id:Nat} {o:cU} (a:id < h.length):aF.view (h.set id o)=View.set h.view id o:=by
 funext k
 simp only[aF.view,View.set,Zi,aaV]
 by_cases e:id=k
 .subst e;simp[a]
 .rw[Zk e,Zk (λq=>e q.symm)]
theorem Is (h:aF) (o:cU):aF.view (h ++ [o])=View.set h.view h.length o:=by
 funext k
 simp only[aF.view,View.set,Zi]
 by_cases e:k=h.length
 .subst e;simp
 .rw[Zk e]
  rcases ZI k h.length with h1 | h1
  .rw[ZP h1]
  .rw[Z3 h1,ZT (by simp;omega),ZT h1]
theorem mR {h:aF} {eff:bH} (hl:∀ id,id∈eff.wr->h.view id≠.dead):aF.view (eff.apply h)=eff.view h.view h.length:=by
 cases eff with
 | none=>rfl
 | new o=>exact Is h o
 | fK id o=>exact kN (jj (hl id (by simp[bH.wr])))
 | er id o =>
  have:=jj (hl id (by simp[bH.wr]))
  simp only[bH.apply,bH.view]
  rw[Is,kN this]
  simp
theorem iy (h:aF) (eff:bH):(eff.apply h).length=h.length+(match eff with | .new _ | .er _ _=>1 | _=>0):=by
 cases eff <;> simp[bH.apply]
theorem oB {P:Program} {o:Oper} {T:Env} {H:View} {n:Nat} {v:V} {eff:bH} {rd:List Nat} (h:cx P o T H n=some (v,eff,rd)):∀ id,id∈eff.wr->H id≠.dead/\id∈rd:=by
 have b:∀ {v':V} {e:bH} {r:List Nat},e.wr=[]->some (v',e,r)=some (v,eff,rd)->∀ id,id∈eff.wr->H id≠.dead/\id∈rd:=by
  intro v' e r he heq id c
  simp only[Zl,Zo] at heq
  obtain⟨_,rfl,_⟩:=heq
  rw[he] at c;simp at c
 have pu:ej P o T=some (v,eff,rd)->∀ id,id∈eff.wr->H id≠.dead/\id∈rd:=by
  intro h
  unfold ej at h
  split at h
  .split at h
   .split at h
    .exact b rfl h
    .simp at h
   .simp at h
  .simp at h
 have up:∀ {id:Nat} {d:cU} {v':V} {r:List Nat},H id≠.dead->id∈r->some (v',bH.fK id d,r)=some (v,eff,rd)->∀ i,i∈eff.wr->H i≠.dead/\i∈rd:=by
  intro id d v' r h1 g heq i hi
  simp only[Zl,Zo] at heq
  obtain⟨_,rfl,rfl⟩:=heq
  simp[bH.wr] at hi;subst hi;exact⟨h1,g⟩
 have k:∀ {id:Nat} {d:cU} {v':V} {r:List Nat},H id≠.dead->id∈r->some (v',bH.er id d,r)=some (v,eff,rd)->∀ i,i∈eff.wr->H i≠.dead/\i∈rd:=by
  intro id d v' r h1 g heq i hi
  simp only[Zl,Zo] at heq
  obtain⟨_,rfl,rfl⟩:=heq
  simp[bH.wr] at hi;subst hi;exact⟨h1,g⟩
 have j:∀ {cs:List V},np cs n=some (v,eff,rd)->∀ id,id∈eff.wr->H id≠.dead/\id∈rd:=by
  intro cs h
  unfold np at h
  split at h
  .exact b rfl h
  .simp at h
 have mp:∀ {α:Type} {x:Option α} {f:α->V} {r:List Nat},(x.map λa=>(f a,bH.none,r))=some (v,eff,rd)->∀ id,id∈eff.wr->H id≠.dead/\id∈rd:=by
  intro α x f r h
  simp only[Zu] at h
  obtain⟨a,_,h⟩:=h
  exact b rfl (aau some h)
 unfold cx at h
 split at h
 .exact b rfl h
 .exact b rfl h
 .split at h
  .exact b rfl h
  .simp at h
 .split at h
  .exact j h
  .simp at h
 .exact j h
 .unfold xD at h
  split at h
  .split at h
   .exact mp h
   .simp at h
  .simp at h
 .unfold jc at h
  repeat' (split at h)
  all_goals first | exact b rfl h | (simp at h;done)
 .unfold od at h
  repeat' (split at h)
  all_goals first | exact mp h | (simp at h;done)
 .unfold sP at h
  split at h
  .split at h
   .rename_i hH
    split at h
    .exact up (by rw[hH];simp) (by simp) h
    .simp at h
   .simp at h
  .simp at h
 .repeat' (split at h)
  all_goals first | exact b rfl h | (simp at h;done)
 .unfold mC at h
  repeat' (split at h)
  all_goals first | exact b rfl h | (simp at h;done)
 .unfold xG at h
  split at h
  .exact mp h
  .simp at h
 .unfold mU at h
  repeat' (split at h)
  all_goals first | exact b rfl h | (simp at h;done)
 .split at h
  .exact pu h
  .unfold uA at h
   repeat' (split at h)
   all_goals first | exact b rfl h | (simp at h;done)
 .unfold mG at h
  repeat' (split at h)
  all_goals first | exact b rfl h | (simp at h;done)
 .repeat' (split at h)
  all_goals first | exact b rfl h | (simp at h;done)
 .exact b rfl h
 .unfold gF at h
  simp only at h
  repeat' (split at h)
  all_goals first | exact b rfl h | (simp at h;done)
 .unfold fX at h
  split at h
  .split at h
   .rename_i hH
    repeat' (split at h)
    all_goals first | exact up (by rw[hH];simp) (by simp) h | (simp at h;done)
   .simp at h
  .simp at h
 .unfold fX at h
  split at h
  .split at h
   .rename_i hH
    repeat' (split at h)
    all_goals first | exact up (by rw[hH];simp) (by simp) h | (simp at h;done)
   .simp at h
  .simp at h
 .unfold eT at h
  split at h
  .split at h
   .rename_i hH
    repeat' (split at h)
    all_goals first | exact up (by rw[hH];simp) (by simp) h | (simp at h;done)
   .simp at h
  .simp at h
 .unfold lh at h
  split at h
  .split at h
   .rename_i hH
    repeat' (split at h)
    all_goals first | exact up (by rw[hH];simp) (by simp) h | (simp at h;done)
   .simp at h
  .simp at h
 .repeat' (split at h)
  all_goals first | exact b rfl h | (simp at h;done)
 .repeat' (split at h)
  all_goals first | exact b rfl h | (simp at h;done)
 .unfold Fw at h
  split at h
  .split at h
   .rename_i hH
    split at h
    .exact up (by rw[hH];simp) (by simp) h
    .exact b rfl h
   .simp at h
  .simp at h
 .split at h
  .unfold ov at h
   split at h
   .repeat' (split at h)
    all_goals first | exact mp h | exact b rfl h | (simp at h;done)
   .repeat' (split at h)
    all_goals first | exact mp h | exact b rfl h | (simp at h;done)
   .split at h
    .split at h
     .split at h
      .rename_i hH
       exact up (by rw[hH];simp) (by simp) h
      .simp at h
     .simp at h
    .simp at h
   .simp at h
  .exact pu h
 .split at h
  .split at h
   .unfold xk at h
    repeat' (split at h)
    all_goals first | exact mp h | exact b rfl h | (simp at h;done)
   .simp at h
  .split at h
   .unfold oD at h
    split at h
    .split at h
     .simp at h
     .split at h
      .split at h
       all_goals first | exact b rfl h | (simp at h;done)
      .split at h
       .simp at h
       .split at h
        .split at h
         .exact b rfl h
         .simp at h
        .split at h
         .rename_i hH
          split at h
          .exact k (by rw[hH];simp) (by simp) h
          .simp at h
         .simp at h
        .simp at h
    .simp at h
   .split at h
    .unfold zw at h
     split at h
     .split at h
      .split at h
       .exact b rfl h
       .split at h
        .exact b rfl h
        .simp at h
      .simp at h
     .simp at h
    .simp at h
  .split at h
   .unfold J0 at h
    split at h
    .exact b rfl h
    .simp at h
   .simp at h
  .split at h
   .unfold zk at h
    split at h
    .split at h
     .simp at h
     .split at h
      .exact b rfl h
      .split at h
       .split at h
        .rename_i hH
         split at h
         .exact up (by rw[hH];simp) (by simp) h
         .simp at h
        .simp at h
       .simp at h
    .simp at h
   .simp at h
  .split at h
   .unfold xU at h
    split at h
    .split at h
     .rename_i hH
      repeat' (split at h)
      all_goals first | exact up (by rw[hH];simp) (by simp) h | exact b rfl h | (simp at h;done)
     .simp at h
    .simp at h
   .simp at h
  .split at h
   .unfold yp at h
    split at h
    .split at h
     .exact b rfl h
     .split at h
      .split at h
       .rename_i hH
        split at h
        .exact up (by rw[hH];simp) (by simp) h
        .simp at h
       .simp at h
      .simp at h
    .simp at h
   .simp at h
  .exact pu h
  .exact pu h
  .exact pu h
  .exact pu h
  .exact pu h
  .simp at h
 .split at h
  .split at h
   .exact b rfl h
   .exact b rfl h
   .simp at h
  .exact pu h
 .exact pu h
 .exact pu h
 .simp at h
section
variable {P:Program} {n:Nat} {all:List Oper} {Z:Nat->Prop} {μ:Mu} {w:World}
theorem iU.congr {H H':View} {hp:Array Obj} (h:iU Z μ hp H) (e:∀ id,μ id≠none->H' id=H id):iU Z μ hp H':=by
 refine⟨λid=>?_,λi j b o s g k d hi f=>?_,h.lt,h.c4,h.iJ⟩
 .by_cases hm:μ id=none
  .cases hH:H' id with
   | dead=>trivial
   | arr esz es=>intro b o0 s a;rw[hm] at a;simp at a
   | map es c=>intro b o0 s a;rw[hm] at a;simp at a
   | zi s p=>intro b o0 t a;rw[hm] at a;simp at a
  .rw[e id hm];exact h.obj id
 .rw[e i (by rw[hi];simp),e j (by rw[f];simp)]
  exact h.inj i j b o s g k d hi f
def j4 (H:View) (h h':aF) (wr:List Nat):View:=λid=>if id∈wr∨(h.length<=id/\id < h'.length) then h'.view id else H id
theorem nU.ext {μ':Mu} {w':World} {eff:bH} {m:Nat} (he:nU Z μ μ' w.heap w'.heap m eff) (hs:fk w w') (q:eff.fresh (μ m=none)) (c4:∀ b,Z b->b < w.heap.size) (iJ:∀ id b o s,μ id=some (b,o,s)->¬ Z b) :
  Ext Z μ w m Z μ' w'/\(∀ id,(∀ (_:¬ (match eff with | .new _ | .er _ _=>id=m | _=>False)),μ' id=μ id)):=by
 have hm:=he.mono q c4 iJ
 cases eff with
 | none =>
  obtain⟨rfl,f⟩:=he
  exact⟨⟨hs,hm,λb k _=>f b k (λx=>x),λ_ h=>.inl h,λ_ _ _ _ h=>.inl h⟩,λ_ _=>rfl⟩
 | new o =>
  obtain⟨b,o0,s,r,t,rfl,f,_⟩:=he
  refine⟨⟨hs,hm,λb k _=>f b k (λx=>x),λ_ h=>.inl h,λid g u v d=>?_⟩,λid i=>by simp[Mu.set];intro e;exact absurd e i⟩
  by_cases e:id=m
  .subst e;simp[Mu.set] at d;exact .inr ⟨Zt _,.inl (by omega)⟩
  .simp[Mu.set,e] at d;exact .inl d
 | fK id o =>
  obtain⟨b,o0,s,a,rfl,f,_,_⟩:=he
  exact⟨⟨hs,hm,λg c j=>f g c (λe=>j ⟨id,o0,s,e ▸ a⟩),λ_ h=>.inl h,λ_ _ _ _ h=>.inl h⟩,λ_ _=>rfl⟩
 | er id o =>
  obtain⟨b,o0,s,rfl,_,p⟩:=he
  refine⟨⟨hs,hm,?_,λ_ h=>.inl h,λl g u v d=>?_⟩,λid i=>by simp[Mu.set];intro e;exact absurd e i⟩
  .rcases p with h1 | ⟨⟨n,s1,a⟩,f,_⟩
   .exact λg c _=>h1.2.2 g c (λx=>x)
   .exact λg c j=>f g c (λe=>j ⟨id,n,s1,e ▸ a⟩)
  .by_cases e:l=m
   .subst e
    simp[Mu.set] at d
    obtain⟨rfl,_,_⟩:=d
    rcases p with h1 | ⟨⟨n,s1,a⟩,_,_⟩
    .exact .inr ⟨Zt _,.inl h1.1⟩
    .exact .inr ⟨Zt _,.inr ⟨id,n,s1,a⟩⟩
   .simp[Mu.set,e] at d;exact .inl d
theorem KT {f:FuncId} {args:Array Value} (h:dS P f=true):(callFunc f args).run P w=.ok (.enter f args) w:=by
 unfold dS at h
 split at h
 .rename_i fn a
  simp only[Zw,abo,ne_eq] at h
  have h1:(fn.name == "runtime.NumGoroutine")=false:=by simpa using h.1
  have e:fn.body.isNone=false:=by cases b:fn.body <;> simp_all
  have c:¬ (fn.name = "runtime.NumGoroutine"):=by simpa using h.1
  have d:¬ (fn.body=none):=by cases b:fn.body <;> simp_all
  simp[callFunc,a,c,d]
 .simp at h
theorem p7 {ops:Array Oper} (g:ops=all.toArray) {a:Act} (k:a.tmps.size=n) {T:Env} {o:Oper} {t:Bool} (e:dM n all T o=some t)
  (f:∀ j want d,o.guard=some (j,want)->(all[j]?).bind (·.dst)=some d->aC Z μ w.heap (T d) (a.tmps.getD d undef)):Region.wanted o (yielded ops a.tmps)=t:=by
 unfold dM at e
 unfold Region.wanted
 cases i:o.guard with
 | none=>simp[i] at e;subst e;rfl
 | some p =>
  obtain⟨j,want⟩:=p
  simp only[i] at e ⊢
  cases hd:(all[j]?).bind (·.dst) with
  | none=>simp[hd] at e
  | some d =>
   simp only[hd] at e
   split at e
   .rename_i l
    have h:=f j want d i hd
    split at e
    .rename_i b q
     rw[q] at h
     have h:=fP h
     simp only[Zl] at e
     subst e
     have c:d < a.tmps.size:=k ▸ l
     simp only[Zv,ZH c,ZC] at h
     have:yielded ops a.tmps j=some b:=by
      unfold yielded
      subst g
      simp only[aal,hd,aaa,ZH c,h]
     rw[this]
     cases b <;> cases want <;> rfl
    .rename_i q
     rw[q] at h
     have c:d < a.tmps.size:=k ▸ l
     generalize m:a.tmps.getD d undef=x at h
     cases h with
     | bt _ r h1 u =>
      simp only[Zl] at e
      subst e
      have s:a.tmps[d]?=some (.tuple r):=by
       rw[ZH c]
       simp only[Zv,ZH c,ZC] at m
       rw[m]
      have:yielded ops a.tmps j=none:=by
       unfold yielded
       subst g
       simp only[aal,hd,aaa,s]
      rw[this]
      rfl
    .simp at e
   .simp at e
theorem AM {ops:Array Oper} (B:ops=all.toArray) {i:Nat} {o:Oper} (hi:ops[i]?=some o) {T:Env} {h X:aF} {v:V} {rd wr:List Nat} {call:Bool} (st:eh P n all o T h v X rd wr call) {a:Act} {H:View}
  (G:a.tmps.size=n) (m:∀ j want d,o.guard=some (j,want)->(all[j]?).bind (·.dst)=some d->aC Z μ w.heap (T d) (a.tmps.getD d undef))
  (hT:∀ x∈o.op.operands,aC Z μ w.heap (ev T x) (a.eval x)) (hr:iU Z μ w.heap H) (bn:∀ id,id∈rd->μ id≠none->H id=h.view id)
  (I:call=true->∀ id,id < h.length->μ id≠none->H id=h.view id) (J:∀ id,h.length<=id->id < X.length->μ id=none)
  {K:Act->World->Prop} {Q:Exit->Act->World->Prop}
  (hK:∀ x w' Z' μ',aC Z' μ' w'.heap v x->iU Z' μ' w'.heap (j4 H h X wr)->Ext Z μ w h.length Z' μ' w'->(∀ id,id < h.length∨X.length<=id->μ' id=μ id)->K (a.put o.dst x) w') :
  wpOp P ops Q i K a w:=by
 unfold wpOp
 rw[hi]
 cases st with
 | skip R =>
  have:=p7 (w:=w) B G R m
  simp only[this,ZM,if_false]
  refine hK undef w Z μ (.bt _ _ rfl (λi hi=>by simp at hi)) (hr.congr λid c=>?_) (Ext.refl _ _ _ _) (λ_ _=>rfl)
  unfold j4
  rw[Zk]
  rintro (h1 | h1)
  .simp at h1
  .omega
 | op R bq =>
  rename_i eff
  have:=p7 (w:=w) B G R m
  simp only[this,if_true]
  left
  have D:=oB bq
  have b4:=mR (λid c=>(D id c).1)
  have hlen:=iy h eff
  have Y:eff.fresh (μ h.length=none):=by
   cases eff with
   | new o=>exact J _ (Zt _) (by rw[hlen];simp)
   | er k o=>exact J _ (Zt _) (by rw[hlen];simp)
   | _=>trivial
  .have br:Ctx Z μ w.heap h.view rd h.length eff:=by
    refine⟨Y,λid c=>?_,hr.lt,hr.c4,hr.iJ⟩
    by_cases hm:μ id=none
    .have:=(iU.congr (H':=λk=>if k=id then h.view id else H k) hr (λk hk=>by
      split
      .rename_i e;subst e;exact absurd hm hk
      .rfl)).obj id
     simpa using this
    .rw[<-bn id c hm];exact hr.obj id
   obtain⟨nx,w',μ',t,bx,l,u⟩:=Xc bq hT br
   have hex:=u.ext l Y hr.c4 hr.iJ
   have L:iU Z μ' w'.heap (j4 H h (eff.apply h) eff.wr):=by
    have M:∀ id,id∈eff.wr->μ id≠none->H id≠.dead:=λid c hm=>by
     rw[bn id (D id c).2 hm];exact(D id c).1
    have b0:∀ id o,(eff=.fK id o∨eff=.er id o)->H id≠.dead∨μ id=none:=by
     rintro id o (rfl | rfl)
     .by_cases hm:μ id=none
      .exact .inr hm
      .exact .inl (M id (by simp[bH.wr]) hm)
     .by_cases hm:μ id=none
      .exact .inr hm
      .exact .inl (M id (by simp[bH.wr]) hm)
    have h2:iU Z μ w.heap (λk=>if μ k=none then .zi .empty 0 else H k):=hr.congr (λk hk=>by simp[hk])
    have h3:=h2.eff Y l.size u (λid o e=>by
     split
     .simp
     .rename_i hk;exact(b0 id o (.inl e)).resolve_right hk) (λid o e=>by
     split
     .simp
     .rename_i hk;exact(b0 id o (.inr e)).resolve_right hk)
    refine h3.congr (λid c=>?_)
    unfold j4
    rw[b4]
    cases eff with
    | none =>
     obtain⟨rfl,_⟩:=u
     simp only[bH.wr,bH.apply,bH.view,List.not_mem_nil,false_or]
     rw[Zk (by omega),Zk c]
    | new o =>
     obtain⟨b,o0,s,_,_,rfl,_⟩:=u
     simp only[bH.wr,bH.view,View.set,List.not_mem_nil,false_or]
     by_cases e:id=h.length
     .subst e;rw[Zn ⟨Zt _,by rw[hlen];simp⟩,Zn rfl,Zn rfl]
     .rw[Zk (by rw[hlen];simp only;omega),Zk e]
      have:μ id≠none:=by simpa [Mu.set,e] using c
      rw[Zk this]
    | fK k o =>
     obtain⟨b,o0,s,_,rfl,_⟩:=u
     simp only[bH.wr,bH.view,View.set,aaj]
     by_cases e:id=k
     .subst e;rw[Zn (.inl rfl),Zn rfl,Zn rfl]
     .rw[Zk (by rw[hlen];simp only;omega),Zk e,Zk c]
    | er k o =>
     obtain⟨b,o0,s,rfl,_⟩:=u
     simp only[bH.wr,bH.view,View.set,aaj]
     by_cases e:id=h.length
     .subst e;rw[Zn (.inr ⟨Zt _,by rw[hlen];simp⟩),Zn rfl,Zn rfl]
     .by_cases e2:id=k
      .subst e2;rw[Zn (.inl rfl),Zk e,Zn rfl,Zk e,Zn rfl]
      .rw[Zk (by rw[hlen];simp only;omega),Zk e,Zk e2]
       have:μ id≠none:=by simpa [Mu.set,e] using c
       rw[Zk this]
   have C:∀ id,id < h.length∨(eff.apply h).length<=id->μ' id=μ id:=by
    intro id c
    refine hex.2 id (λS=>?_)
    cases eff with
    | none=>exact S
    | new o=>simp only at S;subst S;rw[hlen] at c;simp at c;omega
    | fK k o=>exact S
    | er k o=>simp only at S;subst S;rw[hlen] at c;simp at c;omega
   unfold Oper.wp
   rw[t]
   rcases bx with ⟨x,rfl,hv⟩ | ⟨rfl,rfl⟩
   .exact hK x w' Z μ' hv L hex.1 C
   .exact hK undef w' Z μ' (.any _) L hex.1 C
 | kf R U an =>
  rename_i e x
  have:=p7 (w:=w) B G R m
  simp only[this,if_true]
  left
  have z:=hT x (by rw[U];simp[Op.operands])
  have b1:=iF z an
  have t:(execOp a.eval o).run P w=.ok (.value (.pointer (some ⟨w.heap.size,0,none⟩))) (w.alloc (.cells (a.eval x).cells e)):=by
   unfold execOp
   rw[U]
   simp[Instr.box,newVar,newRow]
  unfold Oper.wp
  rw[t]
  have A:gX w.heap (w.alloc (.cells (a.eval x).cells e)).heap (λ_=>False):=fq _ _
  have b2:(w.alloc (.cells (a.eval x).cells e)).heap.size=w.heap.size+1:=by rw[heap_alloc];simp
  have hm:iO Z (λb=>Z b∨b=w.heap.size) μ μ w.heap (w.alloc (.cells (a.eval x).cells e)).heap:=⟨λ_ h=>.inl h,λb r=>A b (hr.c4 b r) (λx=>x),λ_ _ h=>h,A.sJ⟩
  have l:fk w (w.alloc (.cells (a.eval x).cells e)):=jQ _ _
  have aq:j4 H h h []=H:=by
   funext id
   unfold j4
   rw[Zk]
   rintro (h1 | h1)
   .simp at h1
   .omega
  refine hK _ _ (λb=>Z b∨b=w.heap.size) μ ?_ (aq.symm ▸ ⟨λid=>?_,hr.inj,λid b o s z=>ZX (hr.lt _ _ _ _ z) l.size,λb r=>?_,λid b o s z ar=>?_⟩)
   ⟨l,hm,λb r _=>A b r (λx=>x),λb r=>?_,λ_ _ _ _ h=>.inl h⟩ (λ_ _=>rfl)
  .have:=aC.aI (Z:=λb=>Z b∨b=w.heap.size) (μ:=μ) (hp:=(w.alloc (.cells (a.eval x).cells e)).heap) (ev T x).cells 0 w.heap.size 0 (λk=>(a.eval x).cells.toList.getD k undef) (.inr rfl) (λk hk=>?_) (λk hk=>(b1.2 k hk).mono hm)
   .simpa using this
   .have a1:k < (a.eval x).cells.size:=by have:=b1.1;simp at this;omega
    simp[cellAt,heap_alloc,Zi,a1]
  .exact(hr.obj id).mono hm rfl (λb o s z=>A b (hr.lt _ _ _ _ z) (λx=>x))
  .rcases r with r | rfl
   .exact ZX (hr.c4 b r) l.size
   .omega
  .rcases ar with r | rfl
   .exact hr.iJ _ _ _ _ z r
   .have:=hr.lt _ _ _ _ z;omega
  .rcases r with r | rfl
   .exact .inl r
   .exact .inr (Zt _)
 | hX R U hs hd he b5 =>
  rename_i s d e x st
  have:=p7 (w:=w) B G R m
  simp only[this,if_true]
  left
  have z:=hT x (by rw[U];simp[Op.operands])
  rw[b5] at z
  have b7:=fP z
  have W:st.size<=grownCap w st.size 0 e:=by unfold grownCap Question.cut;exact Nat.le_add_right _ _
  have t:=run_bytes_of_string w s d e st hs hd he
  generalize cg:grownCap w st.size 0 e=cap at t W
  have b8:(bytesRow st cap).size=cap:=by
   simp only[bytesRow,Array.size_append,Array.size_map,Array.size_replicate]
   have:st.data.size=st.size:=rfl
   omega
  have a6:(execOp a.eval o).run P w=.ok (.value (.slice (some ⟨w.heap.size,0,none⟩) st.size cap)) (w.drew.alloc (.cells (bytesRow st cap) e (cap,cap+1))):=by
   unfold execOp
   rw[U]
   simp only[b7,Sem.run_bind,t,Result.andThen_ok,Sem.run_pure]
   rw[b8]
  unfold Oper.wp
  rw[a6]
  have E:(w.drew.alloc (.cells (bytesRow st cap) e (cap,cap+1))).heap=w.heap.push (.cells (bytesRow st cap) e (cap,cap+1)):=by rw[heap_alloc,fJ]
  have A:gX w.heap (w.drew.alloc (.cells (bytesRow st cap) e (cap,cap+1))).heap (λ_=>False):=by rw[E];exact fq _ _
  have b2:(w.drew.alloc (.cells (bytesRow st cap) e (cap,cap+1))).heap.size=w.heap.size+1:=by rw[E];simp
  have hm:iO Z (λb=>Z b∨b=w.heap.size) μ μ w.heap (w.drew.alloc (.cells (bytesRow st cap) e (cap,cap+1))).heap:=⟨λ_ h=>.inl h,λb r=>A b (hr.c4 b r) (λx=>x),λ_ _ h=>h,A.sJ⟩
  have l:fk w (w.drew.alloc (.cells (bytesRow st cap) e (cap,cap+1))):=lQ _ _
  have aq:j4 H h h []=H:=by
   funext id
   unfold j4
   rw[Zk]
   rintro (h1 | h1)
   .simp at h1
   .omega
  refine hK _ _ (λb=>Z b∨b=w.heap.size) μ ?_ (aq.symm ▸ ⟨λid=>?_,hr.inj,λid b o s z=>ZX (hr.lt _ _ _ _ z) l.size,λb r=>?_,λid b o s z ar=>?_⟩)
   ⟨l,hm,λb r _=>A b r (λx=>x),λb r=>?_,λ_ _ _ _ h=>.inl h⟩ (λ_ _=>rfl)
  .have hl:(iD st).length=st.size:=by rw[iD,Zr,bsize]
   have:=aC.aD (Z:=λb=>Z b∨b=w.heap.size) (μ:=μ) (hp:=(w.drew.alloc (.cells (bytesRow st cap) e (cap,cap+1))).heap) (iD st) w.heap.size 0 1 cap (λi _=>.int .u8 ((st.data.toList.getD i 0).toNat)) (.inr rfl) (by rw[hl];exact W) ?_ ?_ ?_
   .rw[hl] at this;exact this
   .intro i hi
    have F:i < st.data.toList.length:=by simpa [iD] using hi
    simp only[iD,Zi,Zm,Zj F,Zq,ZC,ZB,ZW]
   .intro i j hi hj
    obtain rfl:j=0:=by omega
    have F:i < st.data.size:=by simpa [iD] using hi
    rw[E]
    simp only[cellAt,Array.getElem?_push_size,bytesRow,Nat.mul_one,aba,aaw]
    rw[aaP (by simpa using F),Array.getElem?_map,ZH F]
    simp[Zi,ZH F]
   .intro i j hi hj
    obtain rfl:j=0:=by omega
    have F:i < st.data.size:=by simpa [iD] using hi
    simp only[iD,Zi,Zm,Array.getElem?_toList,ZH F,Zq,ZC,ZL]
    exact .val _ rfl
  .exact(hr.obj id).mono hm rfl (λb o s z=>A b (hr.lt _ _ _ _ z) (λx=>x))
  .rcases r with r | rfl
   .exact ZX (hr.c4 b r) l.size
   .omega
  .rcases ar with r | rfl
   .exact hr.iJ _ _ _ _ z r
   .have:=hr.lt _ _ _ _ z;omega
  .rcases r with r | rfl
   .exact .inl r
   .exact .inr (Zt _)
 | call R U hf an S hw b9 =>
  rename_i f args ch g first cap
  have:=p7 (w:=w) B G R m
  simp only[this,if_true]
  left
  have a7:∀ x∈args.toList,aC Z μ w.heap (ev T x) (a.eval x):=λx z=>hT x (by rw[U];simp[Op.operands,Call.operands];right;simpa using z)
  have a8:=hT f (by rw[U];simp[Op.operands,Call.operands])
  rw[hf] at a8
  generalize ca:a.eval f=fx at a8
  cases a8 with
  | fn _ _ _ N bs h1 h2 h3 h4 =>
   have t:(execOp a.eval o).run P w=.ok (.enter g (N ++ args.map a.eval ++ bs)) w:=by
    unfold execOp
    rw[U]
    simp only[resolve,ca,Deferred.ofValue,Sem.run_bind,Sem.run_pure,Result.andThen_ok,invoke,KT an]
   unfold Oper.wp
   rw[t]
   show Calls P g (N ++ args.map a.eval ++ bs) w _
   have cc:(N ++ args.map a.eval ++ bs)=(N.toList ++ args.toList.map a.eval ++ bs.toList).toArray:=by
    apply Array.ext';simp
   rw[cc]
   have bb:gS Z μ w.heap (first ++ args.toList.map (ev T) ++ cap) (N.toList ++ args.toList.map a.eval ++ bs.toList):=by
    have app:∀ {p q:List V} {x y:List Value},gS Z μ w.heap p x->gS Z μ w.heap q y->gS Z μ w.heap (p ++ q) (x ++ y):=by
     intro p q x y hp hq
     refine⟨by simp[hp.1,hq.1],λk hk=>?_⟩
     simp only[Zi]
     by_cases bd:k < p.length
     .rw[ZP bd,ZP (hp.1 ▸ bd)]
      simpa only [Zi] using hp.2 k bd
     .rw[Z3 (by omega),Z3 (by rw[<-hp.1];omega),<-hp.1]
      simpa only [Zi] using hq.2 (k - p.length) (by simp at hk;omega)
    refine app (app ⟨by simpa using h1,λk hk=>?_⟩ ⟨by simp,λk hk=>?_⟩) ⟨by simpa using h2,λk hk=>?_⟩
    .simpa [Zi,Zv] using h3 k hk
    .have a1:k < args.toList.length:=by simpa using hk
     have:=a7 args.toList[k] (Zs _)
     simp only[Zi,Zm,Zj a1,Zq,ZC]
     exact this
    .simpa [Zi,Zv] using h4 k hk
   have b3:iU Z μ w.heap (cat h H):=hr.congr (λid c=>by
    unfold cat;split
    .rename_i cf;exact(I rfl id cf c).symm
    .rfl)
   refine(S.2 Z μ H w _ bb b3 J).mono ?_
   rintro e w' ⟨x,Z',μ',rfl,hv,hh,hex,C⟩
   refine hK x w' Z' μ' hv (hh.congr λid c=>?_) hex C
   unfold j4 cat
   by_cases O:id∈wr∨(h.length<=id/\id < X.length)
   .rw[Zn O]
    rcases O with h5 | h5
    .by_cases hl:id < X.length
     .rw[Zn hl]
     .exact absurd (ZX (b9 id h5) S.1) hl
    .rw[Zn h5.2]
   .rw[Zk O]
    by_cases hl:id < X.length
    .rw[Zn hl]
     have bl:id < h.length:=by
      rcases ZI id h.length with h6 | h6
      .exact h6
      .exact absurd (.inr ⟨h6,hl⟩) O
     rw[hw id bl (λq=>O (.inl q))]
     exact I rfl id bl (by rw[<-C id (.inl bl)];exact c)
    .rw[Zk hl]
end
structure Rec where
 rd:List Nat
 wr:List Nat
 call:Bool
 lo:Nat
 hi:Nat
inductive Tr (P:Program) (n:Nat) (all:List Oper):List Oper->Env->aF->List Rec->Env->aF->Prop
 | nil {T:Env} {h:aF} : Tr P n all [] T h [] T h
 | cons {o:Oper} {rest:List Oper} {T T':Env} {h h1 h':aF} {v:V} {rd wr:List Nat} {call:Bool} {recs:List Rec} : eh P n all o T h v h1 rd wr call->tK n o=true ->
  Tr P n all rest (T.put o.dst v) h1 recs T' h'->Tr P n all (o :: rest) T h (⟨rd,wr,call,h.length,h1.length⟩ :: recs) T' h'
def mask (o:Oper) (acc:List Nat):Nat:=o.after.toList.foldl (λs e=>if Region.binds .any e then s ||| 2 ^ e.on ||| acc.getD e.on 0 else s) 0
def gD:List Oper->List Nat->List Nat
 | [],acc=>acc
 | o :: r,acc=>gD r (acc ++ [mask o acc])
def tmpsOf (o:Oper):List Nat:=o.op.operands.toList.filterMap fun | .tmp t=>some t | _=>none
def ql (all:List Oper) (o:Oper):List Nat:=o.dst.toList ++ tmpsOf o ++ (match o.guard with
 | some (j,_)=>((all[j]?).bind (·.dst)).toList
 | none=>[])
def N7 (d:Option Nat) (l:List Nat):Bool:=match d with
 | some t=>!l.contains t
 | none=>true
def ordered (b:List Nat) (i k:Nat):Bool:=(b.getD k 0).testBit i
def nG (all:List Oper):Bool :=
 let b:=gD all []
 all.zipIdx.all λ(ok,k) =>
  (ok.after.toList.all λe=>!Region.binds .any e || decide (e.on < k)) &&
  all.zipIdx.all λ(oi,i)=>!decide (i < k) || ordered b i k || (N7 oi.dst (ql all ok) && N7 ok.dst (ql all oi))
structure qh (a b:Rec):Prop where
 Yb:∀ id,id∈a.wr->¬ id∈b.rd
 Xr:∀ id,id∈b.wr->¬ id∈a.rd
 XY:a.call=true->b.wr=[]
 call2:b.call=true->a.wr=[]
 new:∀ id,id∈b.wr->¬ (a.lo<=id/\id < a.hi)
def xb (all:List Oper) (recs:List Rec):Prop:=∀ i k a b,i < k->recs[i]?=some a->recs[k]?=some b->ordered (gD all []) i k=false->qh a b
theorem HB (l:List Edge) (acc:List Nat) (s j:Nat):(l.foldl (λs e=>if Region.binds .any e then s ||| 2 ^ e.on ||| acc.getD e.on 0 else s) s).testBit j=true ->
  s.testBit j=true∨∃ e∈l,Region.binds .any e=true/\(j=e.on∨(acc.getD e.on 0).testBit j=true):=by
 induction l generalizing s with
 | nil=>intro h;exact .inl h
 | cons e l c =>
  intro h
  simp only[ZS] at h
  rcases c _ h with h1 | ⟨e',b,d⟩
  .by_cases a:Region.binds .any e=true
   .rw[Zn a,Nat.testBit_or,Nat.testBit_or,Nat.testBit_two_pow] at h1
    simp only[aam,ZA] at h1
    rcases h1 with (h1 | h1) | h1
    .exact .inl h1
    .exact .inr ⟨e,abq,a,.inl h1.symm⟩
    .exact .inr ⟨e,abq,a,.inr h1⟩
   .rw[Zk a] at h1;exact .inl h1
  .exact .inr ⟨e',ZE _ b,d⟩
theorem C3:∀ (l:List Oper) (acc:List Nat) (k:Nat),k < acc.length->(gD l acc).getD k 0=acc.getD k 0
 | [],acc,k,_=>rfl
 | o :: r,acc,k,h=>by
  rw[gD,C3 r _ k (by simp;omega)]
  simp[Zi,ZP h]
theorem F3:∀ (l:List Oper) (acc:List Nat) (k:Nat) (o:Oper),l[k]?=some o->∃ a,(gD l acc).getD (acc.length+k) 0=mask o a/\a.length=acc.length+k/\∀ m,m < a.length->a.getD m 0=(gD l acc).getD m 0
 | [],acc,k,o,h=>by simp at h
 | p :: r,acc,0,o,h=>by
  simp at h;subst h
  refine⟨acc,?_,by simp,λm hm=>?_⟩
  .rw[gD,C3 r _ _ (by simp)]
   simp[Zi]
  .rw[gD,C3 r _ _ (by simp;omega)]
   simp[Zi,ZP hm]
 | p :: r,acc,k+1,o,h=>by
  have b:r[k]?=some o:=by simpa using h
  obtain⟨a,h1,c,d⟩:=F3 r (acc ++ [mask p acc]) k o b
  refine⟨a,?_,by simp at c;omega,λm hm=>?_⟩
  .rw[gD]
   have e:(acc ++ [mask p acc]).length+k=acc.length+(k+1):=by simp;omega
   rw[<-e];exact h1
  .rw[gD];exact d m hm
theorem zW {all:List Oper} {L:Nat->Prop} (m:∀ k o,all[k]?=some o->∀ e∈o.after.toList,Region.binds .any e=true->e.on < k)
  (n:∀ k o,all[k]?=some o->L k->∀ e∈o.after.toList,Region.binds .any e=true->L e.on):∀ k o j,all[k]?=some o->L k->ordered (gD all []) j k=true->L j:=by
 intro k
 induction k using Nat.strongRecOn with
 | _ k p =>
  intro o j hk d f
  unfold ordered at f
  obtain⟨i,h1,q,r⟩:=F3 all [] k o hk
  simp only[ZW,aaw] at h1 q
  rw[h1] at f
  rcases HB _ _ _ _ f with a | ⟨e,he,b,a⟩
  .simp at a
  .have g:=m k o hk e he b
   have c:=n k o hk d e he b
   rcases a with a | a
   .rw[a];exact c
   .have l:k < all.length:=by
     rcases ZI k all.length with h | h
     .exact h
     .simp[ZT h] at hk
    refine p e.on g _ j (Zj (by omega)) c ?_
    unfold ordered
    rw[<-r e.on (by omega)]
    exact a
theorem J4 {all:List Oper} {L:Nat->Prop} (g:∀ k o,all[k]?=some o->∀ e∈o.after.toList,Region.binds .any e=true->e.on < k)
  (l:∀ k o,all[k]?=some o->L k->∀ e∈o.after.toList,Region.binds .any e=true->L e.on) {k:Nat} {o:Oper} (hk:all[k]?=some o) (hr:∀ e∈o.after.toList,Region.binds .any e=true->L e.on)
  {j:Nat} (d:ordered (gD all []) j k=true):L j:=by
 unfold ordered at d
 obtain⟨h,h1,m,n⟩:=F3 all [] k o hk
 simp only[ZW,aaw] at h1 m
 rw[h1] at d
 rcases HB _ _ _ _ d with a | ⟨e,he,b,a⟩
 .simp at a
 .have p:=g k o hk e he b
  have c:=hr e he b
  rcases a with a | a
  .rw[a];exact c
  .have i:k < all.length:=by
    rcases ZI k all.length with f | f
    .exact f
    .simp[ZT f] at hk
   refine zW g l e.on _ j (Zj (by omega)) c ?_
   unfold ordered
   rw[<-n e.on (by omega)]
   exact a
theorem Lz {all:List Oper} (h:nG all=true):(∀ k o,all[k]?=some o->∀ e∈o.after.toList,Region.binds .any e=true->e.on < k) /\
  ∀ i k a ok,i < k->all[i]?=some a->all[k]?=some ok->ordered (gD all []) i k=false->(∀ t,a.dst=some t->¬ t∈ql all ok)/\(∀ t,ok.dst=some t->¬ t∈ql all a):=by
 unfold nG at h
 have mem:∀ k o,all[k]?=some o->(o,k)∈all.zipIdx:=by
  intro k o hk
  rw[aax];exact hk
 refine⟨λk o hk e he f=>?_,λi k a ok b hi hk g=>?_⟩
 .have:=ZZ.1 h _ (mem k o hk)
  simp only[Zw] at this
  have:=ZZ.1 this.1 e he
  simpa [f] using this
 .have:=ZZ.1 h _ (mem k ok hk)
  simp only[Zw] at this
  have:=ZZ.1 this.2 _ (mem i a hi)
  simp only[b,decide_true,abd,abu,g,Zw] at this
  have c:∀ (d:Option Nat) (l:List Nat),N7 d l=true->∀ t,d=some t->¬ t∈l:=by
   intro d l hd t j
   subst j
   simpa [N7] using hd
  exact⟨c _ _ this.1,c _ _ this.2⟩
theorem GI {P:Program} {n:Nat} {all:List Oper} : ∀ (l:List Oper) (T:Env) (h:aF) (a:List Rec) (c:Env) (d:aF),Tr P n all l T h a c d ->
  a.length=l.length/\∃ (b:Nat->Env) (hs:Nat->aF) (vs:Nat->V),b 0=T/\hs 0=h/\b l.length=c/\hs l.length=d /\
   ∀ i o r,l[i]?=some o->a[i]?=some r->eh P n all o (b i) (hs i) (vs i) (hs (i+1)) r.rd r.wr r.call/\tK n o=true/\b (i+1)=(b i).put o.dst (vs i)/\r.lo=(hs i).length/\r.hi=(hs (i+1)).length:=by
 intro l T h a c d k
 induction k with
 | nil=>exact⟨rfl,λ_=>_,λ_=>_,λ_=>.any,rfl,rfl,rfl,rfl,λi o r h=>by simp at h⟩
 | @cons o rest T c h h1 d v rd wr call a e hd _ m =>
  obtain⟨hl,b,hs,vs,g,j,p,q,hi⟩:=m
  refine⟨by simp[hl],λi=>match i with | 0=>T | i+1=>b i,λi=>match i with | 0=>h | i+1=>hs i,λi=>match i with | 0=>v | i+1=>vs i,rfl,rfl,p,q,?_⟩
  intro i s r f hr
  cases i with
  | zero =>
   simp at f hr
   subst f hr
   exact⟨by simpa only [g,j] using e,hd,by simp only[g],rfl,by simp only[j]⟩
  | succ i =>
   exact hi i s r (by simpa using f) (by simpa using hr)
theorem vJ {P:Program} {n:Nat} {all:List Oper} {o:Oper} {T:Env} {h a:aF} {v:V} {rd wr:List Nat} {call:Bool} (st:eh P n all o T h v a rd wr call):h.length<=a.length:=by
 cases st with
 | skip=>exact Zt _
 | op _ _=>rw[iy];exact Nat.le_add_right _ _
 | kf _ _ _=>exact Zt _
 | hX _ _ _ _ _ _=>exact Zt _
 | call _ _ _ _ b _ _=>exact b.1
theorem tM {P:Program} {n:Nat} {all:List Oper} {o:Oper} {T:Env} {h c:aF} {v:V} {rd wr:List Nat} {call:Bool} (st:eh P n all o T h v c rd wr call) {id:Nat} (a:id < h.length) (hw:¬ id∈wr):c.view id=h.view id:=by
 cases st with
 | skip=>rfl
 | op f b =>
  rename_i eff
  rw[mR (λid a=>(oB b id a).1)]
  cases eff with
  | none=>rfl
  | new o=>simp only[bH.view,View.set];rw[Zk (by omega)]
  | fK k o=>simp only[bH.view,View.set];rw[Zk (λe=>hw (by simp[bH.wr,e]))]
  | er k o=>simp only[bH.view,View.set];rw[Zk (by omega),Zk (λe=>hw (by simp[bH.wr,e]))]
 | kf _ _ _=>rfl
 | hX _ _ _ _ _ _=>rfl
 | call _ _ _ _ _ d _=>exact d id a hw
theorem yY {P:Program} {n:Nat} {all:List Oper} {o:Oper} {T:Env} {h b:aF} {v:V} {rd wr:List Nat} {call:Bool} (st:eh P n all o T h v b rd wr call) {id:Nat} (hw:id∈wr):id < h.length/\(call=false->id∈rd):=by
 cases st with
 | skip=>simp at hw
 | op c a=>exact⟨jj (oB a id hw).1,λ_=>(oB a id hw).2⟩
 | kf _ _ _=>simp at hw
 | hX _ _ _ _ _ _=>simp at hw
 | call _ _ _ _ _ _ hl=>exact⟨hl id hw,λh=>by simp at h⟩
theorem KG {H:View} {x:V} {xs:List (List V)} {rd:List Nat} (h:bR H x=some (xs,rd)):∀ id,id∈rd->H id≠.dead:=by
 intro id a
 unfold bR at h
 split at h
 .simp at h;rw[h.2] at a;simp at a
 .simp at h;rw[h.2] at a;simp at a
 .simp at h;rw[h.2] at a;simp at a
 .simp at h;rw[h.2] at a;simp at a
 .split at h
  .rename_i hH
   split at h
   .simp at h;rw[<-h.2] at a;simp at a;subst a;rw[hH];simp
   .simp at h
  .simp at h
 .simp at h;rw[h.2] at a;simp at a
 .simp at h
theorem Xa {P:Program} {o:Oper} {T:Env} {H:View} {n:Nat} {v:V} {eff:bH} {rd:List Nat} (h:cx P o T H n=some (v,eff,rd)):∀ id,id∈rd->H id≠.dead:=by
 have b:∀ {v':V} {e:bH},some (v',e,([]:List Nat))=some (v,eff,rd)->∀ id,id∈rd->H id≠.dead:=by
  intro v' e heq id c
  simp only[Zl,Zo] at heq
  rw[<-heq.2.2] at c;simp at c
 have one:∀ {k:Nat} {v':V} {e:bH},H k≠.dead->some (v',e,[k])=some (v,eff,rd)->∀ id,id∈rd->H id≠.dead:=by
  intro k v' e hk heq id c
  simp only[Zl,Zo] at heq
  rw[<-heq.2.2] at c;simp at c;subst c;exact hk
 have mp:∀ {α:Type} {x:Option α} {f:α->V},(x.map λa=>(f a,bH.none,([]:List Nat)))=some (v,eff,rd)->∀ id,id∈rd->H id≠.dead:=by
  intro α x f h
  simp only[Zu] at h
  obtain⟨a,_,h⟩:=h
  exact b (aau some h)
 have j:∀ {α:Type} {x:Option α} {f:α->V} {k:Nat},H k≠.dead->(x.map λa=>(f a,bH.none,[k]))=some (v,eff,rd)->∀ id,id∈rd->H id≠.dead:=by
  intro α x f k hk h
  simp only[Zu] at h
  obtain⟨a,_,h⟩:=h
  exact one hk (aau some h)
 have pu:ej P o T=some (v,eff,rd)->∀ id,id∈rd->H id≠.dead:=by
  intro h
  unfold ej at h
  repeat' (split at h)
  all_goals first | exact b h | (simp at h;done)
 have l:∀ {cs:List V},np cs n=some (v,eff,rd)->∀ id,id∈rd->H id≠.dead:=by
  intro cs h
  unfold np at h
  split at h
  .exact b h
  .simp at h
 have g:∀ {x:V} {xs:List (List V)} {r:List Nat} {v':V} {e:bH},bR H x=some (xs,r)->some (v',e,r)=some (v,eff,rd)->∀ id,id∈rd->H id≠.dead:=by
  intro x xs r v' e he heq id c
  simp only[Zl,Zo] at heq
  rw[<-heq.2.2] at c
  exact KG he id c
 have i:∀ {x:V} {xs:List (List V)} {r:List Nat} {v':V} {e:bH} {k:Nat},bR H x=some (xs,r)->H k≠.dead->some (v',e,k :: r)=some (v,eff,rd)->∀ id,id∈rd->H id≠.dead:=by
  intro x xs r v' e k he hk heq id c
  simp only[Zl,Zo] at heq
  rw[<-heq.2.2] at c
  rcases Zz.1 c with h1 | h1
  .subst h1;exact hk
  .exact KG he id h1
 unfold cx at h
 split at h
 .exact b h
 .exact b h
 .split at h
  .exact b h
  .simp at h
 .split at h
  .exact l h
  .simp at h
 .exact l h
 .unfold xD at h
  split at h
  .split at h
   .exact mp h
   .simp at h
  .simp at h
 .unfold jc at h
  repeat' (split at h)
  all_goals first | exact b h | (simp at h;done)
 .unfold od at h
  split at h
  .split at h
   .rename_i hH
    split at h
    .exact j (by rw[hH];simp) h
    .simp at h
   .simp at h
  .exact mp h
  .simp at h
 .unfold sP at h
  split at h
  .split at h
   .rename_i hH
    split at h
    .exact one (by rw[hH];simp) h
    .simp at h
   .simp at h
  .simp at h
 .repeat' (split at h)
  all_goals first | exact b h | (simp at h;done)
 .unfold mC at h
  repeat' (split at h)
  all_goals first | exact b h | (simp at h;done)
 .unfold xG at h
  split at h
  .exact mp h
  .simp at h
 .unfold mU at h
  repeat' (split at h)
  all_goals first | exact b h | (simp at h;done)
 .split at h
  .exact pu h
  .unfold uA at h
   repeat' (split at h)
   all_goals first | exact b h | (simp at h;done)
 .unfold mG at h
  repeat' (split at h)
  all_goals first | exact b h | (simp at h;done)
 .repeat' (split at h)
  all_goals first | exact b h | (simp at h;done)
 .exact b h
 .unfold gF at h
  simp only at h
  split at h
  .simp at h
  .split at h
   .simp at h
   .split at h
    .split at h
     .rename_i hH
      repeat' (split at h)
      all_goals first | exact one (by rw[hH];simp) h | (simp at h;done)
     .simp at h
    .simp at h
 .unfold fX at h
  split at h
  .split at h
   .rename_i hH
    repeat' (split at h)
    all_goals first | exact one (by rw[hH];simp) h | (simp at h;done)
   .simp at h
  .simp at h
 .unfold fX at h
  split at h
  .split at h
   .rename_i hH
    repeat' (split at h)
    all_goals first | exact one (by rw[hH];simp) h | (simp at h;done)
   .simp at h
  .simp at h
 .unfold eT at h
  split at h
  .split at h
   .rename_i hH
    repeat' (split at h)
    all_goals first | exact one (by rw[hH];simp) h | (simp at h;done)
   .simp at h
  .simp at h
 .unfold lh at h
  split at h
  .split at h
   .rename_i hH
    repeat' (split at h)
    all_goals first | exact one (by rw[hH];simp) h | (simp at h;done)
   .simp at h
  .simp at h
 .repeat' (split at h)
  all_goals first | exact b h | (simp at h;done)
 .repeat' (split at h)
  all_goals first | exact b h | (simp at h;done)
 .unfold Fw at h
  split at h
  .split at h
   .rename_i hH
    split at h
    .exact one (by rw[hH];simp) h
    .exact one (by rw[hH];simp) h
   .simp at h
  .simp at h
 .split at h
  .unfold ov at h
   split at h
   .split at h
    .split at h
     .rename_i he _
      simp only[Zu] at h
      obtain⟨a,_,h⟩:=h
      exact g he (aau some h)
     .simp at h
    .simp at h
   .repeat' (split at h)
    all_goals first | exact b h | (simp at h;done)
   .split at h
    .split at h
     .split at h
      .rename_i hH
       exact one (by rw[hH];simp) h
      .simp at h
     .simp at h
    .simp at h
   .simp at h
  .exact pu h
 .split at h
  .split at h
   .unfold xk at h
    split at h
    .exact mp h
    .split at h
     .split at h
      .rename_i hH
       exact one (by rw[hH];simp) h
      .simp at h
     .exact b h
     .simp at h
    .repeat' (split at h)
     all_goals first | exact b h | (simp at h;done)
    .exact b h
    .simp at h
   .simp at h
  .split at h
   .unfold oD at h
    split at h
    .rename_i d
     split at h
     .simp at h
     .split at h
      .split at h
       all_goals first | exact b h | (simp at h;done)
      .split at h
       .simp at h
       .split at h
        .split at h
         .exact g d h
         .simp at h
        .split at h
         .rename_i hH
          split at h
          .exact i d (by rw[hH];simp) h
          .simp at h
         .simp at h
        .simp at h
    .simp at h
   .split at h
    .unfold zw at h
     split at h
     .split at h
      .split at h
       .exact b h
       .split at h
        .exact b h
        .simp at h
      .simp at h
     .simp at h
    .simp at h
  .split at h
   .unfold J0 at h
    split at h
    .exact b h
    .simp at h
   .simp at h
  .split at h
   .unfold zk at h
    split at h
    .rename_i d _
     split at h
     .simp at h
     .split at h
      .exact b h
      .split at h
       .split at h
        .rename_i hH
         split at h
         .exact i d (by rw[hH];simp) h
         .simp at h
        .simp at h
       .simp at h
    .simp at h
   .simp at h
  .split at h
   .unfold xU at h
    split at h
    .split at h
     .rename_i hH
      repeat' (split at h)
      all_goals first | exact one (by rw[hH];simp) h | (simp at h;done)
     .simp at h
    .simp at h
   .simp at h
  .split at h
   .unfold yp at h
    split at h
    .split at h
     .exact b h
     .split at h
      .split at h
       .rename_i hH
        split at h
        .exact one (by rw[hH];simp) h
        .simp at h
       .simp at h
      .simp at h
    .simp at h
   .simp at h
  .exact pu h
  .exact pu h
  .exact pu h
  .exact pu h
  .exact pu h
  .simp at h
 .split at h
  .split at h
   .exact b h
   .exact b h
   .simp at h
  .exact pu h
 .exact pu h
 .exact pu h
 .simp at h
theorem DL {P:Program} {n:Nat} {all:List Oper} {o:Oper} {T:Env} {h b:aF} {v:V} {rd wr:List Nat} {call:Bool} (st:eh P n all o T h v b rd wr call) {id:Nat} (hw:id∈rd):id < h.length:=by
 cases st with
 | skip=>simp at hw
 | op c a=>exact jj (Xa a id hw)
 | kf _ _ _=>simp at hw
 | hX _ _ _ _ _ _=>simp at hw
 | call _ _ _ _ _ _ hl=>simp at hw
structure sj (n:Nat) (Z:Nat->Prop) (μ:Mu) (F:View) (T:Env) (h:aF) (a:Act) (w:World):Prop where
 defers:a.defers=[]
 size:a.tmps.size=n
 tm:∀ t,aC Z μ w.heap (T t) (a.tmps.getD t undef)
 hr:iU Z μ w.heap (cat h F)
def dp (P:Program) (n:Nat) (c:Code) (T:Env) (h:aF) (e:Exit) (T':Env) (h':aF):Prop :=
 h.length<=h'.length/\∀ Z μ F a w,(∀ id,h.length<=id->id < h'.length->μ id=none)->sj n Z μ F T h a w ->
  c.wp P (λe' a' w'=>e'=e/\∃ Z' μ',sj n Z' μ' F T' h' a' w'/\Ext Z μ w h.length Z' μ' w'/\(∀ id,id < h.length∨h'.length<=id->μ' id=μ id)) a w
section
variable {P:Program} {n:Nat} {all:List Oper}
theorem Lv {Z:Nat->Prop} {μ:Mu} {w:World} {T:Env} {a:Act} {o:Oper} (h:∀ t,t∈tmpsOf o->aC Z μ w.heap (T t) (a.tmps.getD t undef)):∀ x∈o.op.operands,aC Z μ w.heap (ev T x) (a.eval x):=by
 intro x b
 cases x with
 | tmp t=>exact h t (by simp only[tmpsOf,aaD];exact⟨.tmp t,by simpa using b,rfl⟩)
 | const v=>exact iG v
 | global g=>exact .any _
 | func f=>exact .fn f [] [] #[] #[] rfl rfl (λi hi=>by simp at hi) (λi hi=>by simp at hi)
theorem NJ {hs:Nat->aF} {N:Nat} (h:∀ i,i < N->(hs i).length<=(hs (i+1)).length):∀ i j,i<=j->j<=N->(hs i).length<=(hs j).length:=by
 intro i j a
 induction a with
 | refl=>intro _;exact Zt _
 | step _ b=>intro c;exact aai (b (by omega)) (h _ (by omega))
theorem Co {a:Nat->Env} {vs:Nat->V} {N t:Nat} (g:∀ i o,all[i]?=some o->a (i+1)=(a i).put o.dst (vs i)) (n:N=all.length):∀ i j,i<=j->j<=N->(∀ k o,i<=k->k < j->all[k]?=some o->o.dst≠some t)->a j t=a i t:=by
 intro i j c
 induction c with
 | refl=>intro _ _;rfl
 | step hle h =>
  rename_i m
  intro p b
  have hm:m < all.length:=by omega
  rw[g m all[m] (Zj hm)]
  have hd:=b m all[m] hle (by omega) (Zj hm)
  have:(Env.put (a m) (all[m]).dst (vs m)) t=a m t:=by
   cases f:(all[m]).dst with
   | none=>rfl
   | some d =>
    simp only[Env.put]
    rw[Zk (λe=>hd (by rw[f,e]))]
  rw[this]
  exact h (by omega) (λk o h1 q l=>b k o h1 (by omega) l)
def C4 (P:Program) (n:Nat) (all:List Oper) (recs:List Rec) (Ts:Nat->Env) (hs:Nat->aF) (vs:Nat->V):Prop:=∀ i o r,all[i]?=some o->recs[i]?=some r ->
 eh P n all o (Ts i) (hs i) (vs i) (hs (i+1)) r.rd r.wr r.call/\tK n o=true/\Ts (i+1)=(Ts i).put o.dst (vs i)/\r.lo=(hs i).length/\r.hi=(hs (i+1)).length
structure Bears (P:Program) (n:Nat) (all:List Oper) (Ts:Nat->Env) (hs:Nat->aF) (vs:Nat->V) (i k:Nat) (o:Oper) (a b:Rec):Prop where
 wr:a.wr=[]
 call:a.call=false
 len:a.lo=a.hi
 step:∀ g:aF,g.length=(hs i).length->(∀ id,id < (hs i).length->g.view id=if id∈b.wr then (hs (k+1)).view id else (hs i).view id)->eh P n all o (Ts i) g (vs i) g a.rd [] false
def OE (P:Program) (n:Nat) (all:List Oper) (recs:List Rec) (T T':Env) (h:aF):Prop:=∀ Ts hs vs,Ts 0=T->hs 0=h->Ts all.length=T'->recs.length=all.length->C4 P n all recs Ts hs vs->∀ i,∃ tol:Option Nat,
 (∀ k a b,i < k->recs[i]?=some a->recs[k]?=some b->ordered (gD all []) i k=false->tol≠some k->qh a b) /\
 ∀ k a b o,tol=some k->recs[i]?=some a->recs[k]?=some b->all[i]?=some o->i < k/\Bears P n all Ts hs vs i k o a b
theorem xb.X9 {c:List Rec} {T d:Env} {hp:aF} (h:xb all c):OE P n all c T d hp:=λ_ _ _ _ _ _ _ _ i=>⟨none,λk a b h1 e f g _=>h i k a b h1 e f g,λk a b o h1=>by simp at h1⟩
theorem zd (hm:P.follows .mixedOrders=true) {id:Nat} {T T':Env} {h h':aF} {z:List Rec} (tr:Tr P n all all T h z T' h') (ht:nG all=true) (ft:OE P n all z T T' h) :
  dp P n (.region id all.toArray true) T h .normal T' h':=by
 obtain⟨fx,Ts,hs,vs,en,a7,eH,a8,D⟩:=GI all T h z T' h' tr
 obtain⟨S,U⟩:=Lz ht
 have hc:=ft Ts hs vs en a7 eH fx D
 have I:∀ i,i < all.length->∃ o r,all[i]?=some o/\z[i]?=some r:=λi hi=>⟨all[i],z[i]'(by omega),Zj hi,Zj (by omega)⟩
 have cC:∀ i o,all[i]?=some o->i < all.length:=λi o hi=>mS hi
 have hT:∀ i o,all[i]?=some o->Ts (i+1)=(Ts i).put o.dst (vs i):=λi o hi=>by
  obtain⟨o',r,h1,v⟩:=I i (cC i o hi)
  rw[hi] at h1;simp at h1;subst h1
  exact(D i o r hi v).2.2.1
 have b0:∀ i,i < all.length->(hs i).length<=(hs (i+1)).length:=λi hi=>by
  obtain⟨o,r,h1,v⟩:=I i hi
  exact vJ (D i o r h1 v).1
 have f:=NJ b0
 have hle:h.length<=h'.length:=by rw[<-a7,<-a8];exact f _ _ (aaY _) (Zt _)
 have V:∀ i j id,i<=j->j<=all.length->id < (hs i).length->(∀ k r,i<=k->k < j->z[k]?=some r->¬ id∈r.wr)->(hs j).view id=(hs i).view id:=by
  intro i j id fz
  induction fz with
  | refl=>intro _ _ _;rfl
  | step hle ih =>
   rename_i m
   intro hj s b1
   obtain⟨o,r,h1,v⟩:=I m (by omega)
   rw[tM (D m o r h1 v).1 (ZX s (f _ _ hle (by omega))) (b1 m r hle (by omega) v)]
   exact ih (by omega) s (λk r h1 v M=>b1 k r h1 (by omega) M)
 refine⟨hle,λZ μ F a w b2 an=>wp_region_any hm ?_⟩
 let Inv (listed:Array Bool) (G:Act) (w':World):Prop:=∃ X μ' H,G.defers=[]/\G.tmps.size=n /\
  (∀ t,∃ E,E<=all.length/\aC X μ' w'.heap (Ts E t) (G.tmps.getD t undef)/\∀ k o,all[k]?=some o->o.dst=some t->(listed.getD k false=true↔k < E)) /\
  iU X μ' w'.heap H /\
  (∀ id,μ' id≠none->(∃ E,E<=all.length/\id < (hs E).length/\H id=(hs E).view id/\∀ k r,z[k]?=some r->id∈r.wr->(listed.getD k false=true↔k < E))∨(h'.length<=id/\H id=F id)) /\
  (∀ k id,k < all.length->(hs k).length<=id->id < (hs (k+1)).length->μ' id≠none->listed.getD k false=true) /\
  (∀ k o,all[k]?=some o->listed.getD k false=true->∀ e∈o.after.toList,Region.binds .any e=true->listed.getD e.on false=true) /\
  Ext Z μ w h.length X μ' w'/\(∀ id,id < h.length∨h'.length<=id->μ' id=μ id)/\listed.size=all.length
 have key:∀ fuel listed G w',Inv listed G w'->((List.range all.length).countP λi=>!listed.getD i false)<=fuel ->
   wpAny P .any all.toArray (λe' G w'=>e'=.normal/\∃ X μ',sj n X μ' F T' h' G w'/\Ext Z μ w h.length X μ' w'/\(∀ id,id < h.length∨h'.length<=id->μ' id=μ id)) fuel listed G w':=by
  have ready_iff:∀ (listed:Array Bool),listed.size=all.length->∀ i,i∈Region.ready .any all.toArray listed↔(∃ o,all[i]?=some o/\listed.getD i false=false/\∀ e∈o.after.toList,Region.binds .any e=true->listed.getD e.on false=true):=by
   intro listed W i
   simp only[Region.ready,aaW,aag,aap,aal,Zw,abv]
   constructor
   .rintro⟨hi,h1,v⟩
    rw[Zj hi] at v
    simp only[Zq,ZC] at v
    refine⟨all[i],Zj hi,?_,λe he hb=>?_⟩
    .have:i < listed.size:=by omega
     simp only[Zv,ZH this,ZC] at h1 ⊢
     exact h1
    .have:=Array.all_eq_true_iff_forall_mem.1 v e (by simpa using he)
     simpa [hb] using this
   .rintro⟨o,Q,h1,v⟩
    have hi:=cC i o Q
    refine⟨hi,?_,?_⟩
    .have:i < listed.size:=by omega
     simp only[Zv,ZH this,ZC] at h1 ⊢
     exact h1
    .rw[Q]
     simp only[Zq,ZC]
     rw[Array.all_eq_true_iff_forall_mem]
     intro e he
     cases hb:Region.binds .any e with
     | false=>rfl
     | true=>simpa using v e (by simpa using he) hb
  have b3:∀ (listed:Array Bool),listed.size=all.length->Region.ready .any all.toArray listed=[]->∀ i,i < all.length->listed.getD i false=true:=by
   intro listed W b4 i
   induction i using Nat.strongRecOn with
   | _ i ih =>
    intro hi
    cases hl:listed.getD i false with
    | true=>rfl
    | false =>
     exfalso
     have:i∈Region.ready .any all.toArray listed:=(ready_iff listed W i).2 ⟨all[i],Zj hi,hl,λe he hb=>ih e.on (S i all[i] (Zj hi) e he hb) (by have:=S i all[i] (Zj hi) e he hb;omega)⟩
     rw[b4] at this;simp at this
  have finish:∀ listed G w',Inv listed G w'->(∀ i,i < all.length->listed.getD i false=true) ->
    ∃ X μ',sj n X μ' F T' h' G w'/\Ext Z μ w h.length X μ' w'/\(∀ id,id < h.length∨h'.length<=id->μ' id=μ id):=by
   rintro listed G w' ⟨X,μ',H,hd,W,cN,hr,b5,b7,cS,hex,b8,N⟩ aq
   refine⟨X,μ',⟨hd,W,λt=>?_,hr.congr λid s=>?_⟩,hex,b8⟩
   .obtain⟨E,A,hv,hw⟩:=cN t
    have:=Co (t:=t) hT rfl E all.length A (Zt _) (λk o h1 v M Y=>by
     have:=(hw k o M Y).1 (aq k v);omega)
    rw[<-eH,this];exact hv
   .unfold cat
    rcases b5 id s with ⟨E,A,hl,hH,hw⟩ | ⟨hl,hH⟩
    .have:=V E all.length id A (Zt _) hl (λk r h1 v M Y=>by
      have:=(hw k r M Y).1 (aq k v);omega)
     have fB:id < h'.length:=by rw[<-a8];exact ZX hl (f _ _ A (Zt _))
     rw[Zn fB,hH,<-this,a8]
    .rw[Zk (by omega),hH]
  intro fuel
  induction fuel with
  | zero =>
   intro listed G w' hinv e0
   have N:listed.size=all.length:=by obtain⟨_,_,_,_,_,_,_,_,_,_,_,_,N⟩:=hinv;exact N
   have aq:∀ i,i < all.length->listed.getD i false=true:=by
    intro i hi
    have h0:(List.range all.length).countP (λi=>!listed.getD i false)=0:=by omega
    rw[List.countP_eq_zero] at h0
    have:=h0 i (by simpa using hi)
    simpa using this
   refine⟨?_,rfl,finish listed G w' hinv aq⟩
   apply List.eq_nil_iff_forall_not_mem.2
   intro i hi
   obtain⟨o,Q,h1,_⟩:=(ready_iff listed N i).1 hi
   rw[aq i (cC i o Q)] at h1;simp at h1
  | succ fuel ih =>
   intro listed G w' hinv e0
   have N:listed.size=all.length:=by obtain⟨_,_,_,_,_,_,_,_,_,_,_,_,N⟩:=hinv;exact N
   refine⟨λb4=>⟨rfl,finish listed G w' hinv (b3 listed N b4)⟩,λi hi=>?_⟩
   obtain⟨o,Q,e1,b9⟩:=(ready_iff listed N i).1 hi
   have J:=cC i o Q
   obtain⟨_,r,_,B⟩:=I i J
   obtain⟨ca,cc,_,e2,e3⟩:=D i o r Q B
   obtain⟨X,μ',H,hd,W,cN,hr,b5,b7,cS,hex,b8,_⟩:=hinv
   have bl:¬ (listed.getD i false=true):=by rw[e1];simp
   have before:∀ j,ordered (gD all []) j i=true->listed.getD j false=true:=λj hj=>J4 S cS Q b9 hj
   have behind:∀ k ok,all[k]?=some ok->ordered (gD all []) i k=true->listed.getD k false=true->False:=λk ok hk c R=>bl (zW (L:=λk=>listed.getD k false=true) S cS k ok i hk R c)
   have slot:∀ t,t∈ql all o->aC X μ' w'.heap (Ts i t) (G.tmps.getD t undef):=by
    intro t cf
    obtain⟨E,A,hv,hw⟩:=cN t
    rcases Nat.le_total E i with bb | bb
    .have:=Co (t:=t) hT rfl E i bb (by omega) (λk ok h1 v M Y=>by
      have ar:=(hw k ok M Y).1
      cases c:ordered (gD all []) k i with
      | true=>have:=ar (before k c);omega
      | false=>exact(U k i ok o v M Q c).1 t Y cf)
     rw[this];exact hv
    .have:=Co (t:=t) hT rfl i E bb A (λk ok h1 v M Y=>by
      have ar:=(hw k ok M Y).2 v
      rcases Nat.eq_or_lt_of_le h1 with u | u
      .subst u;exact bl ar
      .cases c:ordered (gD all []) i k with
       | true=>exact behind k ok M c ar
       | false=>exact(U i k o ok u Q M c).2 t Y cf)
     rw[<-this];exact hv
   obtain⟨cg,e4,c5⟩:=hc i
   have ch:∀ id,id < (hs i).length->μ' id≠none->(∀ k y,z[k]?=some y->k≠i->id∈y.wr->(listed.getD k false=true↔k < i))->H id=(hs i).view id:=by
    intro id s hm hk
    rcases b5 id hm with ⟨E,A,hl,hH,hw⟩ | ⟨hl,_⟩
    .rw[hH]
     rcases Nat.le_total E i with bb | bb
     .exact(V E i id bb (by omega) hl (λk y h1 v M Y=>by
       have:=(hw k y M Y).1 ((hk k y M (by omega) Y).2 v);omega)).symm
     .exact V i E id bb A s (λk y h1 v M Y=>by
       have ar:=(hw k y M Y).2 v
       rcases Nat.eq_or_lt_of_le h1 with u | u
       .subst u;exact bl ar
       .have:=(hk k y M (by omega) Y).1 ar;omega)
    .have:(hs i).length<=h'.length:=by rw[<-a8];exact f _ _ (by omega) (Zt _)
     omega
   have place:∀ id,(id∈r.rd∨id∈r.wr∨r.call=true)->∀ k y,z[k]?=some y->k≠i->id∈y.wr->(cg=some k->listed.getD k false=false)->(listed.getD k false=true↔k < i):=by
    intro id s k y hk bd hw e5
    have fS:id∈r.wr->r.call=false->id∈r.rd:=λh1 v=>(yY ca h1).2 v
    have cj:id∈r.rd∨r.call=true:=by
     rcases s with h1 | h1 | h1
     .exact .inl h1
     .cases e6:r.call with
      | true=>exact .inr rfl
      | false=>exact .inl (fS h1 e6)
     .exact .inr h1
    have ck:y.wr≠[]:=λe=>by rw[e] at hw;simp at hw
    obtain⟨ok,_,cr,_⟩:=I k (by have:=mS hk;omega)
    rcases Nat.lt_or_gt_of_ne bd with bn | bn
    .refine⟨λ_=>bn,λ_=>?_⟩
     cases c:ordered (gD all []) k i with
     | true=>exact before k c
     | false =>
      obtain⟨tk,gd,gk⟩:=hc k
      by_cases e7:tk=some i
      .exact absurd (gk i y r ok e7 hk B cr).2.wr ck
      .have nc:=gd i y r bn hk B c e7
       rcases cj with h1 | h1
       .exact absurd h1 (nc.Yb id hw)
       .exact absurd (nc.call2 h1) ck
    .refine⟨λR=>?_,λh6=>by omega⟩
     exfalso
     cases c:ordered (gD all []) i k with
     | true=>exact behind k ok cr c R
     | false =>
      by_cases et:cg=some k
      .rw[e5 et] at R;simp at R
      .have nc:=e4 k r y bn B hk c et
       rcases cj with h1 | h1
       .exact absurd h1 (nc.Xr id hw)
       .exact absurd (nc.XY h1) ck
   have closing:∀ x w1 Z1 a1,aC Z1 a1 w1.heap (vs i) x->iU Z1 a1 w1.heap (j4 H (hs i) (hs (i+1)) r.wr)->Ext X μ' w' (hs i).length Z1 a1 w1->(∀ id,id < (hs i).length∨(hs (i+1)).length<=id->a1 id=μ' id) ->
     wpAny P .any all.toArray (λe' G w'=>e'=.normal/\∃ X μ',sj n X μ' F T' h' G w'/\Ext Z μ w h.length X μ' w'/\(∀ id,id < h.length∨h'.length<=id->μ' id=μ id)) fuel (listed.setIfInBounds i true) (G.put o.dst x) w1:=by
    intro x w1 Z1 a1 c9 da bq K
    have O:∀ k,(listed.setIfInBounds i true).getD k false=if k=i then true else listed.getD k false:=by
     intro k
     simp only[Zv,aao]
     by_cases e:i=k
     .subst e;rw[Zn rfl,Zn rfl,Zn (by omega)];rfl
     .rw[Zk e,Zk (λq=>e q.symm)]
    have e8:(listed.setIfInBounds i true).size=all.length:=by simpa using N
    refine ih _ _ _ ⟨Z1,a1,j4 H (hs i) (hs (i+1)) r.wr,?_,?_,?_,da,?_,?_,?_,?_,?_,e8⟩ ?_
    .unfold Act.put;split <;> exact hd
    .unfold Act.put;split <;> simp[W]
    .intro t
     by_cases cu:o.dst=some t
     .refine⟨i+1,J,?_,λk ok hk bs=>?_⟩
      .rw[hT i o Q,cu]
       have fb:t < G.tmps.size:=by unfold tK at cc;rw[cu] at cc;rw[W];simpa using cc
       simp only[Env.put,Act.put,if_true,Zv,aao,fb,ZC]
       exact c9
      .rw[O]
       by_cases e:k=i
       .subst e;simp
       .rw[Zk e]
        have cf:t∈ql all o:=by simp[ql,cu]
        rcases Nat.lt_or_gt_of_ne e with u | u
        .cases c:ordered (gD all []) k i with
         | true=>exact⟨λ_=>by omega,λ_=>before k c⟩
         | false=>exact absurd cf ((U k i ok o u hk Q c).1 t bs)
        .cases c:ordered (gD all []) i k with
         | true=>exact⟨λR=>(behind k ok hk c R).elim,λh6=>by omega⟩
         | false=>exact absurd cf ((U i k o ok u Q hk c).2 t bs)
     .obtain⟨E,A,hv,hw⟩:=cN t
      refine⟨E,A,?_,λk ok hk bs=>?_⟩
      .have:(G.put o.dst x).tmps.getD t undef=G.tmps.getD t undef:=by
        unfold Act.put
        split
        .rename_i d db
         simp only[Zv,aao]
         rw[Zk (λe=>cu (by rw[db,e]))]
        .rfl
       rw[this];exact hv.mono bq.mono
      .rw[O,Zk (λe=>by subst e;rw[Q] at hk;simp at hk;subst hk;exact cu bs)]
       exact hw k ok hk bs
    .intro id dj
     unfold j4
     by_cases bx:id∈r.wr∨((hs i).length<=id/\id < (hs (i+1)).length)
     .left
      have a6:id < (hs (i+1)).length:=by
       rcases bx with u | u
       .exact ZX (yY ca u).1 (b0 i J)
       .exact u.2
      refine⟨i+1,J,a6,by rw[Zn bx],λk y hk C=>?_⟩
      rw[O]
      by_cases e:k=i
      .subst e;simp
      .rw[Zk e]
       obtain⟨ok,_,cr,_⟩:=I k (by have:=mS hk;omega)
       rcases bx with u | u
       .have hp:=place id (.inr (.inl u)) k y hk e C (λet=>by
         have:=(c5 k r y o et B hk Q).2.wr
         rw[this] at u;simp at u)
        exact⟨λR=>by have:=hp.1 R;omega,λh7=>hp.2 (by omega)⟩
       .obtain⟨cv,_⟩:=D k ok y cr hk
        have ar:=(yY cv C).1
        have gl:i < k:=by
         rcases ZI i k with h6 | h6
         .exact h6
         .have:=f k i h6 (by omega);omega
        refine⟨λR=>?_,λh7=>by omega⟩
        exfalso
        cases c:ordered (gD all []) i k with
        | true=>exact behind k ok cr c R
        | false =>
         by_cases et:cg=some k
         .have:=(c5 k r y o et B hk Q).2.len
          omega
         .exact(e4 k r y gl B hk c et).new id C (by rw[e2,e3];exact u)
     .rw[Zk bx]
      have dm:μ' id≠none:=by
       rw[<-K id ?_]
       .exact dj
       .rcases ZI id (hs i).length with h6 | h6
        .exact .inl h6
        .right
         rcases ZI id (hs (i+1)).length with h7 | h7
         .exact absurd (.inr ⟨h6,h7⟩) bx
         .exact h7
      rcases b5 id dm with ⟨E,A,hl,hH,hw⟩ | u
      .refine .inl ⟨E,A,hl,hH,λk y hk C=>?_⟩
       rw[O,Zk (λe=>by subst e;rw[B] at hk;simp at hk;subst hk;exact bx (.inl C))]
       exact hw k y hk C
      .exact .inr u
    .intro k id hk h1 v dj
     rw[O]
     by_cases e:k=i
     .rw[Zn e]
     .rw[Zk e]
      refine b7 k id hk h1 v ?_
      rw[<-K id ?_]
      .exact dj
      .rcases Nat.lt_or_gt_of_ne e with h6 | h6
       .left;exact ZX v (f _ _ h6 (by omega))
       .right;exact aai (f _ _ h6 (by omega)) h1
    .intro k ok hk R e he hb
     rw[O] at R ⊢
     by_cases ek:k=i
     .subst ek
      rw[Q] at hk;simp at hk;subst hk
      split
      .rfl
      .exact b9 e he hb
     .rw[Zk ek] at R
      split
      .rfl
      .exact cS k ok hk R e he hb
    .refine hex.trans bq ?_ an.hr.lt
     rw[<-a7];exact f _ _ (aaY _) (by omega)
    .intro id s
     rw[K id,b8 id s]
     rcases s with u | u
     .left;rw[<-a7] at u;exact ZX u (f _ _ (aaY _) (by omega))
     .right;rw[<-a8] at u;exact aai (f _ _ J (Zt _)) u
    .have:(List.range all.length).countP (λk=>!(listed.setIfInBounds i true).getD k false) < (List.range all.length).countP (λk=>!listed.getD k false):=by
      have gen:∀ (l:List Nat),i∈l->l.Nodup->l.countP (λk=>!(listed.setIfInBounds i true).getD k false) < l.countP (λk=>!listed.getD k false):=by
       intro l
       induction l with
       | nil=>intro h;simp at h
       | cons x l gr =>
        intro ff ds
        simp only[aah] at ds
        by_cases e:x=i
        .subst e
         have dv:l.countP (λk=>!(listed.setIfInBounds x true).getD k false)=l.countP (λk=>!listed.getD k false):=by
          apply List.countP_congr
          intro k hk
          have ha:k≠x:=λq=>ds.1 (by rw[<-q];exact hk)
          rw[O,Zk ha]
         have h1:(listed.setIfInBounds x true).getD x false=true:=by rw[O,Zn rfl]
         rw[List.countP_cons,List.countP_cons,dv,h1,e1]
         simp
        .have ea:i∈l:=by
          rcases Zz.1 ff with u | u
          .exact absurd u.symm e
          .exact u
         have:=gr ea ds.2
         simp only[List.countP_cons,O,Zk e]
         simp only[O] at this
         omega
      exact gen _ (by simpa using J) List.nodup_range
     omega
   have br:∀ j want d,o.guard=some (j,want)->(all[j]?).bind (·.dst)=some d->aC X μ' w'.heap (Ts i d) (G.tmps.getD d undef):=λj want d hg db=>slot d (by
    simp only[ql,ZN];right;rw[hg];simp[db])
   have c3:=Lv (o:=o) λt hf=>slot t (by
    simp only[ql,ZN];left;right;exact hf)
   by_cases fl:∃ k0,cg=some k0/\listed.getD k0 false=true
   .obtain⟨k0,eb,fm⟩:=fl
    have hh:k0 < all.length:=by
     rcases ZI k0 all.length with u | u
     .exact u
     .simp[Zv,aaU (show listed.size<=k0 by omega)] at fm
    obtain⟨_,b,_,hb⟩:=I k0 hh
    obtain⟨hy,hB⟩:=c5 k0 r b o eb B hb Q
    let g:aF:=(List.range (hs i).length).map λid=>if id∈b.wr then (hs (k0+1)).view id else (hs i).view id
    have fs:∀ id,id < (hs i).length->aF.view g id=if id∈b.wr then (hs (k0+1)).view id else (hs i).view id:=by
     intro id s
     simp only[g,aF.view,Zi,Zm,abl s,Zq,ZC]
    have hlen:(hs (i+1)).length=(hs i).length:=by rw[<-e3,<-e2,hB.len]
    have cA:List.length g=(hs i).length:=by simp only[g,Zr,abw]
    have cv:=hB.step g cA fs
    have hn:j4 H g g []=j4 H (hs i) (hs (i+1)) r.wr:=by
     funext id
     unfold j4
     rw[Zk (by
            rintro (h1 | h1); · simp at h1
            .omega),Zk (by
              rw[hB.wr];rintro (h1 | h1); · simp at h1
              .omega)]
    refine AM rfl (by simpa using Q) cv W br c3 hr (λid s hm=>?_) (λh1=>by simp at h1) (λid h1 v=>by omega) (λx w1 Z1 a1 c9 da bq K=>closing x w1 Z1 a1 c9 (by rw[<-hn];exact da) (by rw[<-cA];exact bq) (λid s=>K id (by
     rw[cA];omega)))
    have a6:=DL ca s
    rw[fs id a6]
    by_cases cV:id∈b.wr
    .rw[Zn cV]
     rcases b5 id hm with ⟨E,A,hl,hH,hw⟩ | ⟨hl,_⟩
     .have hx:=(hw k0 b hb cV).1 fm
      rw[hH]
      refine V (k0+1) E id hx A (ZX a6 (f _ _ (by omega) (by omega))) (λk y h1 v M Y=>?_)
      have R:=(hw k y M Y).2 v
      have:=(place id (.inl s) k y M (by omega) Y (λe=>by rw[eb] at e;simp at e;omega)).1 R
      omega
     .have:(hs i).length<=h'.length:=by rw[<-a8];exact f _ _ (by omega) (Zt _)
      omega
    .rw[Zk cV]
     refine ch id a6 hm λk y hk bd C=>place id (.inl s) k y hk bd C λe=>?_
     rw[eb] at e;simp at e;subst e
     rw[hb] at hk;simp at hk;subst hk
     exact absurd C cV
   .have b1:∀ k,cg=some k->listed.getD k false=false:=λk e=>by
     cases hl:listed.getD k false with
     | false=>rfl
     | true=>exact absurd ⟨k,e,hl⟩ fl
    refine AM rfl (by simpa using Q) ca W br c3 hr (λid s hm=>ch id (DL ca s) hm λk y hk bd C=>place id (.inl s) k y hk bd C (b1 k))
     (λee id s hm=>ch id s hm λk y hk bd C=>place id (.inr (.inr ee)) k y hk bd C (b1 k)) (λid h1 v=>?_) closing
    apply aaB
    intro dm
    exact bl (b7 i id J h1 v dm)
 have eg:Inv (Array.replicate all.length false) a { w with drawn:=w.drawn+1 }:=by
  refine⟨Z,μ,cat h F,an.defers,an.size,λt=>⟨0,aaY _,by rw[en];exact an.tm t,λk o hk bs=>?_⟩,an.hr,λid ei=>?_,λk id hk h1 v ei=>?_,λk o hk R=>?_,?_,λ_ _=>rfl,by simp⟩
  .have:(Array.replicate all.length false).getD k false=false:=by
    simp only[Zv,Array.getElem?_replicate];split <;> rfl
   rw[this];simp
  .unfold cat
   by_cases hl:id < h.length
   .left
    refine⟨0,aaY _,by rw[a7];exact hl,by rw[Zn hl,a7],λk r hk C=>?_⟩
    have:(Array.replicate all.length false).getD k false=false:=by
     simp only[Zv,Array.getElem?_replicate];split <;> rfl
    rw[this];simp
   .rw[Zk hl]
    rcases ZI id h'.length with u | u
    .exact absurd (b2 id (by omega) u) ei
    .exact .inr ⟨u,rfl⟩
  .exfalso
   refine ei (b2 id ?_ ?_)
   .rw[<-a7];exact aai (f _ _ (aaY _) (by omega)) h1
   .rw[<-a8];exact ZX v (f _ _ hk (Zt _))
  .have:(Array.replicate all.length false).getD k false=false:=by
    simp only[Zv,Array.getElem?_replicate];split <;> rfl
   rw[this] at R;simp at R
  .exact⟨⟨rfl,rfl,rfl,Zt _⟩,iO.refl _ _ _,λ_ _ _=>rfl,λ_ h=>.inl h,λ_ _ _ _ h=>.inl h⟩
 have:=key all.length _ _ _ eg (by
  have:=List.countP_le_length (p:=λi=>!(Array.replicate all.length false).getD i false) (l:=List.range all.length)
  simpa using this)
 simpa using this
theorem BJ (hm:P.follows .mixedOrders=true) {id:Nat} {T b:Env} {h c:aF} {a:List Rec} (d:Tr P n all all T h a b c) (e:nG all=true) (f:xb all a) :
 dp P n (.region id all.toArray true) T h .normal b c:=zd hm d e f.X9
end
section
variable {P:Program} {n:Nat}
theorem sj.eval {Z:Nat->Prop} {μ:Mu} {F:View} {T:Env} {h:aF} {a:Act} {w:World} (s:sj n Z μ F T h a w) (x:Operand):aC Z μ w.heap (ev T x) (a.eval x):=by
 cases x with
 | tmp t=>exact s.tm t
 | const v=>exact iG v
 | global g=>exact .any _
 | func f=>exact .fn f [] [] #[] #[] rfl rfl (λi hi=>by simp at hi) (λi hi=>by simp at hi)
theorem Jd {all:List Oper} {id:Nat} {T M:Env} {h A:aF} {f:List Rec} (tr:Tr P n all all T h f M A):dp P n (.region id all.toArray false) T h .normal M A:=by
 obtain⟨an,Ts,hs,vs,N,y,O,E,g⟩:=GI all T h f M A tr
 have B:∀ i,i < all.length->∃ o r,all[i]?=some o/\f[i]?=some r:=λi hi=>⟨all[i],f[i]'(by omega),Zj hi,Zj (by omega)⟩
 have l:∀ i,i < all.length->(hs i).length<=(hs (i+1)).length:=λi hi=>by
  obtain⟨o,r,h1,I⟩:=B i hi
  exact vJ (g i o r h1 I).1
 have c:=NJ l
 refine⟨by rw[<-y,<-E];exact c _ _ (aaY _) (Zt _),λZ μ F a w G C=>wp_region ?_⟩
 have key:∀ k i,i+k=all.length->∀ D μ' H w',sj n D μ' F (Ts i) (hs i) H w'->Ext Z μ w h.length D μ' w'->(∀ id,id < h.length∨A.length<=id->μ' id=μ id)->(∀ id,(hs i).length<=id->id < A.length->μ' id=none) ->
   wpOps P all.toArray (λe' H w'=>e'=.normal/\∃ D μ',sj n D μ' F M A H w'/\Ext Z μ w h.length D μ' w'/\(∀ id,id < h.length∨A.length<=id->μ' id=μ id)) (List.range' i k) H w':=by
  intro k
  induction k with
  | zero =>
   intro i hi D μ' H w' b hex m _
   obtain rfl:i=all.length:=by omega
   simp only[List.range'_zero,wpOps]
   rw[O,E] at b
   exact⟨trivial,D,μ',b,hex,m⟩
  | succ k ih =>
   intro i hi D μ' H w' b hex m J
   obtain⟨o,r,Y,hr⟩:=B i (by omega)
   obtain⟨z,p,hT,aq,ar⟩:=g i o r Y hr
   have a1:=l i (by omega)
   have a6:(hs (i+1)).length<=A.length:=by rw[<-E];exact c _ _ (by omega) (Zt _)
   have Q:h.length<=(hs i).length:=by rw[<-y];exact c _ _ (aaY _) (by omega)
   rw[List.range'_succ,wpOps_cons]
   refine AM rfl (by simpa using Y) z b.size (λj want d _ _=>b.tm d) (λx _=>b.eval x) b.hr (λid s _=>?_) (λ_ id s _=>?_) (λid h1 I=>J id h1 (by omega)) ?_
   .unfold cat;rw[Zn (DL z s)]
   .unfold cat;rw[Zn s]
   .intro x w1 Z1 R S U u v
    refine ih (i+1) (by omega) Z1 R _ w1 ⟨?_,?_,λt=>?_,U.congr λid _=>?_⟩ (hex.trans u Q C.hr.lt) (λid s=>?_) (λid h1 I=>?_)
    .unfold Act.put;split <;> exact b.defers
    .unfold Act.put;split <;> simp[b.size]
    .rw[hT]
     cases V:o.dst with
     | none =>
      simp only[Env.put,Act.put]
      exact(b.tm t).mono u.mono
     | some d =>
      have K:d < H.tmps.size:=by unfold tK at p;rw[V] at p;rw[b.size];simpa using p
      simp only[Env.put,Act.put,Zv,aao]
      by_cases e:t=d
      .subst e;rw[Zn rfl,Zn rfl,Zn K];exact S
      .rw[Zk e,Zk (λq=>e q.symm)]
       have:=(b.tm t).mono u.mono
       simpa only [Zv] using this
    .simp only[cat,j4]
     by_cases W:id < (hs (i+1)).length
     .rw[Zn W]
      split
      .rfl
      .rename_i hn
       have L:id < (hs i).length:=by
        rcases ZI id (hs i).length with X | X
        .exact X
        .exact absurd (.inr ⟨X,W⟩) hn
       rw[Zn L,tM z L (λq=>hn (.inl q))]
     .rw[Zk W,Zk,Zk (by omega)]
      rintro (L | L)
      .have:=(yY z L).1;omega
      .omega
    .rw[v id (by omega),m id s]
    .rw[v id (by omega)];exact J id (by omega) I
 have:=key all.length 0 (by omega) Z μ a w (by rw[N,y];exact C) (Ext.refl _ _ _ _) (λ_ _=>rfl) (λid h1 I=>G id (by rw[<-y];exact h1) I)
 rw[aaW,List.range_eq_range']
 exact this
theorem dp.weaken {c:Code} {T q:Env} {h j:aF} {e:Exit} (x:dp P n c T h e q j) {Z:Nat->Prop} {μ:Mu} {F:View} {a:Act} {w:World} {r:Nat->Prop} {d:Mu} {l:World} {m:Nat}
  (f:∀ id,h.length<=id->id < j.length->μ id=none) (s:sj n Z μ F T h a w) (hex:Ext r d l m Z μ w) (hm:m<=h.length) (p:∀ id b o s,d id=some (b,o,s)->b < l.heap.size) :
  c.wp P (λe' t w'=>e'=e/\∃ k μ',sj n k μ' F q j t w'/\Ext r d l m k μ' w'/\(∀ id,id < h.length∨j.length<=id->μ' id=μ id)) a w :=
 wp_mono (x.2 Z μ F a w f s) λ_ _ _ ⟨he,k,μ',u,g,i⟩=>⟨he,k,μ',u,hex.trans g hm p,i⟩
theorem dp.seq {x y:Code} {T k l:Env} {h h1 f:aF} {e:Exit} (g:dp P n x T h .normal k h1) (i:dp P n y k h1 e l f):dp P n (.seq x y) T h e l f:=by
 refine⟨aai g.1 i.1,λZ μ F a w b s=>wp_seq (wp_mono (g.2 Z μ F a w (λid h1 f=>b id h1 (ZX f i.1)) s) ?_)⟩
 rintro e' o w' ⟨rfl,m,μ',j,hex,c⟩
 refine wp_mono (i.weaken (λid h1 f=>?_) j hex g.1 s.hr.lt) ?_
 .rw[c id (.inr h1)];exact b id (aai g.1 h1) f
 .rintro e' o w' ⟨he,m,μ',j,hex,d⟩
  refine⟨he,m,μ',j,hex,λid p=>?_⟩
  have:=g.1
  have:=i.1
  rw[d id (by omega),c id (by omega)]
theorem dp.Mq {x y:Code} {T c:Env} {h h1:aF} {e:Exit} (d:dp P n x T h e c h1) (he:e≠.normal):dp P n (.seq x y) T h e c h1:=by
 refine⟨d.1,λZ μ F a w b s=>wp_seq (wp_mono (d.2 Z μ F a w b s) ?_)⟩
 rintro e' f w' ⟨rfl,h⟩
 cases e' <;> first | exact absurd rfl he | exact⟨rfl,h⟩
theorem dp.here {c:Code} {T:Env} {h:aF} {e:Exit} (b:∀ (Q:Exit->Act->World->Prop) a w,Q e a w->c.wp P Q a w):dp P n c T h e T h :=
 ⟨Zt _,λZ μ _ a w _ s=>b _ a w ⟨rfl,Z,μ,s,Ext.refl _ _ _ _,λ_ _=>rfl⟩⟩
theorem dp.skip {T:Env} {h:aF} : dp P n .skip T h .normal T h:=.here λ_ _ _ h=>wp_skip h
theorem dp.label {T:Env} {h:aF} {l:Nat} : dp P n (.label l) T h .normal T h:=.here λ_ _ _ h=>wp_label h
theorem dp.exit {T:Env} {h:aF} {id:Nat} : dp P n (.exit id) T h (.exit id) T h:=.here λ_ _ _ h=>wp_exit h
theorem dp.goto {T:Env} {h:aF} {l:Nat} : dp P n (.goto l) T h (.goto l) T h:=.here λ_ _ _ h=>wp_goto h
theorem dp.ret {T:Env} {h:aF} : dp P n .ret T h .ret T h:=.here λ_ _ _ h=>wp_ret h
theorem dp.cond {c:Operand} {x y:Code} {T d:Env} {h f:aF} {e:Exit} {t:Bool} (i:ev T c=.val (.bool t)) (g:dp P n (if t then x else y) T h e d f):dp P n (.cond c x y) T h e d f:=by
 refine⟨g.1,λZ μ F a w b s=>wp_cond (t:=t) ?_ (g.2 Z μ F a w b s)⟩
 have:=s.eval c
 rw[i] at this
 exact fP this
def rK (id:Nat):Exit->Exit
 | .exit id'=>if id'=id then .normal else .exit id'
 | e=>e
theorem dp.block {id:Nat} {c:Code} {T d:Env} {h f:aF} {e:Exit} (g:dp P n c T h e d f):dp P n (.block id c) T h (rK id e) d f:=by
 refine⟨g.1,λZ μ F a w b s=>wp_block (wp_mono (g.2 Z μ F a w b s) ?_)⟩
 rintro e' j w' ⟨rfl,h⟩
 cases e' with
 | exit i =>
  simp only[Exit.inBlock,rK]
  split
  .exact⟨rfl,h⟩
  .exact⟨rfl,h⟩
 | _=>exact⟨rfl,h⟩
theorem CA {c:Code} {Q b:Exit->Act->World->Prop} (hq:∀ e a w,Q e a w->b e a w):∀ (k:Nat) (a:Act) (w:World),Code.rounds P c Q k a w->Code.rounds P c b k a w
 | 0,_,_,h=>h
 | k+1,a,w,h=>by
  rw[rounds_succ] at h ⊢
  refine wp_mono h λe a w h=>?_
  cases e with
  | normal=>exact CA hq k a w h
  | _=>exact hq _ _ _ h
def rN (P:Program) (n:Nat) (c:Code) (T:Env) (h:aF) (e:Exit) (T':Env) (h':aF):Prop :=
 h.length<=h'.length/\∃ k,∀ Z μ F a w,(∀ id,h.length<=id->id < h'.length->μ id=none)->sj n Z μ F T h a w ->
  Code.rounds P c (λe' a' w'=>e'=e/\∃ Z' μ',sj n Z' μ' F T' h' a' w'/\Ext Z μ w h.length Z' μ' w'/\(∀ id,id < h.length∨h'.length<=id->μ' id=μ id)) k a w
theorem rN.out {c:Code} {T d:Env} {h h1:aF} {e:Exit} (f:dp P n c T h e d h1) (he:e≠.normal):rN P n c T h e d h1:=by
 refine⟨f.1,1,λZ μ F a w b s=>?_⟩
 rw[rounds_succ]
 refine wp_mono (f.2 Z μ F a w b s) ?_
 rintro e' g w' ⟨rfl,h⟩
 cases e' <;> first | exact absurd rfl he | exact⟨rfl,h⟩
theorem rN.step {c:Code} {T r t:Env} {h h1 g:aF} {e:Exit} (i:dp P n c T h .normal r h1) (m:rN P n c r h1 e t g):rN P n c T h e t g:=by
 obtain⟨j,k,m⟩:=m
 refine⟨aai i.1 j,k+1,λZ μ F a w b s=>?_⟩
 rw[rounds_succ]
 refine wp_mono (i.2 Z μ F a w (λid h1 g=>b id h1 (ZX g j)) s) ?_
 rintro e' o w' ⟨rfl,p,μ',q,hex,d⟩
 refine CA ?_ k o w' (m p μ' F o w' (λid h1 g=>?_) q)
 .rintro e' o w' ⟨he,p,μ',q,l,f⟩
  refine⟨he,p,μ',q,hex.trans l i.1 s.hr.lt,λid u=>?_⟩
  have:=i.1
  rw[f id (by omega),d id (by omega)]
 .rw[d id (.inr h1)];exact b id (aai i.1 h1) g
theorem dp.loop {c:Code} {T d:Env} {h f:aF} {e:Exit} (g:rN P n c T h e d f):dp P n (.loop c) T h e d f:=by
 obtain⟨h1,k,i⟩:=g
 exact⟨h1,λZ μ F a w b s=>wp_loop_rounds k (i Z μ F a w b s)⟩
def jumps (P:Program) (c:Code) (Q:Exit->Act->World->Prop):Nat->Code->Act->World->Prop
 | 0,_,_,_=>False
 | k+1,x,a,w=>x.wp P (λe a w=>match e with
  | .goto l=>(match findLabel c l with
   | some rest=>jumps P c Q k rest a w
   | none=>Q (.goto l) a w)
  | e=>Q e a w) a w
theorem TY {c:Code} {Q:Exit->Act->World->Prop} {a:Act} {w:World} (k:Nat) (h:jumps P c Q k c a w):(Code.scope c).wp P Q a w:=by
 intro b K cs
 have key:∀ k x a w,jumps P c Q k x a w->∃ e p w',Q e p w'/\Arrives P (lone (b.at a (.code x :: .inScope c :: K)) cs w) b K cs e p w':=by
  intro k
  induction k with
  | zero=>intro x a w h;exact h.elim
  | succ k s =>
   intro x a w h
   obtain⟨e,f,g,hq,d⟩:=h b (.inScope c :: K) cs
   cases e with
   | normal=>exact⟨.normal,f,g,hq,Steps.trans d (.one step_inScope)⟩
   | exit id=>exact⟨.exit id,f,g,hq,λr hk=>d r (by simp[exitTo,hk])⟩
   | goto l =>
    simp only at hq
    cases q:findLabel c l with
    | some rest =>
     rw[q] at hq
     obtain⟨m,n,o,j,i⟩:=s rest f g hq
     exact⟨m,n,o,j,.of_steps (d _ (by simp[gotoIn,q])) i⟩
    | none =>
     rw[q] at hq
     exact⟨.goto l,f,g,hq,λr hk=>d r (by simp[gotoIn,q,hk])⟩
   | ret=>exact⟨_,f,g,hq,d⟩
   | panic t=>exact⟨_,f,g,hq,d⟩
   | outgrown=>exact⟨_,f,g,hq,d⟩
 obtain⟨e,p,w',hq,d⟩:=key k c a w h
 exact⟨e,p,w',hq,.of_steps (.one step_scope) d⟩
theorem Fm {c:Code} {Q d:Exit->Act->World->Prop} (hq:∀ e a w,Q e a w->d e a w):∀ (k:Nat) (x:Code) (a:Act) (w:World),jumps P c Q k x a w->jumps P c d k x a w
 | 0,_,_,_,h=>h
 | k+1,x,a,w,h=>by
  refine wp_mono h λe a w h=>?_
  cases e with
  | goto l =>
   simp only at h ⊢
   split
   .rename_i rest b;rw[b] at h;exact Fm hq k rest a w h
   .rename_i b;rw[b] at h;exact hq _ _ _ h
  | _=>exact hq _ _ _ h
def tS (P:Program) (n:Nat) (c x:Code) (T:Env) (h:aF) (e:Exit) (T':Env) (h':aF):Prop :=
 h.length<=h'.length/\∃ k,∀ Z μ F a w,(∀ id,h.length<=id->id < h'.length->μ id=none)->sj n Z μ F T h a w ->
  jumps P c (λe' a' w'=>e'=e/\∃ Z' μ',sj n Z' μ' F T' h' a' w'/\Ext Z μ w h.length Z' μ' w'/\(∀ id,id < h.length∨h'.length<=id->μ' id=μ id)) k x a w
def Mm (c:Code):Exit->Bool
 | .goto l=>(findLabel c l).isNone
 | _=>true
theorem tS.out {c x:Code} {T d:Env} {h h1:aF} {e:Exit} (f:dp P n x T h e d h1) (he:Mm c e=true):tS P n c x T h e d h1:=by
 refine⟨f.1,1,λZ μ F a w b s=>?_⟩
 refine wp_mono (f.2 Z μ F a w b s) ?_
 rintro e' g w' ⟨rfl,h⟩
 cases e' with
 | goto l =>
  simp only[Mm,Option.isNone_iff_eq_none] at he
  simp only[he];exact⟨trivial,h⟩
 | _=>exact⟨rfl,h⟩
theorem tS.jump {c x rest:Code} {T t u:Env} {h h1 g:aF} {e:Exit} {l:Nat} (i:dp P n x T h (.goto l) t h1) (v:findLabel c l=some rest) (o:tS P n c rest t h1 e u g):tS P n c x T h e u g:=by
 obtain⟨j,k,o⟩:=o
 refine⟨aai i.1 j,k+1,λZ μ F a w b s=>?_⟩
 refine wp_mono (i.2 Z μ F a w (λid h1 g=>b id h1 (ZX g j)) s) ?_
 rintro e' p w' ⟨rfl,q,μ',r,hex,d⟩
 simp only[v]
 refine Fm ?_ k rest p w' (o q μ' F p w' (λid h1 g=>?_) r)
 .rintro e' p w' ⟨he,q,μ',r,m,f⟩
  refine⟨he,q,μ',r,hex.trans m i.1 s.hr.lt,λid y=>?_⟩
  have:=i.1
  rw[f id (by omega),d id (by omega)]
 .rw[d id (.inr h1)];exact b id (aai i.1 h1) g
theorem dp.scope {c:Code} {T d:Env} {h f:aF} {e:Exit} (g:tS P n c c T h e d f):dp P n (.scope c) T h e d f:=by
 obtain⟨h1,k,i⟩:=g
 exact⟨h1,λZ μ F a w b s=>TY k (i Z μ F a w b s)⟩
def mE (vs:List V):Env:=λt=>vs.getD t .any
def uK (P:Program) (T:Env) (h:aF):ResultVar->Option V
 | .tmp t=>some (T t)
 | .cell a t=>(od P t (T a) h.view).map (·.1)
def nC (P:Program) (T:Env) (h:aF):List ResultVar->Option (List V)
 | []=>some []
 | r :: rest=>match uK P T h r,nC P T h rest with
  | some v,some vs=>some (v :: vs)
  | _,_=>none
def Pd (P:Program) (fn:Func) (T:Env) (h:aF):Option V:=match nC P T h fn.results.toList with
 | some [v]=>some v
 | some vs=>some (.bt vs)
 | none=>none
theorem MA {Z:Nat->Prop} {μ:Mu} {F:View} {T:Env} {h:aF} {a:Act} {w:World} (s:sj n Z μ F T h a w) (f:ResultVar->Sem Value) (o:∀ t,f (.tmp t)=pure (a.tmps.getD t undef))
  (q:∀ p t,f (.cell p t)=(do loadVar t (<-asAddr (a.tmps.getD p undef)))):∀ (l:List ResultVar) (vs:List V),nC P T h l=some vs ->
  ∃ xs:List Value,(l.mapM f).run P w=.ok xs w/\gS Z μ w.heap vs xs
 | [],vs,d=>by
  simp only[nC,Zl] at d;subst d
  exact⟨[],rfl,rfl,λi hi=>by simp at hi⟩
 | r :: l,vs,d=>by
  simp only[nC] at d
  split at d
  .rename_i v B h1 I
   simp only[Zl] at d;subst d
   obtain⟨xs,J,hr⟩:=MA s f o q l B I
   have one:∃ x,(f r).run P w=.ok x w/\aC Z μ w.heap v x:=by
    cases r with
    | tmp t =>
     simp only[uK,Zl] at h1;subst h1
     rw[o]
     exact⟨_,rfl,s.tm t⟩
    | cell p t =>
     simp only[uK,Zu] at h1
     obtain⟨⟨v',eff,rd⟩,c,rfl⟩:=h1
     have hp:=s.tm p
     rw[q]
     unfold od at c
     split at c
     .rename_i id i j C
      rw[C] at hp
      obtain⟨b,o0,sz,hm,g⟩:=oW hp
      split at c
      .rename_i esz es hH
       split at c
       .rename_i hi
        simp only[Zu,Zo] at c
        obtain⟨D,k,rfl,_,_⟩:=c
        have u:=s.hr.obj id
        have z:cat h F id=.arr esz es:=by
         simp only[cat];rw[Zn (jj (by rw[hH];simp)),hH]
        rw[z] at u
        obtain⟨y,E,m⟩:=vX (P:=P) (rowOf u hm hi).2 k
        exact⟨y,by rw[g];simp[asAddr,E],m⟩
       .simp at c
      .simp at c
     .rename_i e j C
      rw[C] at hp
      obtain⟨b,off,K,A,g⟩:=uT hp
      simp only[Zu,Zo] at c
      obtain⟨D,k,rfl,_,_⟩:=c
      obtain⟨y,E,m⟩:=vX (P:=P) A k
      exact⟨y,by rw[g];simp[asAddr,E],m⟩
     .simp at c
   obtain⟨x,G,H⟩:=one
   refine⟨x :: xs,?_,⟨by simp[hr.1],λi hi=>?_⟩⟩
   .simp only[List.mapM_cons,Sem.run_bind]
    rw[G]
    simp only[Result.andThen_ok,Sem.run_bind]
    rw[J]
    rfl
   .cases i with
    | zero=>exact H
    | succ i=>simpa using hr.2 i (by simpa using hi)
  .simp at d
theorem bZ.Mg {f:FuncId} {fn:Func} {c:Code} {vs:List V} {C:Env} {h A:aF} {e:Exit} {r:V} (L:P.funcs[f]?=some fn) (M:fn.body=some c) (Q:vs.length<=fn.ntmps)
  (K:dp P fn.ntmps c (mE vs) h e C A) (he:e=.ret∨e=.normal) (hr:Pd P fn C A=some r):bZ P f vs h r A:=by
 refine⟨K.1,λZ μ F w xs j D l=>calls_of_wp L M ?_⟩
 have m:(xs.toArray ++ Array.replicate (fn.ntmps - xs.toArray.size) undef).size=fn.ntmps:=by
  have:=j.1;simp;omega
 have q:sj fn.ntmps Z μ F (mE vs) h { tmps:=xs.toArray ++ Array.replicate (fn.ntmps - xs.toArray.size) undef,defers:=[] } w:=by
  refine⟨rfl,m,λt=>?_,D⟩
  unfold mE
  by_cases E:t < vs.length
  .have:=j.2 t E
   have G:t < xs.length:=j.1 ▸ E
   have g:(xs.toArray ++ Array.replicate (fn.ntmps - xs.toArray.size) undef).getD t undef=xs.getD t undef:=by
    rw[Zv,aaP (by simpa using G)]
    simp[Zi]
   show aC Z μ w.heap (vs.getD t .any) ((xs.toArray ++ Array.replicate (fn.ntmps - xs.toArray.size) undef).getD t undef)
   rw[g];exact this
  .have:vs.getD t .any=.any:=by simp[Zi,ZT (Nat.le_of_not_lt E)]
   rw[this];exact .any _
 refine wp_mono (K.2 Z μ F _ w l q) ?_
 rintro e' o w' ⟨rfl,B,μ',s,hex,k⟩
 have u:∃ x,(results fn o.tmps).run P w'=.ok x w'/\aC B μ' w'.heap r x:=by
  unfold Pd at hr
  have go:∀ d,nC P C A fn.results.toList=some d->(match d with | [v]=>some v | vs=>some (.bt vs))=some r->∃ x,(results fn o.tmps).run P w'=.ok x w'/\aC B μ' w'.heap r x:=by
   intro d h1 g
   unfold results
   obtain⟨n,H,b⟩:=MA s (fun
     | .tmp t=>pure (o.tmps.getD t undef)
     | .cell p t=>do loadVar t (<-asAddr (o.tmps.getD p undef))) (λ_=>rfl) (λ_ _=>rfl) _ _ h1
   rw[Array.mapM_eq_mapM_toList]
   simp only[Sem.run_bind,Sem.run_map]
   show ∃ x,(((((fn.results.toList.mapM (fun
     | .tmp t=>pure (o.tmps.getD t undef)
     | .cell p t=>do loadVar t (<-asAddr (o.tmps.getD p undef)):ResultVar->Sem Value)).run P w').andThen λa w'=>.ok a.toArray w').andThen λa w'=>(pure (if h:a.size=1 then a[0] else Value.tuple a):Sem Value).run P w')=.ok x w')/\_
   rw[H]
   simp only[Result.andThen_ok,Sem.run_pure]
   match d,n,b,g with
   | [v],[x],b,g =>
    simp only[Zl] at g
    subst g
    exact⟨x,rfl,b.2 0 (by simp)⟩
   | [],[],b,g =>
    simp only[Zl] at g
    subst g
    exact⟨.tuple #[],rfl,.bt _ _ rfl (λi hi=>by simp at hi)⟩
   | v1 :: v2 :: d,N :: O :: n,b,g =>
    simp only[Zl] at g
    subst g
    refine⟨.tuple (N :: O :: n).toArray,by simp,.bt _ _ (by simpa using b.1) (λi hi=>?_)⟩
    have:=b.2 i hi
    simpa [Zv,Zi] using this
   | [_],[],b,_=>exact absurd b.1 (by simp)
   | [_],_ :: _ :: _,b,_=>exact absurd b.1 (by simp)
   | [],_ :: _,b,_=>exact absurd b.1 (by simp)
   | _ :: _ :: _,[],b,_=>exact absurd b.1 (by simp)
   | _ :: _ :: _,[_],b,_=>exact absurd b.1 (by simp)
  split at hr
  .rename_i v I;exact go _ I hr
  .rename_i d J I
   refine go _ I ?_
   split
   .rename_i v;exact absurd rfl (J v)
   .exact hr
  .simp at hr
 obtain⟨x,y,z⟩:=u
 rcases he with rfl | rfl
 .exact⟨s.defers,x,y,x,B,μ',rfl,z,s.hr,hex,k⟩
 .exact⟨s.defers,x,y,x,B,μ',rfl,z,s.hr,hex,k⟩
end
end Gv
