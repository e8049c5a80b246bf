/-
  Part 3 of the proof: what the machine does and what the functions answer.
  Conditions: those that each lemma names.
-/
import Derived.Orders
import Derived.LoopN
import Derived.Scope
import Derived.Test.YtiophifnkakjgaaGreatSGzB7B
set_option linter.unusedSimpArgs false
set_option linter.unusedVariables false
set_option maxRecDepth 100000
set_option maxHeartbeats 20000000
namespace Gv
open Go
section
variable {Z:Nat->Prop} {μ μ':Mu} {w w':World} {P:Program} {H:View} {n:Nat} {v:V} {eff:bh} {rd:List Nat}
theorem rj {c:Operand->Value} {o:Oper} {b:Builtin} {args:Array Operand} {a:Array TypeId} (d:o.op=.call { callee:=.builtin b,args:=args,argTypes:=a }) :
  execOp c o=builtin b a o.type (args.map fun | .const _=>true | _=>false) (args.map c):=by
 unfold execOp
 rw[d]
 rfl
def pb (k:Nat) (x:Value) (b:Bool):Prop:=match k,x with
 | 0,.slice a _ _=>a.isNone=b
 | 1,.pointer a=>a.isNone=b
 | 2,.map a=>a.isNone=b
 | 3,.nilFunc=>b=true
 | 3,.func _ _ _=>b=false
 | _,_=>False
theorem Lg {k:Nat} {x:V} {d:Value} {b:Bool} (h:eK k x=some b) (c:ax Z μ w.heap x d):pb k d b:=by
 unfold eK at h
 split at h
 .simp at h;subst h;cases c with | emp k a h1 e=>rw[h1 rfl];rfl
 .simp at h;subst h
  cases c with
  | emp k a h1 e =>
   cases a with
   | none=>exact absurd rfl (e rfl)
   | some a=>rfl
 .simp at h;subst h;cases c;rfl
 .simp at h;subst h;cases c;rfl
 .simp at h;subst h;cases c;rfl
 .simp at h;subst h;cases c;rfl
 .simp at h;subst h;cases c;rfl
 .simp at h;subst h;cases c;rfl
 .simp at h;subst h;cases c;rfl
 .simp at h;subst h;cases c;rfl
 .simp at h;subst h;cases c;rfl
 .simp at h;subst h;cases c;rfl
 .simp at h
theorem Gz {t:TypeId} {k:Nat} (h:je P t=some k):(k=0/\∃ e,P.underlying t=some (.slice e))∨(k=1/\∃ e,P.underlying t=some (.pointer e)) ∨
  (k=2/\∃ e f,P.underlying t=some (.map e f))∨(k=3/\∃ p q r,P.underlying t=some (.func p q r)):=by
 unfold je at h
 split at h
 .rename_i e hu;simp at h;exact .inl ⟨h.symm,e,hu⟩
 .rename_i e hu;simp at h;exact .inr (.inl ⟨h.symm,e,hu⟩)
 .rename_i e f hu;simp at h;exact .inr (.inr (.inl ⟨h.symm,e,f,hu⟩))
 .rename_i p q r hu;simp at h;exact .inr (.inr (.inr ⟨h.symm,p,q,r,hu⟩))
 .simp at h
def pV (P:Program) (w:World) (t:TypeId) (x y:Operand) (xv yv:Value) (b:Bool):Prop :=
 (Op.equal t xv yv).run P w=.ok b w/\(∀ op,(eqGuard op t x y xv yv).run P w=.ok () w)/\(binOp .eql t xv yv=(do pure (.bool (<-Op.equal t xv yv))))/\(binOp .neq t xv yv=(do pure (.bool (!(<-Op.equal t xv yv)))))
theorem jw (t:TypeId) (x y:Value):Op.equal t x y=Op.equalIn (9999+1) t x y:=rfl
theorem La {t e:TypeId} {x y:Operand} {a d:Option Addr} {l c f g:Nat} {b:Bool} (hu:P.underlying t=some (.slice e)) (h:(a.isNone=true/\d.isNone=b)∨(a.isNone=b/\d.isNone=true)):pV P w t x y (.slice a l c) (.slice d f g) b:=by
 refine⟨?_,λop=>by cases op <;> rfl,rfl,rfl⟩
 rw[jw]
 generalize (9999:Nat)=depth
 simp only[Op.equalIn,Sem.run_bind,bj hu,Result.andThen_ok]
 cases a with
 | none=>cases d <;> simp_all
 | some a=>cases d <;> simp_all
theorem Gt {t e:TypeId} {x y:Operand} {a c:Option Addr} {b:Bool} (hu:P.underlying t=some (.pointer e)) (h:(a.isNone=true/\c.isNone=b)∨(a.isNone=b/\c.isNone=true)):pV P w t x y (.pointer a) (.pointer c) b:=by
 refine⟨?_,λop=>by cases op <;> rfl,rfl,rfl⟩
 rw[jw]
 generalize (9999:Nat)=depth
 simp only[Op.equalIn,Sem.run_bind,bj hu,Result.andThen_ok]
 cases a with
 | none=>cases c <;> simp_all
 | some a=>cases c <;> simp_all
theorem PJ {t e f:TypeId} {x y:Operand} {a c:Option Nat} {b:Bool} (hu:P.underlying t=some (.map e f)) (h:(a.isNone=true/\c.isNone=b)∨(a.isNone=b/\c.isNone=true)):pV P w t x y (.map a) (.map c) b:=by
 refine⟨?_,λop=>by cases op <;> rfl,rfl,rfl⟩
 rw[jw]
 generalize (9999:Nat)=depth
 simp only[Op.equalIn,Sem.run_bind,bj hu,Result.andThen_ok]
 cases a with
 | none=>cases c <;> simp_all
 | some a=>cases c <;> simp_all
theorem ND {t:TypeId} {p q:Array TypeId} {r:Bool} {x y:Operand} (hu:P.underlying t=some (.func p q r)) :
  pV P w t x y .nilFunc .nilFunc true/\(∀ f m k,pV P w t x y .nilFunc (.func f m k) false)/\(∀ f m k,pV P w t x y (.func f m k) .nilFunc false):=by
 refine⟨⟨?_,λop=>by cases op <;> rfl,rfl,rfl⟩,λf m k=>⟨?_,λop=>by cases op <;> rfl,rfl,rfl⟩,λf m k=>⟨?_,λop=>by cases op <;> rfl,rfl,rfl⟩⟩
 all_goals
  rw[jw]
  generalize (9999:Nat)=depth
  simp only[Op.equalIn,Sem.run_bind,bj hu,Result.andThen_ok,Sem.run_pure]
theorem Pf {t:TypeId} {x y:Operand} {n o:V} {j d:Value} {b:Bool} (v:ax Z μ w.heap n j) (h1:ax Z μ w.heap o d) (h:Bt P t n o=some b):pV P w t x y j d b:=by
 have g:∃ k m l,je P t=some k/\eK k n=some m/\eK k o=some l/\((m=true/\l=b)∨(m=b/\l=true)):=by
  unfold Bt at h
  split at h
  .rename_i k hk
   split at h
   .rename_i l s u
    simp at h;subst h
    exact⟨k,true,_,hk,s,u,.inl ⟨rfl,rfl⟩⟩
   .rename_i l _ s u
    simp at h;subst h
    exact⟨k,_,true,hk,s,u,.inr ⟨rfl,rfl⟩⟩
   .simp at h
  .simp at h
 obtain⟨k,m,l,hk,z,A,i⟩:=g
 have c:=Lg z v
 have a:=Lg A h1
 clear h v h1 z A
 rcases Gz hk with ⟨rfl,e,hu⟩ | ⟨rfl,e,hu⟩ | ⟨rfl,e,f,hu⟩ | ⟨rfl,p,q,r,hu⟩
 .cases j <;> simp only[pb] at c
  cases d <;> simp only[pb] at a
  exact La hu (by rw[c,a];exact i)
 .cases j <;> simp only[pb] at c
  cases d <;> simp only[pb] at a
  exact Gt hu (by rw[c,a];exact i)
 .cases j <;> simp only[pb] at c
  cases d <;> simp only[pb] at a
  exact PJ hu (by rw[c,a];exact i)
 .obtain⟨g1,g2,g3⟩:=ND (P:=P) (w:=w) (x:=x) (y:=y) hu
  cases j <;> simp only[pb] at c
  .cases d <;> simp only[pb] at a
   .subst c a
    simp at i
   .subst c a
    have:b=false:=by simpa using i.symm
    subst this;exact g3 _ _ _
  .cases d <;> simp only[pb] at a
   .subst c a
    have:b=false:=by simpa using i.symm
    subst this;exact g2 _ _ _
   .subst c a
    have:b=true:=by simpa using i.symm
    subst this;exact g1
theorem QK {o:Oper} {T:Env} {a:Act} (h:bY P o T H n=some (v,eff,rd)) (A:∀ x∈o.op.operands,ax Z μ w.heap (ev T x) (a.eval x)) (c:Ctx Z μ w.heap H rd n eff) :
  aV Z μ w n v eff ((execOp a.eval o).run P w):=by
 unfold bY at h
 split at h
 ·
  rename_i x g
  simp only[Sq,Su] at h
  obtain⟨rfl,rfl,rfl⟩:=h
  rw[g] at A
  refine⟨.value (a.eval x),w,μ,by simp[execOp,g],.inl ⟨_,rfl,A x (by simp[Op.operands])⟩,ew.refl _,ig⟩
 .rename_i x g
  simp only[Sq,Su] at h
  obtain⟨rfl,rfl,rfl⟩:=h
  rw[g] at A
  refine⟨.value (a.eval x),w,μ,by simp[execOp,g],.inl ⟨_,rfl,A x (by simp[Op.operands])⟩,ew.refl _,ig⟩
 ·
  rename_i cc x y g
  rw[g] at A
  split at h
  .rename_i t ht
   simp only[Sq,Su] at h
   obtain⟨rfl,rfl,rfl⟩:=h
   have h1:=A cc (by simp[Op.operands])
   rw[ht] at h1
   have h1:=eP h1
   refine⟨.value (if t then a.eval x else a.eval y),w,μ,by simp[execOp,g,h1,asBool],.inl ⟨_,rfl,?_⟩,ew.refl _,ig⟩
   cases t with
   | true=>exact A x (by simp[Op.operands])
   | false=>exact A y (by simp[Op.operands])
  .simp at h
 ·
  rename_i e g
  split at h
  .rename_i z hz
   have W:∃ i U,P.info? e=some i/\i.zero=some U/\z=(fg U).cells:=by
    cases hi:P.info? e with
    | none=>simp[zeroCells,hi] at hz
    | some i =>
     obtain⟨U,h1,N⟩:=ij hi hz
     exact⟨i,U,rfl,h1,N⟩
   obtain⟨i,U,hi,an,rfl⟩:=W
   have:=ID (P:=P) (x:=U) (t:=e) h (λV=>gh (gg _) V) c
   have C:(execOp a.eval o).run P w=((do pure (Next.value (.pointer (some (<-newVar e U)))):Sem Next).run P w):=by
    unfold execOp
    rw[g]
    simp[Instr.alloc,jv hi an]
   rw[C];exact this
  .simp at h
 ·
  rename_i e x g
  rw[g] at A
  have:=Qe (P:=P) (t:=e) h (λV=>gh (A x (by simp[Op.operands])) V) c
  have C:execOp a.eval o=(do pure (Next.value (<-Instr.box e (a.eval x)))):=by
   unfold execOp;rw[g]
  rw[C];exact this
 ·
  rename_i t parts g
  rw[g] at A
  have C:execOp a.eval o=(do pure (Next.value (<-Instr.build t (parts.map λ(i,x)=>(i,a.eval x))))):=by
   unfold execOp;rw[g]
  rw[C]
  refine LM h ?_
  rw[Array.toList_map]
  exact zu _ (λx E=>A x (by simpa [Op.operands] using E))
 ·
  rename_i t len parts g
  rw[g] at A
  have C:execOp a.eval o=(do pure (Next.value (<-Instr.buildSlice t len (parts.map λ(i,x)=>(i,a.eval x))))):=by
   unfold execOp;rw[g]
  rw[C]
  refine B8 h ?_ c
  rw[Array.toList_map]
  exact zu _ (λx E=>A x (by simpa [Op.operands] using E))
 ·
  rename_i t x g
  rw[g] at A
  have C:execOp a.eval o=(do pure (Next.value (<-Instr.loadAt t (a.eval x)))):=by
   unfold execOp;rw[g]
  rw[C]
  exact Nn h (A x (by simp[Op.operands])) c
 ·
  rename_i t x y g
  rw[g] at A
  have C:execOp a.eval o=(do Instr.storeAt t (a.eval x) (a.eval y);pure Next.skip):=by
   unfold execOp;rw[g]
  rw[C]
  exact MX h (A x (by simp[Op.operands])) (A y (by simp[Op.operands])) c
 ·
  rename_i x g
  rw[g] at A
  have h1:=A x (by simp[Op.operands])
  split at h
  .rename_i id i j E
   simp only[Sq,Su] at h
   obtain⟨rfl,rfl,rfl⟩:=h
   rw[E] at h1
   have N:=h1
   obtain⟨b,o0,s,hm,he⟩:=mf h1
   exact⟨.value (a.eval x),w,μ,by simp[execOp,g,he],.inl ⟨_,rfl,N⟩,ew.refl _,ig⟩
  .rename_i e j E
   simp only[Sq,Su] at h
   obtain⟨rfl,rfl,rfl⟩:=h
   rw[E] at h1
   have N:=h1
   obtain⟨b,off,hz,ar,he⟩:=rp h1
   exact⟨.value (a.eval x),w,μ,by simp[execOp,g,he],.inl ⟨_,rfl,N⟩,ew.refl _,ig⟩
  .rename_i f p q E
   simp only[Sq,Su] at h
   obtain⟨rfl,rfl,rfl⟩:=h
   rw[E] at h1
   have N:=h1
   generalize he:a.eval x=y at h1 N
   cases h1 with
   | fn _ _ _ O bs _ _ _ _=>exact⟨.value (.func (.func f) O bs),w,μ,by simp[execOp,g,he],.inl ⟨_,rfl,N⟩,ew.refl _,ig⟩
  .simp at h
 ·
  rename_i t x f g
  rw[g] at A
  have C:execOp a.eval o=(do pure (Next.value (<-Instr.fieldAt t (a.eval x) f))):=by
   unfold execOp;rw[g]
  rw[C]
  exact Dz h (A x (by simp[Op.operands]))
 ·
  rename_i t x f g
  rw[g] at A
  have C:execOp a.eval o=(do pure (Next.value (<-Instr.field t (a.eval x) f))):=by
   unfold execOp;rw[g]
  rw[C]
  exact KK h (A x (by simp[Op.operands]))
 ·
  rename_i t x i g
  rw[g] at A
  have C:execOp a.eval o=(do pure (Next.value (<-Instr.indexAt t (a.eval x) (a.eval i)))):=by
   unfold execOp;rw[g]
  rw[C]
  exact Ds h (A x (by simp[Op.operands])) (A i (by simp[Op.operands]))
 ·
  rename_i t x lo hi X g
  split at h
  .refine qP h A (λQ B=>?_)
   rw[g] at B
   have J:=B x (by simp[Op.operands])
   have h1:lo.map Q=lo.map a.eval:=by cases lo with | none=>rfl | some y=>simp[B y (by simp[Op.operands])]
   have N:hi.map Q=hi.map a.eval:=by cases hi with | none=>rfl | some y=>simp[B y (by simp[Op.operands])]
   have h3:X.map Q=X.map a.eval:=by cases X with | none=>rfl | some y=>simp[B y (by simp[Op.operands])]
   unfold execOp;rw[g];simp only[J,h1,N,h3]
  .rw[g] at A
   have C:execOp a.eval o=(do pure (Next.value (<-Instr.sliceAt t (a.eval x) (lo.map a.eval) (hi.map a.eval) (X.map a.eval)))):=by
    unfold execOp;rw[g]
   rw[C]
   exact KJ h (A x (by simp[Op.operands])) (Bk lo (λy S=>A y (by simp[Op.operands] at S ⊢;simp[S]))) (Bk hi (λy S=>A y (by simp[Op.operands] at S ⊢;simp[S]))) (Bk X (λy S=>A y (by simp[Op.operands] at S ⊢;simp[S])))
 ·
  rename_i t l cc g
  rw[g] at A
  have C:execOp a.eval o=(do pure (Next.value (<-Instr.makeSlice t (a.eval l) (a.eval cc)))):=by
   unfold execOp;rw[g]
  rw[C]
  exact Dx h (A l (by simp[Op.operands])) (A cc (by simp[Op.operands])) c
 ·
  rename_i t r g
  split at h
  .simp only[Sq,Su] at h
   obtain⟨rfl,rfl,rfl⟩:=h
   refine⟨.value (.map (some w.heap.size)),w.alloc (.map #[] 0),μ.set n (w.heap.size,0,0),by simp[execOp,g,Instr.makeMap],.inl ⟨_,rfl,.mp n w.heap.size 0 0 (by simp[Mu.set])⟩,ir _ _,?_⟩
   refine⟨w.heap.size,0,0,Sy _,by rw[heap_alloc];simp,rfl,by rw[heap_alloc];exact ey _ _,?_⟩
   intro b o0 s E
   simp only[Mu.set,if_true,Sq,Su] at E
   obtain⟨rfl,rfl,rfl⟩:=E
   exact⟨#[],by rw[heap_alloc];simp,rfl,λi hi=>by simp at hi⟩
  .simp at h
 ·
  rename_i f first cap g
  simp only[Sq,Su] at h
  obtain⟨rfl,rfl,rfl⟩:=h
  rw[g] at A
  have h1:=Iz (T:=T) (a:=a) first (λx E=>A x (by simp[Op.operands,E]))
  have N:=Iz (T:=T) (a:=a) cap (λx E=>A x (by simp[Op.operands,E]))
  exact⟨.value (.func (.func f) (first.map a.eval) (cap.map a.eval)),w,μ,by simp[execOp,g,Instr.makeFunc],.inl ⟨_,rfl,.fn f _ _ _ _ h1.1 N.1 h1.2 N.2⟩,ew.refl _,ig⟩
 ·
  rename_i t m k ok g
  rw[g] at A
  have C:execOp a.eval o=(do pure (Next.value (<-Instr.lookup t (a.eval m) (a.eval k) ok))):=by
   unfold execOp;rw[g]
  rw[C]
  exact JP h (A m (by simp[Op.operands])) (A k (by simp[Op.operands])) c
 .rename_i t m k x g
  rw[g] at A
  have C:execOp a.eval o=(do Instr.mapUpdate t (a.eval m) (a.eval k) (a.eval x);pure Next.skip):=by
   unfold execOp;rw[g]
  rw[C]
  exact vu h (A m (by simp[Op.operands])) (A k (by simp[Op.operands])) (A x (by simp[Op.operands])) c
 .rename_i t m k x g
  rw[g] at A
  have C:execOp a.eval o=(do Instr.mapUpdate t (a.eval m) (a.eval k) (a.eval x);pure Next.skip):=by
   unfold execOp;rw[g]
  rw[C]
  exact vu h (A m (by simp[Op.operands])) (A k (by simp[Op.operands])) (A x (by simp[Op.operands])) c
 .rename_i t m k g
  rw[g] at A
  have C:execOp a.eval o=(do pure (Next.value (<-Instr.mapEntry t (a.eval m) (a.eval k)))):=by
   unfold execOp;rw[g]
  rw[C]
  exact D3 h (A m (by simp[Op.operands])) (A k (by simp[Op.operands])) c
 .rename_i t m s x g
  rw[g] at A
  have C:execOp a.eval o=(do Instr.entryStore t (a.eval m) (a.eval s) (a.eval x);pure Next.skip):=by
   unfold execOp;rw[g]
  rw[C]
  exact BE h (A m (by simp[Op.operands])) (A s (by simp[Op.operands])) (A x (by simp[Op.operands])) c
 ·
  rename_i t i g
  rw[g] at A
  have h1:=A t (by simp[Op.operands])
  split at h
  .rename_i vs aq
   split at h
   .rename_i hi
    simp only[Sq,Su] at h
    obtain⟨rfl,rfl,rfl⟩:=h
    rw[aq] at h1
    generalize he:a.eval t=y at h1
    cases h1 with
    | aS _ O hl hr =>
     have h3:=hr i hi
     have Y:i < O.size:=hl ▸ hi
     simp only[Sz,SP Y,SJ] at h3
     exact⟨.value O[i],w,μ,by simp[execOp,g,he,Instr.extract,Y],.inl ⟨_,rfl,h3⟩,ew.refl _,ig⟩
   .simp at h
  .simp at h
 ·
  rename_i t x g
  rw[g] at A
  have h1:=A x (by simp[Op.operands])
  split at h
  .rename_i s hs
   split at h
   .rename_i M
    simp only[Sq,Su] at h
    obtain⟨rfl,rfl,rfl⟩:=h
    rw[hs] at h1
    have h1:=eP h1
    have hu:P.underlying t=some .string:=by
     rw[g] at M
     unfold isStr at M
     simp only at M
     split at M <;> simp_all
    refine⟨.value (.pointer (some ⟨w.heap.size,0,none⟩)),w.alloc (.stringIter s 0),μ.set n (w.heap.size,0,0),by simp[execOp,g,h1,Instr.range,bj hu],.inl ⟨_,rfl,?_⟩,ir _ _,?_⟩
    .have:=ax.ptr (Z:=Z) (μ:=μ.set n (w.heap.size,0,0)) (hp:=(w.alloc (.stringIter s 0)).heap) n 0 0 w.heap.size 0 0 (by simp[Mu.set])
     simpa using this
    .refine⟨w.heap.size,0,0,Sy _,by rw[heap_alloc];simp,rfl,by rw[heap_alloc];exact ey _ _,?_⟩
     intro b o0 s' E
     simp only[Mu.set,if_true,Sq,Su] at E
     obtain⟨rfl,rfl,rfl⟩:=E
     exact⟨rfl,by rw[heap_alloc];simp⟩
   .simp at h
  .simp at h
 ·
  rename_i it g
  rw[g] at A
  have C:execOp a.eval o=(do pure (Next.value (<-Instr.next (a.eval it) true o.type))):=by
   unfold execOp;rw[g]
  rw[C]
  exact Ox h (A it (by simp[Op.operands])) c
 ·
  rename_i s d x g
  split at h
  .rw[g] at A
   have C:execOp a.eval o=(do pure (Next.value (<-convert s d (a.eval x)))):=by
    unfold execOp;rw[g]
   rw[C]
   exact Gx h (A x (by simp[Op.operands])) c
  .refine qP h A (λQ B=>?_)
   rw[g] at B
   have J:=B x (by simp[Op.operands])
   unfold execOp;rw[g];simp only[J]
 ·
  rename_i b args R g
  have D:execOp a.eval o=builtin b R o.type (args.map fun | .const _=>true | _=>false) (args.map a.eval):=rj g
  have G:dM P o T=some (v,eff,rd)->aV Z μ w n v eff ((execOp a.eval o).run P w):=by
   intro h
   refine qP h A (λQ B=>?_)
   rw[g] at B
   rw[rj g,rj g]
   have:args.map Q=args.map a.eval:=by
    apply Array.map_congr_left
    intro x E
    exact B x (by simp[Op.operands,Call.operands,E])
   rw[this]
  have I:∀ x∈args.toList,ax Z μ w.heap (ev T x) (a.eval x):=λx E=>A x (by rw[g];simp[Op.operands,Call.operands];simpa using E)
  have J:∀ {k:Nat},k < R.size->R[k]?=some (R.getD k 0):=by
   intro k hk
   simp[Sz,hk]
  have L:∀ x,args.toList=[x]->args.map a.eval = #[a.eval x]:=by
   intro x E
   apply Array.ext'
   simp[E]
  have K:∀ x y,args.toList=[x,y]->args.map a.eval = #[a.eval x,a.eval y]:=by
   intro x y E
   apply Array.ext'
   simp[E]
  split at h
  .rename_i x u
   split at h
   .rename_i F
    rw[D,L x u]
    exact PO h (J F) (I x (by rw[u];simp)) c
   .simp at h
  .rename_i x y u
   split at h
   .rename_i F
    rw[D,K x y u]
    exact Jr h (J (by omega)) (J (by omega)) F.2 (I x (by rw[u];simp)) (I y (by rw[u];simp)) c
   .split at h
    .rename_i F
     rw[D,K x y u]
     exact Og h (J (by omega)) (J (by omega)) F.2 (I x (by rw[u];simp)) (I y (by rw[u];simp)) c
    .simp at h
  .rename_i x u
   split at h
   .rename_i F
    rw[D,L x u]
    exact PF h (J F) (I x (by rw[u];simp)) c
   .simp at h
  .rename_i x y u
   split at h
   .rename_i F
    rw[D,K x y u]
    exact Nq h (J F) (I x (by rw[u];simp)) (I y (by rw[u];simp)) c
   .simp at h
  .rename_i x y u
   split at h
   .rename_i F
    rw[D,K x y u]
    exact JD h (J F) (I x (by rw[u];simp)) (I y (by rw[u];simp)) c
   .simp at h
  .rename_i x u
   split at h
   .rename_i F
    rw[D,L x u]
    exact Ky h (J F) (I x (by rw[u];simp)) c
   .simp at h
  .exact G h
  .exact G h
  .exact G h
  .exact G h
  .exact G h
  .simp at h
 .rename_i op t x y yt g
  split at h
  .rw[g] at A
   have J:=A x (by simp[Op.operands])
   have h1:=A y (by simp[Op.operands])
   have go:∀ b,Bt P t (ev T x) (ev T y)=some b->pV P w t x y (a.eval x) (a.eval y) b:=λb hb=>Pf J h1 hb
   split at h
   .rename_i b hb
    simp only[Sq,Su] at h
    obtain⟨rfl,rfl,rfl⟩:=h
    obtain⟨g1,g2,g3,_⟩:=go _ hb
    refine⟨.value (.bool b),w,μ,?_,.inl ⟨_,rfl,.val _ rfl⟩,ew.refl _,ig⟩
    unfold execOp;rw[g]
    simp only[Sem.run_bind,g2,Result.andThen_ok,g3,g1,Sem.run_pure]
   .rename_i b hb
    simp only[Sq,Su] at h
    obtain⟨rfl,rfl,rfl⟩:=h
    obtain⟨g1,g2,_,g4⟩:=go _ hb
    refine⟨.value (.bool (!b)),w,μ,?_,.inl ⟨_,rfl,.val _ rfl⟩,ew.refl _,ig⟩
    unfold execOp;rw[g]
    simp only[Sem.run_bind,g2,Result.andThen_ok,g4,g1,Sem.run_pure]
   .simp at h
  .refine qP h A (λQ B=>?_)
   rw[g] at B
   have J:=B x (by simp[Op.operands])
   have h1:=B y (by simp[Op.operands])
   unfold execOp;rw[g];simp only[J,h1]
 .rename_i op t x g
  refine qP h A (λQ B=>?_)
  rw[g] at B
  have J:=B x (by simp[Op.operands])
  unfold execOp;rw[g];simp only[J]
 .rename_i t x y g
  refine qP h A (λQ B=>?_)
  rw[g] at B
  have J:=B x (by simp[Op.operands])
  have h1:=B y (by simp[Op.operands])
  unfold execOp;rw[g];simp only[J,h1]
 .simp at h
end
def bh.wr:bh->List Nat
 | .none | .new _=>[]
 | .eS id _ | .eJ id _=>[id]
def iU (μ:Mu) (b:Nat):Prop:=∃ id o s,μ id=some (b,o,s)
structure Ext (Z:Nat->Prop) (μ:Mu) (w:World) (m:Nat) (Z':Nat->Prop) (μ':Mu) (w':World):Prop where
 same:ew w w'
 mono:gz Z Z' μ μ' w.heap w'.heap
 frame:fJ w.heap w'.heap (iU μ)
 Nr:∀ b,Z' b->Z b∨w.heap.size<=b
 Ay:∀ id b o s,μ' id=some (b,o,s)->μ id=some (b,o,s)∨(m<=id/\(w.heap.size<=b∨iU μ b))
theorem Ext.refl (Z:Nat->Prop) (μ:Mu) (w:World) (m:Nat):Ext Z μ w m Z μ w :=
 ⟨ew.refl _,gz.refl _ _ _,λ_ _ _=>rfl,λ_ h=>.inl h,λ_ _ _ _ h=>.inl h⟩
theorem Ext.trans {Z l c:Nat->Prop} {μ μ' a:Mu} {w w' d:World} {m n:Nat} (h:Ext Z μ w m l μ' w') (k:Ext l μ' w' n c a d) (hm:m<=n) (q:∀ id b o s,μ id=some (b,o,s)->b < w.heap.size):Ext Z μ w m c a d:=by
 have e:∀ b,iU μ' b->w.heap.size<=b∨iU μ b:=by
  rintro b ⟨id,o,s,i⟩
  rcases h.Ay _ _ _ _ i with h1 | ⟨_,h1 | h1⟩
  .exact .inr ⟨_,_,_,h1⟩
  .exact .inl h1
  .exact .inr h1
 refine⟨h.same.trans k.same,h.mono.trans k.mono,λb g p=>?_,λb g=>?_,λid b o s i=>?_⟩
 .rw[k.frame b (S8 g h.same.size) (λj=>?_),h.frame b g p]
  rcases e b j with h1 | h1
  .omega
  .exact p h1
 .rcases k.Nr b g with h1 | h1
  .exact h.Nr b h1
  .exact .inr (Tq h.same.size h1)
 .rcases k.Ay _ _ _ _ i with h1 | ⟨h1,f⟩
  .exact h.Ay _ _ _ _ h1
  .refine .inr ⟨by omega,?_⟩
   rcases f with f | f
   .exact .inl (Tq h.same.size f)
   .exact e b f
def cat (h:az) (F:View):View:=λid=>if id < h.length then h.view id else F id
def bE (P:Program) (f:FuncId) (vs:List V) (h:az) (r:V) (h':az):Prop :=
 h.length<=h'.length/\∀ Z μ (F:View) (w:World) (xs:List Value),fH Z μ w.heap vs xs->gN Z μ w.heap (cat h F)->(∀ id,h.length<=id->id < h'.length->μ id=none) ->
  Calls P f xs.toArray w λe w'=>∃ x Z' μ',e=.returned x/\ax Z' μ' w'.heap r x/\gN Z' μ' w'.heap (cat h' F)/\Ext Z μ w h.length Z' μ' w'/\(∀ id,id < h.length∨h'.length<=id->μ' id=μ id)
def dw (P:Program) (f:FuncId):Bool:=match P.funcs[f]? with
 | some fn=>fn.name != "runtime.NumGoroutine" && fn.body.isSome
 | none=>false
def qt (n:Nat) (o:Oper):Bool:=match o.dst with
 | some d=>d < n
 | none=>true
def dt (n:Nat) (all:List Oper) (T:Env) (o:Oper):Option Bool:=match o.guard with
 | none=>some true
 | some (j,want)=>match (all[j]?).bind (·.dst) with
  | some d=>if d < n then (match T d with
   | .val (.bool b)=>some (b == want)
   | .aS []=>some false
   | _=>none) else none
  | none=>none
inductive dJ (P:Program) (n:Nat) (all:List Oper):Oper->Env->az->V->az->List Nat->List Nat->Bool->Prop
 | skip {o:Oper} {T:Env} {h:az} : dt n all T o=some false->dJ P n all o T h (.aS []) h [] [] false
 | op {o:Oper} {T:Env} {h:az} {v:V} {eff:bh} {rd:List Nat} : dt n all T o=some true->bY P o T h.view h.length=some (v,eff,rd)->dJ P n all o T h v (eff.apply h) rd eff.wr false
 | jd {o:Oper} {T:Env} {h:az} {e:TypeId} {x:Operand} : dt n all T o=some true->o.op=.box e x->(ev T x).cells.all aE=true->dJ P n all o T h (.aG (ev T x).cells 0) h [] [] false
 | fN {o:Oper} {T:Env} {h:az} {s d e:TypeId} {x:Operand} {st:ByteArray} : dt n all T o=some true->o.op=.convert s d x->P.underlying s=some .string->P.underlying d=some (.slice e)->P.underlying e=some (.int .u8)->ev T x=.val (.string st)->dJ P n all o T h (.aT (gp st)) h [] [] false
 | call {o:Oper} {T:Env} {h h':az} {r:V} {f:Operand} {args:Array Operand} {ats:Array TypeId} {g:FuncId} {first cap:List V} {wr:List Nat} : dt n all T o=some true ->
  o.op=.call { callee:=.value f,args:=args,argTypes:=ats }->ev T f=.fn g first cap->dw P g=true->bE P g (first ++ args.toList.map (ev T) ++ cap) h r h' ->
  (∀ id,id < h.length->¬ id∈wr->h'.view id=h.view id)->(∀ id,id∈wr->id < h.length)->dJ P n all o T h r h' [] wr true
theorem gX {h:az} {id:Nat} (a:h.view id≠.dead):id < h.length:=by
 rcases SY id h.length with h1 | h1
 .exact h1
 .exfalso;apply a;simp[az.view,Sm,Te h1]
theorem jr {h:az} {id:Nat} {o:dF} (a:id < h.length):az.view (h.set id o)=View.set h.view id o:=by
 funext k
 simp only[az.view,View.set,Sm,T0]
 by_cases e:id=k
 .subst e;simp[a]
 .rw[Sr e,Sr (λq=>e q.symm)]
theorem CE (h:az) (o:dF):az.view (h ++ [o])=View.set h.view h.length o:=by
 funext k
 simp only[az.view,View.set,Sm]
 by_cases e:k=h.length
 .subst e;simp
 .rw[Sr e]
  rcases SY k h.length with h1 | h1
  .rw[S9 h1]
  .rw[Tu h1,Te (by simp;omega),Te h1]
theorem kE {h:az} {eff:bh} (a:∀ id,id∈eff.wr->h.view id≠.dead):az.view (eff.apply h)=eff.view h.view h.length:=by
 cases eff with
 | none=>rfl
 | new o=>exact CE h o
 | eS id o=>exact jr (gX (a id (by simp[bh.wr])))
 | eJ id o =>
  have:=gX (a id (by simp[bh.wr]))
  simp only[bh.apply,bh.view]
  rw[CE,jr this]
  simp
theorem gn (h:az) (eff:bh):(eff.apply h).length=h.length+(match eff with | .new _ | .eJ _ _=>1 | _=>0):=by
 cases eff <;> simp[bh.apply]
theorem lS {P:Program} {o:Oper} {T:Env} {H:View} {n:Nat} {v:V} {eff:bh} {rd:List Nat} (h:bY P o T H n=some (v,eff,rd)):∀ id,id∈eff.wr->H id≠.dead/\id∈rd:=by
 have b:∀ {v':V} {e:bh} {r:List Nat},e.wr=[]->some (v',e,r)=some (v,eff,rd)->∀ id,id∈eff.wr->H id≠.dead/\id∈rd:=by
  intro v' e r he heq id c
  simp only[Sq,Su] at heq
  obtain⟨_,rfl,_⟩:=heq
  rw[he] at c;simp at c
 have pu:dM P o T=some (v,eff,rd)->∀ id,id∈eff.wr->H id≠.dead/\id∈rd:=by
  intro h
  unfold dM at h
  split at h
  .split at h
   .split at h
    .exact b rfl h
    .simp at h
   .simp at h
  .simp at h
 have up:∀ {id:Nat} {d:dF} {v':V} {r:List Nat},H id≠.dead->id∈r->some (v',bh.eS id d,r)=some (v,eff,rd)->∀ i,i∈eff.wr->H i≠.dead/\i∈rd:=by
  intro id d v' r h1 g heq i hi
  simp only[Sq,Su] at heq
  obtain⟨_,rfl,rfl⟩:=heq
  simp[bh.wr] at hi;subst hi;exact⟨h1,g⟩
 have k:∀ {id:Nat} {d:dF} {v':V} {r:List Nat},H id≠.dead->id∈r->some (v',bh.eJ id d,r)=some (v,eff,rd)->∀ i,i∈eff.wr->H i≠.dead/\i∈rd:=by
  intro id d v' r h1 g heq i hi
  simp only[Sq,Su] at heq
  obtain⟨_,rfl,rfl⟩:=heq
  simp[bh.wr] at hi;subst hi;exact⟨h1,g⟩
 have j:∀ {cs:List V},kY cs n=some (v,eff,rd)->∀ id,id∈eff.wr->H id≠.dead/\id∈rd:=by
  intro cs h
  unfold kY at h
  split at h
  .exact b rfl h
  .simp at h
 have mp:∀ {α:Type} {x:Option α} {f:α->V} {r:List Nat},(x.map λa=>(f a,bh.none,r))=some (v,eff,rd)->∀ id,id∈eff.wr->H id≠.dead/\id∈rd:=by
  intro α x f r h
  simp only[Sw] at h
  obtain⟨a,_,h⟩:=h
  exact b rfl (congrArg some h)
 unfold bY at h
 split at h
 .exact b rfl h
 .exact b rfl h
 .split at h
  .exact b rfl h
  .simp at h
 .split at h
  .exact j h
  .simp at h
 .exact j h
 .unfold s8 at h
  split at h
  .split at h
   .exact mp h
   .simp at h
  .simp at h
 .unfold gQ at h
  repeat' (split at h)
  all_goals first | exact b rfl h | (simp at h;done)
 .unfold lH at h
  repeat' (split at h)
  all_goals first | exact mp h | (simp at h;done)
 .unfold pq at h
  split at h
  .split at h
   .rename_i hH
    split at h
    .exact up (by rw[hH];simp) (by simp) h
    .simp at h
   .simp at h
  .simp at h
 .repeat' (split at h)
  all_goals first | exact b rfl h | (simp at h;done)
 .unfold kM at h
  repeat' (split at h)
  all_goals first | exact b rfl h | (simp at h;done)
 .unfold tw at h
  split at h
  .exact mp h
  .simp at h
 .unfold kD at h
  repeat' (split at h)
  all_goals first | exact b rfl h | (simp at h;done)
 .split at h
  .exact pu h
  .unfold rl at h
   repeat' (split at h)
   all_goals first | exact b rfl h | (simp at h;done)
 .unfold kK at h
  repeat' (split at h)
  all_goals first | exact b rfl h | (simp at h;done)
 .repeat' (split at h)
  all_goals first | exact b rfl h | (simp at h;done)
 .exact b rfl h
 .unfold eQ at h
  simp only at h
  repeat' (split at h)
  all_goals first | exact b rfl h | (simp at h;done)
 .unfold fV at h
  split at h
  .split at h
   .rename_i hH
    repeat' (split at h)
    all_goals first | exact up (by rw[hH];simp) (by simp) h | (simp at h;done)
   .simp at h
  .simp at h
 .unfold fV at h
  split at h
  .split at h
   .rename_i hH
    repeat' (split at h)
    all_goals first | exact up (by rw[hH];simp) (by simp) h | (simp at h;done)
   .simp at h
  .simp at h
 .unfold ec at h
  split at h
  .split at h
   .rename_i hH
    repeat' (split at h)
    all_goals first | exact up (by rw[hH];simp) (by simp) h | (simp at h;done)
   .simp at h
  .simp at h
 .unfold jE at h
  split at h
  .split at h
   .rename_i hH
    repeat' (split at h)
    all_goals first | exact up (by rw[hH];simp) (by simp) h | (simp at h;done)
   .simp at h
  .simp at h
 .repeat' (split at h)
  all_goals first | exact b rfl h | (simp at h;done)
 .repeat' (split at h)
  all_goals first | exact b rfl h | (simp at h;done)
 .unfold Bb at h
  split at h
  .split at h
   .rename_i hH
    split at h
    .exact up (by rw[hH];simp) (by simp) h
    .exact b rfl h
   .simp at h
  .simp at h
 .split at h
  .unfold lT at h
   split at h
   .repeat' (split at h)
    all_goals first | exact mp h | exact b rfl h | (simp at h;done)
   .repeat' (split at h)
    all_goals first | exact mp h | exact b rfl h | (simp at h;done)
   .split at h
    .split at h
     .split at h
      .rename_i hH
       exact up (by rw[hH];simp) (by simp) h
      .simp at h
     .simp at h
    .simp at h
   .simp at h
  .exact pu h
 .split at h
  .split at h
   .unfold sA at h
    repeat' (split at h)
    all_goals first | exact mp h | exact b rfl h | (simp at h;done)
   .simp at h
  .split at h
   .unfold mw at h
    split at h
    .split at h
     .simp at h
     .split at h
      .split at h
       all_goals first | exact b rfl h | (simp at h;done)
      .split at h
       .simp at h
       .split at h
        .split at h
         .exact b rfl h
         .simp at h
        .split at h
         .rename_i hH
          split at h
          .exact k (by rw[hH];simp) (by simp) h
          .simp at h
         .simp at h
        .simp at h
    .simp at h
   .split at h
    .unfold qv at h
     split at h
     .split at h
      .split at h
       .exact b rfl h
       .split at h
        .exact b rfl h
        .simp at h
      .simp at h
     .simp at h
    .simp at h
  .split at h
   .unfold BN at h
    split at h
    .exact b rfl h
    .simp at h
   .simp at h
  .split at h
   .unfold vh at h
    split at h
    .split at h
     .simp at h
     .split at h
      .exact b rfl h
      .split at h
       .split at h
        .rename_i hH
         split at h
         .exact up (by rw[hH];simp) (by simp) h
         .simp at h
        .simp at h
       .simp at h
    .simp at h
   .simp at h
  .split at h
   .unfold tf at h
    split at h
    .split at h
     .rename_i hH
      repeat' (split at h)
      all_goals first | exact up (by rw[hH];simp) (by simp) h | exact b rfl h | (simp at h;done)
     .simp at h
    .simp at h
   .simp at h
  .split at h
   .unfold tW at h
    split at h
    .split at h
     .exact b rfl h
     .split at h
      .split at h
       .rename_i hH
        split at h
        .exact up (by rw[hH];simp) (by simp) h
        .simp at h
       .simp at h
      .simp at h
    .simp at h
   .simp at h
  .exact pu h
  .exact pu h
  .exact pu h
  .exact pu h
  .exact pu h
  .simp at h
 .split at h
  .split at h
   .exact b rfl h
   .exact b rfl h
   .simp at h
  .exact pu h
 .exact pu h
 .exact pu h
 .simp at h
section
variable {P:Program} {n:Nat} {all:List Oper} {Z:Nat->Prop} {μ:Mu} {w:World}
theorem gN.congr {H H':View} {hp:Array Obj} (h:gN Z μ hp H) (e:∀ id,μ id≠none->H' id=H id):gN Z μ hp H':=by
 refine⟨λid=>?_,λi j b o s g k d hi f=>?_,h.lt,h.cH,h.gw⟩
 .by_cases hm:μ id=none
  .cases hH:H' id with
   | dead=>trivial
   | arr esz es=>intro b o0 s a;rw[hm] at a;simp at a
   | map es c=>intro b o0 s a;rw[hm] at a;simp at a
   | uQ s p=>intro b o0 t a;rw[hm] at a;simp at a
  .rw[e id hm];exact h.obj id
 .rw[e i (by rw[hi];simp),e j (by rw[f];simp)]
  exact h.inj i j b o s g k d hi f
def iT (H:View) (h h':az) (wr:List Nat):View:=λid=>if id∈wr∨(h.length<=id/\id < h'.length) then h'.view id else H id
theorem lB.ext {μ':Mu} {w':World} {eff:bh} {m:Nat} (he:lB Z μ μ' w.heap w'.heap m eff) (k:ew w w') (r:eff.fresh (μ m=none)) (cH:∀ b,Z b->b < w.heap.size) (gw:∀ id b o s,μ id=some (b,o,s)->¬ Z b) :
  Ext Z μ w m Z μ' w'/\(∀ id,(∀ (_:¬ (match eff with | .new _ | .eJ _ _=>id=m | _=>False)),μ' id=μ id)):=by
 have hm:=he.mono r cH gw
 cases eff with
 | none =>
  obtain⟨rfl,f⟩:=he
  exact⟨⟨k,hm,λb l _=>f b l (λx=>x),λ_ h=>.inl h,λ_ _ _ _ h=>.inl h⟩,λ_ _=>rfl⟩
 | new o =>
  obtain⟨b,o0,s,t,u,rfl,f,_⟩:=he
  refine⟨⟨k,hm,λb l _=>f b l (λx=>x),λ_ h=>.inl h,λid g v y d=>?_⟩,λid i=>by simp[Mu.set];intro e;exact absurd e i⟩
  by_cases e:id=m
  .subst e;simp[Mu.set] at d;exact .inr ⟨Sy _,.inl (by omega)⟩
  .simp[Mu.set,e] at d;exact .inl d
 | eS id o =>
  obtain⟨b,o0,s,a,rfl,f,_,_⟩:=he
  exact⟨⟨k,hm,λg c j=>f g c (λe=>j ⟨id,o0,s,e ▸ a⟩),λ_ h=>.inl h,λ_ _ _ _ h=>.inl h⟩,λ_ _=>rfl⟩
 | eJ id o =>
  obtain⟨b,o0,s,rfl,_,q⟩:=he
  refine⟨⟨k,hm,?_,λ_ h=>.inl h,λn g v y d=>?_⟩,λid i=>by simp[Mu.set];intro e;exact absurd e i⟩
  .rcases q with h1 | ⟨⟨p,s1,a⟩,f,_⟩
   .exact λg c _=>h1.2.2 g c (λx=>x)
   .exact λg c j=>f g c (λe=>j ⟨id,p,s1,e ▸ a⟩)
  .by_cases e:n=m
   .subst e
    simp[Mu.set] at d
    obtain⟨rfl,_,_⟩:=d
    rcases q with h1 | ⟨⟨p,s1,a⟩,_,_⟩
    .exact .inr ⟨Sy _,.inl h1.1⟩
    .exact .inr ⟨Sy _,.inr ⟨id,p,s1,a⟩⟩
   .simp[Mu.set,e] at d;exact .inl d
theorem Fp {f:FuncId} {args:Array Value} (h:dw P f=true):(callFunc f args).run P w=.ok (.enter f args) w:=by
 unfold dw at h
 split at h
 .rename_i fn a
  simp only[SE,bne_iff_ne,ne_eq] at h
  have h1:(fn.name == "runtime.NumGoroutine")=false:=by simpa using h.1
  have e:fn.body.isNone=false:=by cases b:fn.body <;> simp_all
  have c:¬ (fn.name = "runtime.NumGoroutine"):=by simpa using h.1
  have d:¬ (fn.body=none):=by cases b:fn.body <;> simp_all
  simp[callFunc,a,c,d]
 .simp at h
theorem mV {ops:Array Oper} (g:ops=all.toArray) {a:Act} (k:a.tmps.size=n) {T:Env} {o:Oper} {t:Bool} (e:dt n all T o=some t)
  (f:∀ j want d,o.guard=some (j,want)->(all[j]?).bind (·.dst)=some d->ax Z μ w.heap (T d) (a.tmps.getD d undef)):Region.wanted o (yielded ops a.tmps)=t:=by
 unfold dt at e
 unfold Region.wanted
 cases i:o.guard with
 | none=>simp[i] at e;subst e;rfl
 | some p =>
  obtain⟨j,want⟩:=p
  simp only[i] at e ⊢
  cases l:(all[j]?).bind (·.dst) with
  | none=>simp[l] at e
  | some d =>
   simp only[l] at e
   split at e
   .rename_i m
    have h:=f j want d i l
    split at e
    .rename_i b r
     rw[r] at h
     have h:=eP h
     simp only[Sq] at e
     subst e
     have c:d < a.tmps.size:=k ▸ m
     simp only[Sz,SP c,SJ] at h
     have:yielded ops a.tmps j=some b:=by
      unfold yielded
      subst g
      simp only[Tm,l,Td,SP c,h]
     rw[this]
     cases b <;> cases want <;> rfl
    .rename_i r
     rw[r] at h
     have c:d < a.tmps.size:=k ▸ m
     generalize q:a.tmps.getD d undef=x at h
     cases h with
     | aS _ s h1 v =>
      simp only[Sq] at e
      subst e
      have u:a.tmps[d]?=some (.tuple s):=by
       rw[SP c]
       simp only[Sz,SP c,SJ] at q
       rw[q]
      have:yielded ops a.tmps j=none:=by
       unfold yielded
       subst g
       simp only[Tm,l,Td,u]
      rw[this]
      rfl
    .simp at e
   .simp at e
theorem wM {ops:Array Oper} (B:ops=all.toArray) {i:Nat} {o:Oper} (hi:ops[i]?=some o) {T:Env} {h Y:az} {v:V} {rd wr:List Nat} {call:Bool} (st:dJ P n all o T h v Y rd wr call) {a:Act} {H:View}
  (G:a.tmps.size=n) (m:∀ j want d,o.guard=some (j,want)->(all[j]?).bind (·.dst)=some d->ax Z μ w.heap (T d) (a.tmps.getD d undef))
  (hT:∀ x∈o.op.operands,ax Z μ w.heap (ev T x) (a.eval x)) (hr:gN Z μ w.heap H) (bx:∀ id,id∈rd->μ id≠none->H id=h.view id)
  (I:call=true->∀ id,id < h.length->μ id≠none->H id=h.view id) (J:∀ id,h.length<=id->id < Y.length->μ id=none)
  {K:Act->World->Prop} {Q:Exit->Act->World->Prop}
  (hK:∀ x w' Z' μ',ax Z' μ' w'.heap v x->gN Z' μ' w'.heap (iT H h Y wr)->Ext Z μ w h.length Z' μ' w'->(∀ id,id < h.length∨Y.length<=id->μ' id=μ id)->K (a.put o.dst x) w') :
  wpOp P ops Q i K a w:=by
 unfold wpOp
 rw[hi]
 cases st with
 | skip R =>
  have:=mV (w:=w) B G R m
  simp only[this,SU,if_false]
  refine hK undef w Z μ (.aS _ _ rfl (λi hi=>by simp at hi)) (hr.congr λid c=>?_) (Ext.refl _ _ _ _) (λ_ _=>rfl)
  unfold iT
  rw[Sr]
  rintro (h1 | h1)
  .simp at h1
  .omega
 | op R b0 =>
  rename_i eff
  have:=mV (w:=w) B G R m
  simp only[this,if_true]
  left
  have D:=lS b0
  have cf:=kE (λid c=>(D id c).1)
  have hlen:=gn h eff
  have an:eff.fresh (μ h.length=none):=by
   cases eff with
   | new o=>exact J _ (Sy _) (by rw[hlen];simp)
   | eJ k o=>exact J _ (Sy _) (by rw[hlen];simp)
   | _=>trivial
  .have b1:Ctx Z μ w.heap h.view rd h.length eff:=by
    refine⟨an,λid c=>?_,hr.lt,hr.cH,hr.gw⟩
    by_cases hm:μ id=none
    .have:=(gN.congr (H':=λk=>if k=id then h.view id else H k) hr (λk hk=>by
      split
      .rename_i e;subst e;exact absurd hm hk
      .rfl)).obj id
     simpa using this
    .rw[<-bx id c hm];exact hr.obj id
   obtain⟨nx,w',μ',t,b2,l,u⟩:=QK b0 hT b1
   have hex:=u.ext l an hr.cH hr.gw
   have L:gN Z μ' w'.heap (iT H h (eff.apply h) eff.wr):=by
    have M:∀ id,id∈eff.wr->μ id≠none->H id≠.dead:=λid c hm=>by
     rw[bx id (D id c).2 hm];exact(D id c).1
    have b7:∀ id o,(eff=.eS id o∨eff=.eJ id o)->H id≠.dead∨μ id=none:=by
     rintro id o (rfl | rfl)
     .by_cases hm:μ id=none
      .exact .inr hm
      .exact .inl (M id (by simp[bh.wr]) hm)
     .by_cases hm:μ id=none
      .exact .inr hm
      .exact .inl (M id (by simp[bh.wr]) hm)
    have h2:gN Z μ w.heap (λk=>if μ k=none then .uQ .empty 0 else H k):=hr.congr (λk hk=>by simp[hk])
    have h3:=h2.eff an l.size u (λid o e=>by
     split
     .simp
     .rename_i hk;exact(b7 id o (.inl e)).resolve_right hk) (λid o e=>by
     split
     .simp
     .rename_i hk;exact(b7 id o (.inr e)).resolve_right hk)
    refine h3.congr (λid c=>?_)
    unfold iT
    rw[cf]
    cases eff with
    | none =>
     obtain⟨rfl,_⟩:=u
     simp only[bh.wr,bh.apply,bh.view,List.not_mem_nil,false_or]
     rw[Sr (by omega),Sr c]
    | new o =>
     obtain⟨b,o0,s,_,_,rfl,_⟩:=u
     simp only[bh.wr,bh.view,View.set,List.not_mem_nil,false_or]
     by_cases e:id=h.length
     .subst e;rw[St ⟨Sy _,by rw[hlen];simp⟩,St rfl,St rfl]
     .rw[Sr (by rw[hlen];simp only;omega),Sr e]
      have:μ id≠none:=by simpa [Mu.set,e] using c
      rw[Sr this]
    | eS k o =>
     obtain⟨b,o0,s,_,rfl,_⟩:=u
     simp only[bh.wr,bh.view,View.set,Tz]
     by_cases e:id=k
     .subst e;rw[St (.inl rfl),St rfl,St rfl]
     .rw[Sr (by rw[hlen];simp only;omega),Sr e,Sr c]
    | eJ k o =>
     obtain⟨b,o0,s,rfl,_⟩:=u
     simp only[bh.wr,bh.view,View.set,Tz]
     by_cases e:id=h.length
     .subst e;rw[St (.inr ⟨Sy _,by rw[hlen];simp⟩),St rfl,St rfl]
     .by_cases e2:id=k
      .subst e2;rw[St (.inl rfl),Sr e,St rfl,Sr e,St rfl]
      .rw[Sr (by rw[hlen];simp only;omega),Sr e,Sr e2]
       have:μ id≠none:=by simpa [Mu.set,e] using c
       rw[Sr this]
   have C:∀ id,id < h.length∨(eff.apply h).length<=id->μ' id=μ id:=by
    intro id c
    refine hex.2 id (λS=>?_)
    cases eff with
    | none=>exact S
    | new o=>simp only at S;subst S;rw[hlen] at c;simp at c;omega
    | eS k o=>exact S
    | eJ k o=>simp only at S;subst S;rw[hlen] at c;simp at c;omega
   unfold Oper.wp
   rw[t]
   rcases b2 with ⟨x,rfl,hv⟩ | ⟨rfl,rfl⟩
   .exact hK x w' Z μ' hv L hex.1 C
   .exact hK undef w' Z μ' (.any _) L hex.1 C
 | jd R U aq =>
  rename_i e x
  have:=mV (w:=w) B G R m
  simp only[this,if_true]
  left
  have z:=hT x (by rw[U];simp[Op.operands])
  have b8:=gh z aq
  have t:(execOp a.eval o).run P w=.ok (.value (.pointer (some ⟨w.heap.size,0,none⟩))) (w.alloc (.cells (a.eval x).cells e)):=by
   unfold execOp
   rw[U]
   simp[Instr.box,newVar,newRow]
  unfold Oper.wp
  rw[t]
  have A:fJ w.heap (w.alloc (.cells (a.eval x).cells e)).heap (λ_=>False):=ey _ _
  have b9:(w.alloc (.cells (a.eval x).cells e)).heap.size=w.heap.size+1:=by rw[heap_alloc];simp
  have hm:gz Z (λb=>Z b∨b=w.heap.size) μ μ w.heap (w.alloc (.cells (a.eval x).cells e)).heap:=⟨λ_ h=>.inl h,λb r=>A b (hr.cH b r) (λx=>x),λ_ _ h=>h,A.pN⟩
  have l:ew w (w.alloc (.cells (a.eval x).cells e)):=ir _ _
  have ar:iT H h h []=H:=by
   funext id
   unfold iT
   rw[Sr]
   rintro (h1 | h1)
   .simp at h1
   .omega
  refine hK _ _ (λb=>Z b∨b=w.heap.size) μ ?_ (ar.symm ▸ ⟨λid=>?_,hr.inj,λid b o s z=>S8 (hr.lt _ _ _ _ z) l.size,λb r=>?_,λid b o s z a1=>?_⟩)
   ⟨l,hm,λb r _=>A b r (λx=>x),λb r=>?_,λ_ _ _ _ h=>.inl h⟩ (λ_ _=>rfl)
  .have:=ax.aG (Z:=λb=>Z b∨b=w.heap.size) (μ:=μ) (hp:=(w.alloc (.cells (a.eval x).cells e)).heap) (ev T x).cells 0 w.heap.size 0 (λk=>(a.eval x).cells.toList.getD k undef) (.inr rfl) (λk hk=>?_) (λk hk=>(b8.2 k hk).mono hm)
   .simpa using this
   .have a6:k < (a.eval x).cells.size:=by have:=b8.1;simp at this;omega
    simp[cellAt,heap_alloc,Sm,a6]
  .exact(hr.obj id).mono hm rfl (λb o s z=>A b (hr.lt _ _ _ _ z) (λx=>x))
  .rcases r with r | rfl
   .exact S8 (hr.cH b r) l.size
   .omega
  .rcases a1 with r | rfl
   .exact hr.gw _ _ _ _ z r
   .have:=hr.lt _ _ _ _ z;omega
  .rcases r with r | rfl
   .exact .inl r
   .exact .inr (Sy _)
 | fN R U hs hd he ch =>
  rename_i s d e x st
  have:=mV (w:=w) B G R m
  simp only[this,if_true]
  left
  have z:=hT x (by rw[U];simp[Op.operands])
  rw[ch] at z
  have cj:=eP z
  have X:st.size<=grownCap w st.size 0 e:=by unfold grownCap Question.cut;exact Nat.le_add_right _ _
  have t:=run_bytes_of_string w s d e st hs hd he
  generalize cN:grownCap w st.size 0 e=cap at t X
  have ck:(bytesRow st cap).size=cap:=by
   simp only[bytesRow,Array.size_append,Array.size_map,Array.size_replicate]
   have:st.data.size=st.size:=rfl
   omega
  have a7:(execOp a.eval o).run P w=.ok (.value (.slice (some ⟨w.heap.size,0,none⟩) st.size cap)) (w.drew.alloc (.cells (bytesRow st cap) e (cap,cap+1))):=by
   unfold execOp
   rw[U]
   simp only[cj,Sem.run_bind,t,Result.andThen_ok,Sem.run_pure]
   rw[ck]
  unfold Oper.wp
  rw[a7]
  have E:(w.drew.alloc (.cells (bytesRow st cap) e (cap,cap+1))).heap=w.heap.push (.cells (bytesRow st cap) e (cap,cap+1)):=by rw[heap_alloc,eN]
  have A:fJ w.heap (w.drew.alloc (.cells (bytesRow st cap) e (cap,cap+1))).heap (λ_=>False):=by rw[E];exact ey _ _
  have b9:(w.drew.alloc (.cells (bytesRow st cap) e (cap,cap+1))).heap.size=w.heap.size+1:=by rw[E];simp
  have hm:gz Z (λb=>Z b∨b=w.heap.size) μ μ w.heap (w.drew.alloc (.cells (bytesRow st cap) e (cap,cap+1))).heap:=⟨λ_ h=>.inl h,λb r=>A b (hr.cH b r) (λx=>x),λ_ _ h=>h,A.pN⟩
  have l:ew w (w.drew.alloc (.cells (bytesRow st cap) e (cap,cap+1))):=jO _ _
  have ar:iT H h h []=H:=by
   funext id
   unfold iT
   rw[Sr]
   rintro (h1 | h1)
   .simp at h1
   .omega
  refine hK _ _ (λb=>Z b∨b=w.heap.size) μ ?_ (ar.symm ▸ ⟨λid=>?_,hr.inj,λid b o s z=>S8 (hr.lt _ _ _ _ z) l.size,λb r=>?_,λid b o s z a1=>?_⟩)
   ⟨l,hm,λb r _=>A b r (λx=>x),λb r=>?_,λ_ _ _ _ h=>.inl h⟩ (λ_ _=>rfl)
  .have W:(gp st).length=st.size:=by rw[gp,Sv,bsize]
   have:=ax.aT (Z:=λb=>Z b∨b=w.heap.size) (μ:=μ) (hp:=(w.drew.alloc (.cells (bytesRow st cap) e (cap,cap+1))).heap) (gp st) w.heap.size 0 1 cap (λi _=>.int .u8 ((st.data.toList.getD i 0).toNat)) (.inr rfl) (by rw[W];exact X) ?_ ?_ ?_
   .rw[W] at this;exact this
   .intro i hi
    have F:i < st.data.toList.length:=by simpa [gp] using hi
    simp only[gp,Sm,Ss,Sn F,SD,SJ,SA,SZ]
   .intro i j hi hj
    obtain rfl:j=0:=by omega
    have F:i < st.data.size:=by simpa [gp] using hi
    rw[E]
    simp only[cellAt,Array.getElem?_push_size,bytesRow,Nat.mul_one,Ui,Tt]
    rw[TK (by simpa using F),Array.getElem?_map,SP F]
    simp[Sm,SP F]
   .intro i j hi hj
    obtain rfl:j=0:=by omega
    have F:i < st.data.size:=by simpa [gp] using hi
    simp only[gp,Sm,Ss,Array.getElem?_toList,SP F,SD,SJ,S3]
    exact .val _ rfl
  .exact(hr.obj id).mono hm rfl (λb o s z=>A b (hr.lt _ _ _ _ z) (λx=>x))
  .rcases r with r | rfl
   .exact S8 (hr.cH b r) l.size
   .omega
  .rcases a1 with r | rfl
   .exact hr.gw _ _ _ _ z r
   .have:=hr.lt _ _ _ _ z;omega
  .rcases r with r | rfl
   .exact .inl r
   .exact .inr (Sy _)
 | call R U hf aq S hw cu =>
  rename_i f args cS g first cap
  have:=mV (w:=w) B G R m
  simp only[this,if_true]
  left
  have a8:∀ x∈args.toList,ax Z μ w.heap (ev T x) (a.eval x):=λx z=>hT x (by rw[U];simp[Op.operands,Call.operands];right;simpa using z)
  have bd:=hT f (by rw[U];simp[Op.operands,Call.operands])
  rw[hf] at bd
  generalize cv:a.eval f=fx at bd
  cases bd with
  | fn _ _ _ N bs h1 h2 h3 h4 =>
   have t:(execOp a.eval o).run P w=.ok (.enter g (N ++ args.map a.eval ++ bs)) w:=by
    unfold execOp
    rw[U]
    simp only[resolve,cv,Deferred.ofValue,Sem.run_bind,Sem.run_pure,Result.andThen_ok,invoke,Fp aq]
   unfold Oper.wp
   rw[t]
   show Calls P g (N ++ args.map a.eval ++ bs) w _
   have cA:(N ++ args.map a.eval ++ bs)=(N.toList ++ args.toList.map a.eval ++ bs.toList).toArray:=by
    apply Array.ext';simp
   rw[cA]
   have bl:fH Z μ w.heap (first ++ args.toList.map (ev T) ++ cap) (N.toList ++ args.toList.map a.eval ++ bs.toList):=by
    have app:∀ {p q:List V} {x y:List Value},fH Z μ w.heap p x->fH Z μ w.heap q y->fH Z μ w.heap (p ++ q) (x ++ y):=by
     intro p q x y hp hq
     refine⟨by simp[hp.1,hq.1],λk hk=>?_⟩
     simp only[Sm]
     by_cases bn:k < p.length
     .rw[S9 bn,S9 (hp.1 ▸ bn)]
      simpa only [Sm] using hp.2 k bn
     .rw[Tu (by omega),Tu (by rw[<-hp.1];omega),<-hp.1]
      simpa only [Sm] using hq.2 (k - p.length) (by simp at hk;omega)
    refine app (app ⟨by simpa using h1,λk hk=>?_⟩ ⟨by simp,λk hk=>?_⟩) ⟨by simpa using h2,λk hk=>?_⟩
    .simpa [Sm,Sz] using h3 k hk
    .have a6:k < args.toList.length:=by simpa using hk
     have:=a8 args.toList[k] (Sx _)
     simp only[Sm,Ss,Sn a6,SD,SJ]
     exact this
    .simpa [Sm,Sz] using h4 k hk
   have cc:gN Z μ w.heap (cat h H):=hr.congr (λid c=>by
    unfold cat;split
    .rename_i cC;exact(I rfl id cC c).symm
    .rfl)
   refine(S.2 Z μ H w _ bl cc J).mono ?_
   rintro e w' ⟨x,Z',μ',rfl,hv,hh,hex,C⟩
   refine hK x w' Z' μ' hv (hh.congr λid c=>?_) hex C
   unfold iT cat
   by_cases O:id∈wr∨(h.length<=id/\id < Y.length)
   .rw[St O]
    rcases O with h5 | h5
    .by_cases W:id < Y.length
     .rw[St W]
     .exact absurd (S8 (cu id h5) S.1) W
    .rw[St h5.2]
   .rw[Sr O]
    by_cases W:id < Y.length
    .rw[St W]
     have br:id < h.length:=by
      rcases SY id h.length with h6 | h6
      .exact h6
      .exact absurd (.inr ⟨h6,W⟩) O
     rw[hw id br (λq=>O (.inl q))]
     exact I rfl id br (by rw[<-C id (.inl br)];exact c)
    .rw[Sr W]
end
structure Rec where
 rd:List Nat
 wr:List Nat
 call:Bool
 lo:Nat
 hi:Nat
inductive Tr (P:Program) (n:Nat) (all:List Oper):List Oper->Env->az->List Rec->Env->az->Prop
 | nil {T:Env} {h:az} : Tr P n all [] T h [] T h
 | cons {o:Oper} {rest:List Oper} {T T':Env} {h h1 h':az} {v:V} {rd wr:List Nat} {call:Bool} {recs:List Rec} : dJ P n all o T h v h1 rd wr call->qt n o=true ->
  Tr P n all rest (T.put o.dst v) h1 recs T' h'->Tr P n all (o :: rest) T h (⟨rd,wr,call,h.length,h1.length⟩ :: recs) T' h'
def mask (o:Oper) (acc:List Nat):Nat:=o.after.toList.foldl (λs e=>if Region.binds .any e then s ||| 2 ^ e.on ||| acc.getD e.on 0 else s) 0
def fo:List Oper->List Nat->List Nat
 | [],acc=>acc
 | o :: r,acc=>fo r (acc ++ [mask o acc])
def tmpsOf (o:Oper):List Nat:=o.op.operands.toList.filterMap fun | .tmp t=>some t | _=>none
def mT (all:List Oper) (o:Oper):List Nat:=o.dst.toList ++ tmpsOf o ++ (match o.guard with
 | some (j,_)=>((all[j]?).bind (·.dst)).toList
 | none=>[])
def JZ (d:Option Nat) (l:List Nat):Bool:=match d with
 | some t=>!l.contains t
 | none=>true
def ordered (b:List Nat) (i k:Nat):Bool:=(b.getD k 0).testBit i
def k8 (all:List Oper):Bool :=
 let b:=fo all []
 all.zipIdx.all λ(ok,k) =>
  (ok.after.toList.all λe=>!Region.binds .any e || decide (e.on < k)) &&
  all.zipIdx.all λ(oi,i)=>!decide (i < k) || ordered b i k || (JZ oi.dst (mT all ok) && JZ ok.dst (mT all oi))
structure nC (a b:Rec):Prop where
 Rh:∀ id,id∈a.wr->¬ id∈b.rd
 QD:∀ id,id∈b.wr->¬ id∈a.rd
 Rb:a.call=true->b.wr=[]
 call2:b.call=true->a.wr=[]
 new:∀ id,id∈b.wr->¬ (a.lo<=id/\id < a.hi)
def s6 (all:List Oper) (recs:List Rec):Prop:=∀ i k a b,i < k->recs[i]?=some a->recs[k]?=some b->ordered (fo all []) i k=false->nC a b
theorem Dg (l:List Edge) (acc:List Nat) (s j:Nat):(l.foldl (λs e=>if Region.binds .any e then s ||| 2 ^ e.on ||| acc.getD e.on 0 else s) s).testBit j=true ->
  s.testBit j=true∨∃ e∈l,Region.binds .any e=true/\(j=e.on∨(acc.getD e.on 0).testBit j=true):=by
 induction l generalizing s with
 | nil=>intro h;exact .inl h
 | cons e l c =>
  intro h
  simp only[Tp] at h
  rcases c _ h with h1 | ⟨e',b,d⟩
  .by_cases a:Region.binds .any e=true
   .rw[St a,Nat.testBit_or,Nat.testBit_or,Nat.testBit_two_pow] at h1
    simp only[Up,SN] at h1
    rcases h1 with (h1 | h1) | h1
    .exact .inl h1
    .exact .inr ⟨e,Ul,a,.inl h1.symm⟩
    .exact .inr ⟨e,Ul,a,.inr h1⟩
   .rw[Sr a] at h1;exact .inl h1
  .exact .inr ⟨e',SQ _ b,d⟩
theorem y3:∀ (l:List Oper) (acc:List Nat) (k:Nat),k < acc.length->(fo l acc).getD k 0=acc.getD k 0
 | [],acc,k,_=>rfl
 | o :: r,acc,k,h=>by
  rw[fo,y3 r _ k (by simp;omega)]
  simp[Sm,S9 h]
theorem Bo:∀ (l:List Oper) (acc:List Nat) (k:Nat) (o:Oper),l[k]?=some o->∃ a,(fo l acc).getD (acc.length+k) 0=mask o a/\a.length=acc.length+k/\∀ m,m < a.length->a.getD m 0=(fo l acc).getD m 0
 | [],acc,k,o,h=>by simp at h
 | p :: r,acc,0,o,h=>by
  simp at h;subst h
  refine⟨acc,?_,by simp,λm hm=>?_⟩
  .rw[fo,y3 r _ _ (by simp)]
   simp[Sm]
  .rw[fo,y3 r _ _ (by simp;omega)]
   simp[Sm,S9 hm]
 | p :: r,acc,k+1,o,h=>by
  have b:r[k]?=some o:=by simpa using h
  obtain⟨a,h1,c,d⟩:=Bo r (acc ++ [mask p acc]) k o b
  refine⟨a,?_,by simp at c;omega,λm hm=>?_⟩
  .rw[fo]
   have e:(acc ++ [mask p acc]).length+k=acc.length+(k+1):=by simp;omega
   rw[<-e];exact h1
  .rw[fo];exact d m hm
theorem vF {all:List Oper} {L:Nat->Prop} (m:∀ k o,all[k]?=some o->∀ e∈o.after.toList,Region.binds .any e=true->e.on < k)
  (n:∀ k o,all[k]?=some o->L k->∀ e∈o.after.toList,Region.binds .any e=true->L e.on):∀ k o j,all[k]?=some o->L k->ordered (fo all []) j k=true->L j:=by
 intro k
 induction k using Nat.strongRecOn with
 | _ k p =>
  intro o j hk d f
  unfold ordered at f
  obtain⟨i,h1,q,r⟩:=Bo all [] k o hk
  simp only[SZ,Tt] at h1 q
  rw[h1] at f
  rcases Dg _ _ _ _ f with a | ⟨e,he,b,a⟩
  .simp at a
  .have g:=m k o hk e he b
   have c:=n k o hk d e he b
   rcases a with a | a
   .rw[a];exact c
   .have l:k < all.length:=by
     rcases SY k all.length with h | h
     .exact h
     .simp[Te h] at hk
    refine p e.on g _ j (Sn (by omega)) c ?_
    unfold ordered
    rw[<-r e.on (by omega)]
    exact a
theorem D9 {all:List Oper} {L:Nat->Prop} (g:∀ k o,all[k]?=some o->∀ e∈o.after.toList,Region.binds .any e=true->e.on < k)
  (l:∀ k o,all[k]?=some o->L k->∀ e∈o.after.toList,Region.binds .any e=true->L e.on) {k:Nat} {o:Oper} (hk:all[k]?=some o) (hr:∀ e∈o.after.toList,Region.binds .any e=true->L e.on)
  {j:Nat} (d:ordered (fo all []) j k=true):L j:=by
 unfold ordered at d
 obtain⟨h,h1,m,n⟩:=Bo all [] k o hk
 simp only[SZ,Tt] at h1 m
 rw[h1] at d
 rcases Dg _ _ _ _ d with a | ⟨e,he,b,a⟩
 .simp at a
 .have p:=g k o hk e he b
  have c:=hr e he b
  rcases a with a | a
  .rw[a];exact c
  .have i:k < all.length:=by
    rcases SY k all.length with f | f
    .exact f
    .simp[Te f] at hk
   refine vF g l e.on _ j (Sn (by omega)) c ?_
   unfold ordered
   rw[<-n e.on (by omega)]
   exact a
theorem Gj {all:List Oper} (h:k8 all=true):(∀ k o,all[k]?=some o->∀ e∈o.after.toList,Region.binds .any e=true->e.on < k) /\
  ∀ i k a ok,i < k->all[i]?=some a->all[k]?=some ok->ordered (fo all []) i k=false->(∀ t,a.dst=some t->¬ t∈mT all ok)/\(∀ t,ok.dst=some t->¬ t∈mT all a):=by
 unfold k8 at h
 have mem:∀ k o,all[k]?=some o->(o,k)∈all.zipIdx:=by
  intro k o hk
  rw[Tw];exact hk
 refine⟨λk o hk e he f=>?_,λi k a ok b hi hk g=>?_⟩
 .have:=Tc.1 h _ (mem k o hk)
  simp only[SE] at this
  have:=Tc.1 this.1 e he
  simpa [f] using this
 .have:=Tc.1 h _ (mem k ok hk)
  simp only[SE] at this
  have:=Tc.1 this.2 _ (mem i a hi)
  simp only[b,decide_true,Ut,Bool.false_or,g,SE] at this
  have c:∀ (d:Option Nat) (l:List Nat),JZ d l=true->∀ t,d=some t->¬ t∈l:=by
   intro d l j t m
   subst m
   simpa [JZ] using j
  exact⟨c _ _ this.1,c _ _ this.2⟩
theorem CR {P:Program} {n:Nat} {all:List Oper} : ∀ (l:List Oper) (T:Env) (h:az) (a:List Rec) (d:Env) (e:az),Tr P n all l T h a d e ->
  a.length=l.length/\∃ (c:Nat->Env) (b:Nat->az) (vs:Nat->V),c 0=T/\b 0=h/\c l.length=d/\b l.length=e /\
   ∀ i o r,l[i]?=some o->a[i]?=some r->dJ P n all o (c i) (b i) (vs i) (b (i+1)) r.rd r.wr r.call/\qt n o=true/\c (i+1)=(c i).put o.dst (vs i)/\r.lo=(b i).length/\r.hi=(b (i+1)).length:=by
 intro l T h a d e m
 induction m with
 | nil=>exact⟨rfl,λ_=>_,λ_=>_,λ_=>.any,rfl,rfl,rfl,rfl,λi o r h=>by simp at h⟩
 | @cons o rest T d h h1 e v rd wr call a f p _ q =>
  obtain⟨s,c,b,vs,j,k,t,u,hi⟩:=q
  refine⟨by simp[s],λi=>match i with | 0=>T | i+1=>c i,λi=>match i with | 0=>h | i+1=>b i,λi=>match i with | 0=>v | i+1=>vs i,rfl,rfl,t,u,?_⟩
  intro i w r g hr
  cases i with
  | zero =>
   simp at g hr
   subst g hr
   exact⟨by simpa only [j,k] using f,p,by simp only[j],rfl,by simp only[k]⟩
  | succ i =>
   exact hi i w r (by simpa using g) (by simpa using hr)
theorem sm {P:Program} {n:Nat} {all:List Oper} {o:Oper} {T:Env} {h a:az} {v:V} {rd wr:List Nat} {call:Bool} (st:dJ P n all o T h v a rd wr call):h.length<=a.length:=by
 cases st with
 | skip=>exact Sy _
 | op _ _=>rw[gn];exact Nat.le_add_right _ _
 | jd _ _ _=>exact Sy _
 | fN _ _ _ _ _ _=>exact Sy _
 | call _ _ _ _ b _ _=>exact b.1
theorem qm {P:Program} {n:Nat} {all:List Oper} {o:Oper} {T:Env} {h c:az} {v:V} {rd wr:List Nat} {call:Bool} (st:dJ P n all o T h v c rd wr call) {id:Nat} (a:id < h.length) (hw:¬ id∈wr):c.view id=h.view id:=by
 cases st with
 | skip=>rfl
 | op f b =>
  rename_i eff
  rw[kE (λid a=>(lS b id a).1)]
  cases eff with
  | none=>rfl
  | new o=>simp only[bh.view,View.set];rw[Sr (by omega)]
  | eS k o=>simp only[bh.view,View.set];rw[Sr (λe=>hw (by simp[bh.wr,e]))]
  | eJ k o=>simp only[bh.view,View.set];rw[Sr (by omega),Sr (λe=>hw (by simp[bh.wr,e]))]
 | jd _ _ _=>rfl
 | fN _ _ _ _ _ _=>rfl
 | call _ _ _ _ _ d _=>exact d id a hw
theorem uG {P:Program} {n:Nat} {all:List Oper} {o:Oper} {T:Env} {h b:az} {v:V} {rd wr:List Nat} {call:Bool} (st:dJ P n all o T h v b rd wr call) {id:Nat} (hw:id∈wr):id < h.length/\(call=false->id∈rd):=by
 cases st with
 | skip=>simp at hw
 | op d a=>exact⟨gX (lS a id hw).1,λ_=>(lS a id hw).2⟩
 | jd _ _ _=>simp at hw
 | fN _ _ _ _ _ _=>simp at hw
 | call _ _ _ _ _ _ c=>exact⟨c id hw,λh=>by simp at h⟩
theorem Fv {H:View} {x:V} {xs:List (List V)} {rd:List Nat} (h:bA H x=some (xs,rd)):∀ id,id∈rd->H id≠.dead:=by
 intro id a
 unfold bA at h
 split at h
 .simp at h;rw[h.2] at a;simp at a
 .simp at h;rw[h.2] at a;simp at a
 .simp at h;rw[h.2] at a;simp at a
 .simp at h;rw[h.2] at a;simp at a
 .split at h
  .rename_i hH
   split at h
   .simp at h;rw[<-h.2] at a;simp at a;subst a;rw[hH];simp
   .simp at h
  .simp at h
 .simp at h;rw[h.2] at a;simp at a
 .simp at h
theorem Qq {P:Program} {o:Oper} {T:Env} {H:View} {n:Nat} {v:V} {eff:bh} {rd:List Nat} (h:bY P o T H n=some (v,eff,rd)):∀ id,id∈rd->H id≠.dead:=by
 have b:∀ {v':V} {e:bh},some (v',e,([]:List Nat))=some (v,eff,rd)->∀ id,id∈rd->H id≠.dead:=by
  intro v' e heq id c
  simp only[Sq,Su] at heq
  rw[<-heq.2.2] at c;simp at c
 have one:∀ {k:Nat} {v':V} {e:bh},H k≠.dead->some (v',e,[k])=some (v,eff,rd)->∀ id,id∈rd->H id≠.dead:=by
  intro k v' e hk heq id c
  simp only[Sq,Su] at heq
  rw[<-heq.2.2] at c;simp at c;subst c;exact hk
 have mp:∀ {α:Type} {x:Option α} {f:α->V},(x.map λa=>(f a,bh.none,([]:List Nat)))=some (v,eff,rd)->∀ id,id∈rd->H id≠.dead:=by
  intro α x f h
  simp only[Sw] at h
  obtain⟨a,_,h⟩:=h
  exact b (congrArg some h)
 have j:∀ {α:Type} {x:Option α} {f:α->V} {k:Nat},H k≠.dead->(x.map λa=>(f a,bh.none,[k]))=some (v,eff,rd)->∀ id,id∈rd->H id≠.dead:=by
  intro α x f k hk h
  simp only[Sw] at h
  obtain⟨a,_,h⟩:=h
  exact one hk (congrArg some h)
 have pu:dM P o T=some (v,eff,rd)->∀ id,id∈rd->H id≠.dead:=by
  intro h
  unfold dM at h
  repeat' (split at h)
  all_goals first | exact b h | (simp at h;done)
 have l:∀ {cs:List V},kY cs n=some (v,eff,rd)->∀ id,id∈rd->H id≠.dead:=by
  intro cs h
  unfold kY at h
  split at h
  .exact b h
  .simp at h
 have g:∀ {x:V} {xs:List (List V)} {r:List Nat} {v':V} {e:bh},bA H x=some (xs,r)->some (v',e,r)=some (v,eff,rd)->∀ id,id∈rd->H id≠.dead:=by
  intro x xs r v' e he heq id c
  simp only[Sq,Su] at heq
  rw[<-heq.2.2] at c
  exact Fv he id c
 have i:∀ {x:V} {xs:List (List V)} {r:List Nat} {v':V} {e:bh} {k:Nat},bA H x=some (xs,r)->H k≠.dead->some (v',e,k :: r)=some (v,eff,rd)->∀ id,id∈rd->H id≠.dead:=by
  intro x xs r v' e k he hk heq id c
  simp only[Sq,Su] at heq
  rw[<-heq.2.2] at c
  rcases SM.1 c with h1 | h1
  .subst h1;exact hk
  .exact Fv he id h1
 unfold bY at h
 split at h
 .exact b h
 .exact b h
 .split at h
  .exact b h
  .simp at h
 .split at h
  .exact l h
  .simp at h
 .exact l h
 .unfold s8 at h
  split at h
  .split at h
   .exact mp h
   .simp at h
  .simp at h
 .unfold gQ at h
  repeat' (split at h)
  all_goals first | exact b h | (simp at h;done)
 .unfold lH at h
  split at h
  .split at h
   .rename_i hH
    split at h
    .exact j (by rw[hH];simp) h
    .simp at h
   .simp at h
  .exact mp h
  .simp at h
 .unfold pq at h
  split at h
  .split at h
   .rename_i hH
    split at h
    .exact one (by rw[hH];simp) h
    .simp at h
   .simp at h
  .simp at h
 .repeat' (split at h)
  all_goals first | exact b h | (simp at h;done)
 .unfold kM at h
  repeat' (split at h)
  all_goals first | exact b h | (simp at h;done)
 .unfold tw at h
  split at h
  .exact mp h
  .simp at h
 .unfold kD at h
  repeat' (split at h)
  all_goals first | exact b h | (simp at h;done)
 .split at h
  .exact pu h
  .unfold rl at h
   repeat' (split at h)
   all_goals first | exact b h | (simp at h;done)
 .unfold kK at h
  repeat' (split at h)
  all_goals first | exact b h | (simp at h;done)
 .repeat' (split at h)
  all_goals first | exact b h | (simp at h;done)
 .exact b h
 .unfold eQ at h
  simp only at h
  split at h
  .simp at h
  .split at h
   .simp at h
   .split at h
    .split at h
     .rename_i hH
      repeat' (split at h)
      all_goals first | exact one (by rw[hH];simp) h | (simp at h;done)
     .simp at h
    .simp at h
 .unfold fV at h
  split at h
  .split at h
   .rename_i hH
    repeat' (split at h)
    all_goals first | exact one (by rw[hH];simp) h | (simp at h;done)
   .simp at h
  .simp at h
 .unfold fV at h
  split at h
  .split at h
   .rename_i hH
    repeat' (split at h)
    all_goals first | exact one (by rw[hH];simp) h | (simp at h;done)
   .simp at h
  .simp at h
 .unfold ec at h
  split at h
  .split at h
   .rename_i hH
    repeat' (split at h)
    all_goals first | exact one (by rw[hH];simp) h | (simp at h;done)
   .simp at h
  .simp at h
 .unfold jE at h
  split at h
  .split at h
   .rename_i hH
    repeat' (split at h)
    all_goals first | exact one (by rw[hH];simp) h | (simp at h;done)
   .simp at h
  .simp at h
 .repeat' (split at h)
  all_goals first | exact b h | (simp at h;done)
 .repeat' (split at h)
  all_goals first | exact b h | (simp at h;done)
 .unfold Bb at h
  split at h
  .split at h
   .rename_i hH
    split at h
    .exact one (by rw[hH];simp) h
    .exact one (by rw[hH];simp) h
   .simp at h
  .simp at h
 .split at h
  .unfold lT at h
   split at h
   .split at h
    .split at h
     .rename_i he _
      simp only[Sw] at h
      obtain⟨a,_,h⟩:=h
      exact g he (congrArg some h)
     .simp at h
    .simp at h
   .repeat' (split at h)
    all_goals first | exact b h | (simp at h;done)
   .split at h
    .split at h
     .split at h
      .rename_i hH
       exact one (by rw[hH];simp) h
      .simp at h
     .simp at h
    .simp at h
   .simp at h
  .exact pu h
 .split at h
  .split at h
   .unfold sA at h
    split at h
    .exact mp h
    .split at h
     .split at h
      .rename_i hH
       exact one (by rw[hH];simp) h
      .simp at h
     .exact b h
     .simp at h
    .repeat' (split at h)
     all_goals first | exact b h | (simp at h;done)
    .exact b h
    .simp at h
   .simp at h
  .split at h
   .unfold mw at h
    split at h
    .rename_i d
     split at h
     .simp at h
     .split at h
      .split at h
       all_goals first | exact b h | (simp at h;done)
      .split at h
       .simp at h
       .split at h
        .split at h
         .exact g d h
         .simp at h
        .split at h
         .rename_i hH
          split at h
          .exact i d (by rw[hH];simp) h
          .simp at h
         .simp at h
        .simp at h
    .simp at h
   .split at h
    .unfold qv at h
     split at h
     .split at h
      .split at h
       .exact b h
       .split at h
        .exact b h
        .simp at h
      .simp at h
     .simp at h
    .simp at h
  .split at h
   .unfold BN at h
    split at h
    .exact b h
    .simp at h
   .simp at h
  .split at h
   .unfold vh at h
    split at h
    .rename_i d _
     split at h
     .simp at h
     .split at h
      .exact b h
      .split at h
       .split at h
        .rename_i hH
         split at h
         .exact i d (by rw[hH];simp) h
         .simp at h
        .simp at h
       .simp at h
    .simp at h
   .simp at h
  .split at h
   .unfold tf at h
    split at h
    .split at h
     .rename_i hH
      repeat' (split at h)
      all_goals first | exact one (by rw[hH];simp) h | (simp at h;done)
     .simp at h
    .simp at h
   .simp at h
  .split at h
   .unfold tW at h
    split at h
    .split at h
     .exact b h
     .split at h
      .split at h
       .rename_i hH
        split at h
        .exact one (by rw[hH];simp) h
        .simp at h
       .simp at h
      .simp at h
    .simp at h
   .simp at h
  .exact pu h
  .exact pu h
  .exact pu h
  .exact pu h
  .exact pu h
  .simp at h
 .split at h
  .split at h
   .exact b h
   .exact b h
   .simp at h
  .exact pu h
 .exact pu h
 .exact pu h
 .simp at h
theorem zm {P:Program} {n:Nat} {all:List Oper} {o:Oper} {T:Env} {h b:az} {v:V} {rd wr:List Nat} {call:Bool} (st:dJ P n all o T h v b rd wr call) {id:Nat} (hw:id∈rd):id < h.length:=by
 cases st with
 | skip=>simp at hw
 | op c a=>exact gX (Qq a id hw)
 | jd _ _ _=>simp at hw
 | fN _ _ _ _ _ _=>simp at hw
 | call _ _ _ _ _ _ d=>simp at hw
structure pB (n:Nat) (Z:Nat->Prop) (μ:Mu) (F:View) (T:Env) (h:az) (a:Act) (w:World):Prop where
 defers:a.defers=[]
 size:a.tmps.size=n
 tm:∀ t,ax Z μ w.heap (T t) (a.tmps.getD t undef)
 hr:gN Z μ w.heap (cat h F)
def cX (P:Program) (n:Nat) (c:Code) (T:Env) (h:az) (e:Exit) (T':Env) (h':az):Prop :=
 h.length<=h'.length/\∀ Z μ F a w,(∀ id,h.length<=id->id < h'.length->μ id=none)->pB n Z μ F T h a w ->
  c.wp P (λe' a' w'=>e'=e/\∃ Z' μ',pB n Z' μ' F T' h' a' w'/\Ext Z μ w h.length Z' μ' w'/\(∀ id,id < h.length∨h'.length<=id->μ' id=μ id)) a w
section
variable {P:Program} {n:Nat} {all:List Oper}
theorem Gn {Z:Nat->Prop} {μ:Mu} {w:World} {T:Env} {a:Act} {o:Oper} (h:∀ t,t∈tmpsOf o->ax Z μ w.heap (T t) (a.tmps.getD t undef)):∀ x∈o.op.operands,ax Z μ w.heap (ev T x) (a.eval x):=by
 intro x b
 cases x with
 | tmp t=>exact h t (by simp only[tmpsOf,TM];exact⟨.tmp t,by simpa using b,rfl⟩)
 | const v=>exact gg v
 | global g=>exact .any _
 | func f=>exact .fn f [] [] #[] #[] rfl rfl (λi hi=>by simp at hi) (λi hi=>by simp at hi)
theorem HV {a:Nat->az} {N:Nat} (h:∀ i,i < N->(a i).length<=(a (i+1)).length):∀ i j,i<=j->j<=N->(a i).length<=(a j).length:=by
 intro i j b
 induction b with
 | refl=>intro _;exact Sy _
 | step _ c=>intro d;exact Tq (c (by omega)) (h _ (by omega))
theorem xO {a:Nat->Env} {vs:Nat->V} {N t:Nat} (g:∀ i o,all[i]?=some o->a (i+1)=(a i).put o.dst (vs i)) (p:N=all.length):∀ i j,i<=j->j<=N->(∀ k o,i<=k->k < j->all[k]?=some o->o.dst≠some t)->a j t=a i t:=by
 intro i j c
 induction c with
 | refl=>intro _ _;rfl
 | step hle h =>
  rename_i m
  intro q b
  have hm:m < all.length:=by omega
  rw[g m all[m] (Sn hm)]
  have l:=b m all[m] hle (by omega) (Sn hm)
  have:(Env.put (a m) (all[m]).dst (vs m)) t=a m t:=by
   cases f:(all[m]).dst with
   | none=>rfl
   | some d =>
    simp only[Env.put]
    rw[Sr (λe=>l (by rw[f,e]))]
  rw[this]
  exact h (by omega) (λk o h1 r n=>b k o h1 (by omega) n)
def zh (P:Program) (n:Nat) (all:List Oper) (recs:List Rec) (Ts:Nat->Env) (hs:Nat->az) (vs:Nat->V):Prop:=∀ i o r,all[i]?=some o->recs[i]?=some r ->
 dJ P n all o (Ts i) (hs i) (vs i) (hs (i+1)) r.rd r.wr r.call/\qt n o=true/\Ts (i+1)=(Ts i).put o.dst (vs i)/\r.lo=(hs i).length/\r.hi=(hs (i+1)).length
structure Bears (P:Program) (n:Nat) (all:List Oper) (Ts:Nat->Env) (hs:Nat->az) (vs:Nat->V) (i k:Nat) (o:Oper) (a b:Rec):Prop where
 wr:a.wr=[]
 call:a.call=false
 len:a.lo=a.hi
 step:∀ g:az,g.length=(hs i).length->(∀ id,id < (hs i).length->g.view id=if id∈b.wr then (hs (k+1)).view id else (hs i).view id)->dJ P n all o (Ts i) g (vs i) g a.rd [] false
def Ke (P:Program) (n:Nat) (all:List Oper) (recs:List Rec) (T T':Env) (h:az):Prop:=∀ Ts hs vs,Ts 0=T->hs 0=h->Ts all.length=T'->recs.length=all.length->zh P n all recs Ts hs vs->∀ i,∃ tol:Option Nat,
 (∀ k a b,i < k->recs[i]?=some a->recs[k]?=some b->ordered (fo all []) i k=false->tol≠some k->nC a b) /\
 ∀ k a b o,tol=some k->recs[i]?=some a->recs[k]?=some b->all[i]?=some o->i < k/\Bears P n all Ts hs vs i k o a b
theorem s6.Rk {c:List Rec} {T d:Env} {hp:az} (h:s6 all c):Ke P n all c T d hp:=λ_ _ _ _ _ _ _ _ i=>⟨none,λk a b h1 e f g _=>h i k a b h1 e f g,λk a b o h1=>by simp at h1⟩
theorem uM (hm:P.follows .mixedOrders=true) {id:Nat} {T T':Env} {h h':az} {A:List Rec} (tr:Tr P n all all T h A T' h') (ht:k8 all=true) (hh:Ke P n all A T T' h) :
  cX P n (.region id all.toArray true) T h .normal T' h':=by
 obtain⟨hn,Ts,v,vs,e8,a7,e9,a8,E⟩:=CR all T h A T' h' tr
 obtain⟨U,V⟩:=Gj ht
 have hc:=hh Ts v vs e8 a7 e9 hn E
 have J:∀ i,i < all.length->∃ o r,all[i]?=some o/\A[i]?=some r:=λi hi=>⟨all[i],A[i]'(by omega),Sn hi,Sn (by omega)⟩
 have dj:∀ i o,all[i]?=some o->i < all.length:=λi o hi=>kO hi
 have hT:∀ i o,all[i]?=some o->Ts (i+1)=(Ts i).put o.dst (vs i):=λi o hi=>by
  obtain⟨o',r,h1,y⟩:=J i (dj i o hi)
  rw[hi] at h1;simp at h1;subst h1
  exact(E i o r hi y).2.2.1
 have b2:∀ i,i < all.length->(v i).length<=(v (i+1)).length:=λi hi=>by
  obtain⟨o,r,h1,y⟩:=J i hi
  exact sm (E i o r h1 y).1
 have f:=HV b2
 have hle:h.length<=h'.length:=by rw[<-a7,<-a8];exact f _ _ (TP _) (Sy _)
 have W:∀ i j id,i<=j->j<=all.length->id < (v i).length->(∀ k r,i<=k->k < j->A[k]?=some r->¬ id∈r.wr)->(v j).view id=(v i).view id:=by
  intro i j id hq
  induction hq with
  | refl=>intro _ _ _;rfl
  | step hle ih =>
   rename_i m
   intro hj s b7
   obtain⟨o,r,h1,y⟩:=J m (by omega)
   rw[qm (E m o r h1 y).1 (S8 s (f _ _ hle (by omega))) (b7 m r hle (by omega) y)]
   exact ih (by omega) s (λk r h1 y N=>b7 k r h1 (by omega) N)
 refine⟨hle,λZ μ F a w b8 an=>wp_region_any hm ?_⟩
 let Inv (listed:Array Bool) (I:Act) (w':World):Prop:=∃ Y μ' H,I.defers=[]/\I.tmps.size=n /\
  (∀ t,∃ G,G<=all.length/\ax Y μ' w'.heap (Ts G t) (I.tmps.getD t undef)/\∀ k o,all[k]?=some o->o.dst=some t->(listed.getD k false=true↔k < G)) /\
  gN Y μ' w'.heap H /\
  (∀ id,μ' id≠none->(∃ G,G<=all.length/\id < (v G).length/\H id=(v G).view id/\∀ k r,A[k]?=some r->id∈r.wr->(listed.getD k false=true↔k < G))∨(h'.length<=id/\H id=F id)) /\
  (∀ k id,k < all.length->(v k).length<=id->id < (v (k+1)).length->μ' id≠none->listed.getD k false=true) /\
  (∀ k o,all[k]?=some o->listed.getD k false=true->∀ e∈o.after.toList,Region.binds .any e=true->listed.getD e.on false=true) /\
  Ext Z μ w h.length Y μ' w'/\(∀ id,id < h.length∨h'.length<=id->μ' id=μ id)/\listed.size=all.length
 have key:∀ fuel listed I w',Inv listed I w'->((List.range all.length).countP λi=>!listed.getD i false)<=fuel ->
   wpAny P .any all.toArray (λe' I w'=>e'=.normal/\∃ Y μ',pB n Y μ' F T' h' I w'/\Ext Z μ w h.length Y μ' w'/\(∀ id,id < h.length∨h'.length<=id->μ' id=μ id)) fuel listed I w':=by
  have ready_iff:∀ (listed:Array Bool),listed.size=all.length->∀ i,i∈Region.ready .any all.toArray listed↔(∃ o,all[i]?=some o/\listed.getD i false=false/\∀ e∈o.after.toList,Region.binds .any e=true->listed.getD e.on false=true):=by
   intro listed X i
   simp only[Region.ready,TS,TD,TL,Tm,SE,Ur]
   constructor
   .rintro⟨hi,h1,y⟩
    rw[Sn hi] at y
    simp only[SD,SJ] at y
    refine⟨all[i],Sn hi,?_,λe he hb=>?_⟩
    .have:i < listed.size:=by omega
     simp only[Sz,SP this,SJ] at h1 ⊢
     exact h1
    .have:=Array.all_eq_true_iff_forall_mem.1 y e (by simpa using he)
     simpa [hb] using this
   .rintro⟨o,R,h1,y⟩
    have hi:=dj i o R
    refine⟨hi,?_,?_⟩
    .have:i < listed.size:=by omega
     simp only[Sz,SP this,SJ] at h1 ⊢
     exact h1
    .rw[R]
     simp only[SD,SJ]
     rw[Array.all_eq_true_iff_forall_mem]
     intro e he
     cases hb:Region.binds .any e with
     | false=>rfl
     | true=>simpa using y e (by simpa using he) hb
  have b9:∀ (listed:Array Bool),listed.size=all.length->Region.ready .any all.toArray listed=[]->∀ i,i < all.length->listed.getD i false=true:=by
   intro listed X cc i
   induction i using Nat.strongRecOn with
   | _ i ih =>
    intro hi
    cases hl:listed.getD i false with
    | true=>rfl
    | false =>
     exfalso
     have:i∈Region.ready .any all.toArray listed:=(ready_iff listed X i).2 ⟨all[i],Sn hi,hl,λe he hb=>ih e.on (U i all[i] (Sn hi) e he hb) (by have:=U i all[i] (Sn hi) e he hb;omega)⟩
     rw[cc] at this;simp at this
  have finish:∀ listed I w',Inv listed I w'->(∀ i,i < all.length->listed.getD i false=true) ->
    ∃ Y μ',pB n Y μ' F T' h' I w'/\Ext Z μ w h.length Y μ' w'/\(∀ id,id < h.length∨h'.length<=id->μ' id=μ id):=by
   rintro listed I w' ⟨Y,μ',H,hd,X,dm,hr,cf,ch,ds,hex,cj,O⟩ aq
   refine⟨Y,μ',⟨hd,X,λt=>?_,hr.congr λid s=>?_⟩,hex,cj⟩
   .obtain⟨G,B,hv,hw⟩:=dm t
    have:=xO (t:=t) hT rfl G all.length B (Sy _) (λk o h1 y N h4=>by
     have:=(hw k o N h4).1 (aq k y);omega)
    rw[<-e9,this];exact hv
   .unfold cat
    rcases cf id s with ⟨G,B,hl,hH,hw⟩ | ⟨hl,hH⟩
    .have:=W G all.length id B (Sy _) hl (λk r h1 y N h4=>by
      have:=(hw k r N h4).1 (aq k y);omega)
     have hx:id < h'.length:=by rw[<-a8];exact S8 hl (f _ _ B (Sy _))
     rw[St hx,hH,<-this,a8]
    .rw[Sr (by omega),hH]
  intro fuel
  induction fuel with
  | zero =>
   intro listed I w' hinv fb
   have O:listed.size=all.length:=by obtain⟨_,_,_,_,_,_,_,_,_,_,_,_,O⟩:=hinv;exact O
   have aq:∀ i,i < all.length->listed.getD i false=true:=by
    intro i hi
    have h0:(List.range all.length).countP (λi=>!listed.getD i false)=0:=by omega
    rw[List.countP_eq_zero] at h0
    have:=h0 i (by simpa using hi)
    simpa using this
   refine⟨?_,rfl,finish listed I w' hinv aq⟩
   apply List.eq_nil_iff_forall_not_mem.2
   intro i hi
   obtain⟨o,R,h1,_⟩:=(ready_iff listed O i).1 hi
   rw[aq i (dj i o R)] at h1;simp at h1
  | succ fuel ih =>
   intro listed I w' hinv fb
   have O:listed.size=all.length:=by obtain⟨_,_,_,_,_,_,_,_,_,_,_,_,O⟩:=hinv;exact O
   refine⟨λcc=>⟨rfl,finish listed I w' hinv (b9 listed O cc)⟩,λi hi=>?_⟩
   obtain⟨o,R,ff,ck⟩:=(ready_iff listed O i).1 hi
   have K:=dj i o R
   obtain⟨_,r,_,C⟩:=J i K
   obtain⟨cu,cv,_,fl,fm⟩:=E i o r R C
   obtain⟨Y,μ',H,hd,X,dm,hr,cf,ch,ds,hex,cj,_⟩:=hinv
   have bn:¬ (listed.getD i false=true):=by rw[ff];simp
   have before:∀ j,ordered (fo all []) j i=true->listed.getD j false=true:=λj hj=>D9 U ds R ck hj
   have behind:∀ k ok,all[k]?=some ok->ordered (fo all []) i k=true->listed.getD k false=true->False:=λk ok hk c S=>bn (vF (L:=λk=>listed.getD k false=true) U ds k ok i hk S c)
   have slot:∀ t,t∈mT all o->ax Y μ' w'.heap (Ts i t) (I.tmps.getD t undef):=by
    intro t cA
    obtain⟨G,B,hv,hw⟩:=dm t
    rcases Nat.le_total G i with bd | bd
    .have:=xO (t:=t) hT rfl G i bd (by omega) (λk ok h1 y N h4=>by
      have ar:=(hw k ok N h4).1
      cases c:ordered (fo all []) k i with
      | true=>have:=ar (before k c);omega
      | false=>exact(V k i ok o y N R c).1 t h4 cA)
     rw[this];exact hv
    .have:=xO (t:=t) hT rfl i G bd B (λk ok h1 y N h4=>by
      have ar:=(hw k ok N h4).2 y
      rcases Nat.eq_or_lt_of_le h1 with u | u
      .subst u;exact bn ar
      .cases c:ordered (fo all []) i k with
       | true=>exact behind k ok N c ar
       | false=>exact(V i k o ok u R N c).2 t h4 cA)
     rw[<-this];exact hv
   obtain⟨cC,fs,eb⟩:=hc i
   have cN:∀ id,id < (v i).length->μ' id≠none->(∀ k z,A[k]?=some z->k≠i->id∈z.wr->(listed.getD k false=true↔k < i))->H id=(v i).view id:=by
    intro id s hm hk
    rcases cf id hm with ⟨G,B,hl,hH,hw⟩ | ⟨hl,_⟩
    .rw[hH]
     rcases Nat.le_total G i with bd | bd
     .exact(W G i id bd (by omega) hl (λk z h1 y N h4=>by
       have:=(hw k z N h4).1 ((hk k z N (by omega) h4).2 y);omega)).symm
     .exact W i G id bd B s (λk z h1 y N h4=>by
       have ar:=(hw k z N h4).2 y
       rcases Nat.eq_or_lt_of_le h1 with u | u
       .subst u;exact bn ar
       .have:=(hk k z N (by omega) h4).1 ar;omega)
    .have:(v i).length<=h'.length:=by rw[<-a8];exact f _ _ (by omega) (Sy _)
     omega
   have place:∀ id,(id∈r.rd∨id∈r.wr∨r.call=true)->∀ k z,A[k]?=some z->k≠i->id∈z.wr->(cC=some k->listed.getD k false=false)->(listed.getD k false=true↔k < i):=by
    intro id s k z hk bl hw ft
    have hy:id∈r.wr->r.call=false->id∈r.rd:=λh1 y=>(uG cu h1).2 y
    have cS:id∈r.rd∨r.call=true:=by
     rcases s with h1 | h1 | h1
     .exact .inl h1
     .cases fx:r.call with
      | true=>exact .inr rfl
      | false=>exact .inl (hy h1 fx)
     .exact .inr h1
    have cV:z.wr≠[]:=λe=>by rw[e] at hw;simp at hw
    obtain⟨ok,_,c3,_⟩:=J k (by have:=kO hk;omega)
    rcases Nat.lt_or_gt_of_ne bl with br | br
    .refine⟨λ_=>br,λ_=>?_⟩
     cases c:ordered (fo all []) k i with
     | true=>exact before k c
     | false =>
      obtain⟨tk,hz,hA⟩:=hc k
      by_cases fz:tk=some i
      .exact absurd (hA i z r ok fz hk C c3).2.wr cV
      .have nc:=hz i z r br hk C c fz
       rcases cS with h1 | h1
       .exact absurd h1 (nc.Rh id hw)
       .exact absurd (nc.call2 h1) cV
    .refine⟨λS=>?_,λh6=>by omega⟩
     exfalso
     cases c:ordered (fo all []) i k with
     | true=>exact behind k ok c3 c S
     | false =>
      by_cases et:cC=some k
      .rw[ft et] at S;simp at S
      .have nc:=fs k r z br C hk c et
       rcases cS with h1 | h1
       .exact absurd h1 (nc.QD id hw)
       .exact absurd (nc.Rb h1) cV
   have closing:∀ x w1 Z1 a1,ax Z1 a1 w1.heap (vs i) x->gN Z1 a1 w1.heap (iT H (v i) (v (i+1)) r.wr)->Ext Y μ' w' (v i).length Z1 a1 w1->(∀ id,id < (v i).length∨(v (i+1)).length<=id->a1 id=μ' id) ->
     wpAny P .any all.toArray (λe' I w'=>e'=.normal/\∃ Y μ',pB n Y μ' F T' h' I w'/\Ext Z μ w h.length Y μ' w'/\(∀ id,id < h.length∨h'.length<=id->μ' id=μ id)) fuel (listed.setIfInBounds i true) (I.put o.dst x) w1:=by
    intro x w1 Z1 a1 ee eg bs M
    have Q:∀ k,(listed.setIfInBounds i true).getD k false=if k=i then true else listed.getD k false:=by
     intro k
     simp only[Sz,Tn]
     by_cases e:i=k
     .subst e;rw[St rfl,St rfl,St (by omega)];rfl
     .rw[Sr e,Sr (λq=>e q.symm)]
    have gd:(listed.setIfInBounds i true).size=all.length:=by simpa using O
    refine ih _ _ _ ⟨Z1,a1,iT H (v i) (v (i+1)) r.wr,?_,?_,?_,eg,?_,?_,?_,?_,?_,gd⟩ ?_
    .unfold Act.put;split <;> exact hd
    .unfold Act.put;split <;> simp[X]
    .intro t
     by_cases c4:o.dst=some t
     .refine⟨i+1,K,?_,λk ok hk b0=>?_⟩
      .rw[hT i o R,c4]
       have gk:t < I.tmps.size:=by unfold qt at cv;rw[c4] at cv;rw[X];simpa using cv
       simp only[Env.put,Act.put,if_true,Sz,Tn,gk,SJ]
       exact ee
      .rw[Q]
       by_cases e:k=i
       .subst e;simp
       .rw[Sr e]
        have cA:t∈mT all o:=by simp[mT,c4]
        rcases Nat.lt_or_gt_of_ne e with u | u
        .cases c:ordered (fo all []) k i with
         | true=>exact⟨λ_=>by omega,λ_=>before k c⟩
         | false=>exact absurd cA ((V k i ok o u hk R c).1 t b0)
        .cases c:ordered (fo all []) i k with
         | true=>exact⟨λS=>(behind k ok hk c S).elim,λh6=>by omega⟩
         | false=>exact absurd cA ((V i k o ok u R hk c).2 t b0)
     .obtain⟨G,B,hv,hw⟩:=dm t
      refine⟨G,B,?_,λk ok hk b0=>?_⟩
      .have:(I.put o.dst x).tmps.getD t undef=I.tmps.getD t undef:=by
        unfold Act.put
        split
        .rename_i d ei
         simp only[Sz,Tn]
         rw[Sr (λe=>c4 (by rw[ei,e]))]
        .rfl
       rw[this];exact hv.mono bs.mono
      .rw[Q,Sr (λe=>by subst e;rw[R] at hk;simp at hk;subst hk;exact c4 b0)]
       exact hw k ok hk b0
    .intro id eH
     unfold iT
     by_cases b1:id∈r.wr∨((v i).length<=id/\id < (v (i+1)).length)
     .left
      have a6:id < (v (i+1)).length:=by
       rcases b1 with u | u
       .exact S8 (uG cu u).1 (b2 i K)
       .exact u.2
      refine⟨i+1,K,a6,by rw[St b1],λk z hk D=>?_⟩
      rw[Q]
      by_cases e:k=i
      .subst e;simp
      .rw[Sr e]
       obtain⟨ok,_,c3,_⟩:=J k (by have:=kO hk;omega)
       rcases b1 with u | u
       .have hp:=place id (.inr (.inl u)) k z hk e D (λet=>by
         have:=(eb k r z o et C hk R).2.wr
         rw[this] at u;simp at u)
        exact⟨λS=>by have:=hp.1 S;omega,λh7=>hp.2 (by omega)⟩
       .obtain⟨da,_⟩:=E k ok z c3 hk
        have ar:=(uG da D).1
        have hC:i < k:=by
         rcases SY i k with h6 | h6
         .exact h6
         .have:=f k i h6 (by omega);omega
        refine⟨λS=>?_,λh7=>by omega⟩
        exfalso
        cases c:ordered (fo all []) i k with
        | true=>exact behind k ok c3 c S
        | false =>
         by_cases et:cC=some k
         .have:=(eb k r z o et C hk R).2.len
          omega
         .exact(fs k r z hC C hk c et).new id D (by rw[fl,fm];exact u)
     .rw[Sr b1]
      have e0:μ' id≠none:=by
       rw[<-M id ?_]
       .exact eH
       .rcases SY id (v i).length with h6 | h6
        .exact .inl h6
        .right
         rcases SY id (v (i+1)).length with h7 | h7
         .exact absurd (.inr ⟨h6,h7⟩) b1
         .exact h7
      rcases cf id e0 with ⟨G,B,hl,hH,hw⟩ | u
      .refine .inl ⟨G,B,hl,hH,λk z hk D=>?_⟩
       rw[Q,Sr (λe=>by subst e;rw[C] at hk;simp at hk;subst hk;exact b1 (.inl D))]
       exact hw k z hk D
      .exact .inr u
    .intro k id hk h1 y eH
     rw[Q]
     by_cases e:k=i
     .rw[St e]
     .rw[Sr e]
      refine ch k id hk h1 y ?_
      rw[<-M id ?_]
      .exact eH
      .rcases Nat.lt_or_gt_of_ne e with h6 | h6
       .left;exact S8 y (f _ _ h6 (by omega))
       .right;exact Tq (f _ _ h6 (by omega)) h1
    .intro k ok hk S e he hb
     rw[Q] at S ⊢
     by_cases ek:k=i
     .subst ek
      rw[R] at hk;simp at hk;subst hk
      split
      .rfl
      .exact ck e he hb
     .rw[Sr ek] at S
      split
      .rfl
      .exact ds k ok hk S e he hb
    .refine hex.trans bs ?_ an.hr.lt
     rw[<-a7];exact f _ _ (TP _) (by omega)
    .intro id s
     rw[M id,cj id s]
     rcases s with u | u
     .left;rw[<-a7] at u;exact S8 u (f _ _ (TP _) (by omega))
     .right;rw[<-a8] at u;exact Tq (f _ _ K (Sy _)) u
    .have:(List.range all.length).countP (λk=>!(listed.setIfInBounds i true).getD k false) < (List.range all.length).countP (λk=>!listed.getD k false):=by
      have gen:∀ (l:List Nat),i∈l->l.Nodup->l.countP (λk=>!(listed.setIfInBounds i true).getD k false) < l.countP (λk=>!listed.getD k false):=by
       intro l
       induction l with
       | nil=>intro h;simp at h
       | cons x l hE =>
        intro gl e1
        simp only[Tx] at e1
        by_cases e:x=i
        .subst e
         have e2:l.countP (λk=>!(listed.setIfInBounds x true).getD k false)=l.countP (λk=>!listed.getD k false):=by
          apply List.countP_congr
          intro k hk
          have hF:k≠x:=λq=>e1.1 (by rw[<-q];exact hk)
          rw[Q,Sr hF]
         have h1:(listed.setIfInBounds x true).getD x false=true:=by rw[Q,St rfl]
         rw[List.countP_cons,List.countP_cons,e2,h1,ff]
         simp
        .have e3:i∈l:=by
          rcases SM.1 gl with u | u
          .exact absurd u.symm e
          .exact u
         have:=hE e3 e1.2
         simp only[List.countP_cons,Q,Sr e]
         simp only[Q] at this
         omega
      exact gen _ (by simpa using K) List.nodup_range
     omega
   have bx:∀ j want d,o.guard=some (j,want)->(all[j]?).bind (·.dst)=some d->ax Y μ' w'.heap (Ts i d) (I.tmps.getD d undef):=λj want d hg ei=>slot d (by
    simp only[mT,SS];right;rw[hg];simp[ei])
   have ea:=Gn (o:=o) λt hG=>slot t (by
    simp only[mT,SS];left;right;exact hG)
   by_cases gr:∃ k0,cC=some k0/\listed.getD k0 false=true
   .obtain⟨k0,e4,ha⟩:=gr
    have hI:k0 < all.length:=by
     rcases SY k0 all.length with u | u
     .exact u
     .simp[Sz,TO (show listed.size<=k0 by omega)] at ha
    obtain⟨_,b,_,hb⟩:=J k0 hI
    obtain⟨hM,hB⟩:=eb k0 r b o e4 C hb R
    let g:az:=(List.range (v i).length).map λid=>if id∈b.wr then (v (k0+1)).view id else (v i).view id
    have hf:∀ id,id < (v i).length->az.view g id=if id∈b.wr then (v (k0+1)).view id else (v i).view id:=by
     intro id s
     simp only[g,az.view,Sm,Ss,TR s,SD,SJ]
    have hlen:(v (i+1)).length=(v i).length:=by rw[<-fm,<-fl,hB.len]
    have db:List.length g=(v i).length:=by simp only[g,Sv,List.length_range]
    have da:=hB.step g db hf
    have hJ:iT H g g []=iT H (v i) (v (i+1)) r.wr:=by
     funext id
     unfold iT
     rw[Sr (by
            rintro (h1 | h1); · simp at h1
            .omega),Sr (by
              rw[hB.wr];rintro (h1 | h1); · simp at h1
              .omega)]
    refine wM rfl (by simpa using R) da X bx ea hr (λid s hm=>?_) (λh1=>by simp at h1) (λid h1 y=>by omega) (λx w1 Z1 a1 ee eg bs M=>closing x w1 Z1 a1 ee (by rw[<-hJ];exact eg) (by rw[<-db];exact bs) (λid s=>M id (by
     rw[db];omega)))
    have a6:=zm cu s
    rw[hf id a6]
    by_cases dv:id∈b.wr
    .rw[St dv]
     rcases cf id hm with ⟨G,B,hl,hH,hw⟩ | ⟨hl,_⟩
     .have hK:=(hw k0 b hb dv).1 ha
      rw[hH]
      refine W (k0+1) G id hK B (S8 a6 (f _ _ (by omega) (by omega))) (λk z h1 y N h4=>?_)
      have S:=(hw k z N h4).2 y
      have:=(place id (.inl s) k z N (by omega) h4 (λe=>by rw[e4] at e;simp at e;omega)).1 S
      omega
     .have:(v i).length<=h'.length:=by rw[<-a8];exact f _ _ (by omega) (Sy _)
      omega
    .rw[Sr dv]
     refine cN id a6 hm λk z hk bl D=>place id (.inl s) k z hk bl D λe=>?_
     rw[e4] at e;simp at e;subst e
     rw[hb] at hk;simp at hk;subst hk
     exact absurd D dv
   .have b7:∀ k,cC=some k->listed.getD k false=false:=λk e=>by
     cases hl:listed.getD k false with
     | false=>rfl
     | true=>exact absurd ⟨k,e,hl⟩ gr
    refine wM rfl (by simpa using R) cu X bx ea hr (λid s hm=>cN id (zm cu s) hm λk z hk bl D=>place id (.inl s) k z hk bl D (b7 k))
     (λe5 id s hm=>cN id s hm λk z hk bl D=>place id (.inr (.inr e5)) k z hk bl D (b7 k)) (λid h1 y=>?_) closing
    apply TQ
    intro e0
    exact bn (ch i id K h1 y e0)
 have e6:Inv (Array.replicate all.length false) a { w with drawn:=w.drawn+1 }:=by
  refine⟨Z,μ,cat h F,an.defers,an.size,λt=>⟨0,TP _,by rw[e8];exact an.tm t,λk o hk b0=>?_⟩,an.hr,λid e7=>?_,λk id hk h1 y e7=>?_,λk o hk S=>?_,?_,λ_ _=>rfl,by simp⟩
  .have:(Array.replicate all.length false).getD k false=false:=by
    simp only[Sz,Array.getElem?_replicate];split <;> rfl
   rw[this];simp
  .unfold cat
   by_cases hl:id < h.length
   .left
    refine⟨0,TP _,by rw[a7];exact hl,by rw[St hl,a7],λk r hk D=>?_⟩
    have:(Array.replicate all.length false).getD k false=false:=by
     simp only[Sz,Array.getElem?_replicate];split <;> rfl
    rw[this];simp
   .rw[Sr hl]
    rcases SY id h'.length with u | u
    .exact absurd (b8 id (by omega) u) e7
    .exact .inr ⟨u,rfl⟩
  .exfalso
   refine e7 (b8 id ?_ ?_)
   .rw[<-a7];exact Tq (f _ _ (TP _) (by omega)) h1
   .rw[<-a8];exact S8 y (f _ _ hk (Sy _))
  .have:(Array.replicate all.length false).getD k false=false:=by
    simp only[Sz,Array.getElem?_replicate];split <;> rfl
   rw[this] at S;simp at S
  .exact⟨⟨rfl,rfl,rfl,Sy _⟩,gz.refl _ _ _,λ_ _ _=>rfl,λ_ h=>.inl h,λ_ _ _ _ h=>.inl h⟩
 have:=key all.length _ _ _ e6 (by
  have:=List.countP_le_length (p:=λi=>!(Array.replicate all.length false).getD i false) (l:=List.range all.length)
  simpa using this)
 simpa using this
theorem xz (hm:P.follows .mixedOrders=true) {id:Nat} {T b:Env} {h c:az} {a:List Rec} (d:Tr P n all all T h a b c) (e:k8 all=true) (f:s6 all a) :
 cX P n (.region id all.toArray true) T h .normal b c:=uM hm d e f.Rk
end
section
variable {P:Program} {n:Nat}
theorem pB.eval {Z:Nat->Prop} {μ:Mu} {F:View} {T:Env} {h:az} {a:Act} {w:World} (s:pB n Z μ F T h a w) (x:Operand):ax Z μ w.heap (ev T x) (a.eval x):=by
 cases x with
 | tmp t=>exact s.tm t
 | const v=>exact gg v
 | global g=>exact .any _
 | func f=>exact .fn f [] [] #[] #[] rfl rfl (λi hi=>by simp at hi) (λi hi=>by simp at hi)
theorem Em {all:List Oper} {id:Nat} {T N:Env} {h B:az} {f:List Rec} (tr:Tr P n all all T h f N B):cX P n (.region id all.toArray false) T h .normal N B:=by
 obtain⟨an,Ts,y,vs,O,z,Q,G,g⟩:=CR all T h f N B tr
 have C:∀ i,i < all.length->∃ o r,all[i]?=some o/\f[i]?=some r:=λi hi=>⟨all[i],f[i]'(by omega),Sn hi,Sn (by omega)⟩
 have l:∀ i,i < all.length->(y i).length<=(y (i+1)).length:=λi hi=>by
  obtain⟨o,r,h1,J⟩:=C i hi
  exact sm (g i o r h1 J).1
 have c:=HV l
 refine⟨by rw[<-z,<-G];exact c _ _ (TP _) (Sy _),λZ μ F a w H D=>wp_region ?_⟩
 have key:∀ k i,i+k=all.length->∀ E μ' I w',pB n E μ' F (Ts i) (y i) I w'->Ext Z μ w h.length E μ' w'->(∀ id,id < h.length∨B.length<=id->μ' id=μ id)->(∀ id,(y i).length<=id->id < B.length->μ' id=none) ->
   wpOps P all.toArray (λe' I w'=>e'=.normal/\∃ E μ',pB n E μ' F N B I w'/\Ext Z μ w h.length E μ' w'/\(∀ id,id < h.length∨B.length<=id->μ' id=μ id)) (List.range' i k) I w':=by
  intro k
  induction k with
  | zero =>
   intro i hi E μ' I w' b hex m _
   obtain rfl:i=all.length:=by omega
   simp only[List.range'_zero,wpOps]
   rw[Q,G] at b
   exact⟨trivial,E,μ',b,hex,m⟩
  | succ k ih =>
   intro i hi E μ' I w' b hex m K
   obtain⟨o,r,ho,hr⟩:=C i (by omega)
   obtain⟨A,p,hT,aq,ar⟩:=g i o r ho hr
   have a1:=l i (by omega)
   have a6:(y (i+1)).length<=B.length:=by rw[<-G];exact c _ _ (by omega) (Sy _)
   have R:h.length<=(y i).length:=by rw[<-z];exact c _ _ (TP _) (by omega)
   rw[List.range'_succ,wpOps_cons]
   refine wM rfl (by simpa using ho) A b.size (λj want d _ _=>b.tm d) (λx _=>b.eval x) b.hr (λid s _=>?_) (λ_ id s _=>?_) (λid h1 J=>K id h1 (by omega)) ?_
   .unfold cat;rw[St (zm A s)]
   .unfold cat;rw[St s]
   .intro x w1 Z1 S U V u v
    refine ih (i+1) (by omega) Z1 S _ w1 ⟨?_,?_,λt=>?_,V.congr λid _=>?_⟩ (hex.trans u R D.hr.lt) (λid s=>?_) (λid h1 J=>?_)
    .unfold Act.put;split <;> exact b.defers
    .unfold Act.put;split <;> simp[b.size]
    .rw[hT]
     cases W:o.dst with
     | none =>
      simp only[Env.put,Act.put]
      exact(b.tm t).mono u.mono
     | some d =>
      have L:d < I.tmps.size:=by unfold qt at p;rw[W] at p;rw[b.size];simpa using p
      simp only[Env.put,Act.put,Sz,Tn]
      by_cases e:t=d
      .subst e;rw[St rfl,St rfl,St L];exact U
      .rw[Sr e,Sr (λq=>e q.symm)]
       have:=(b.tm t).mono u.mono
       simpa only [Sz] using this
    .simp only[cat,iT]
     by_cases X:id < (y (i+1)).length
     .rw[St X]
      split
      .rfl
      .rename_i hn
       have M:id < (y i).length:=by
        rcases SY id (y i).length with Y | Y
        .exact Y
        .exact absurd (.inr ⟨Y,X⟩) hn
       rw[St M,qm A M (λq=>hn (.inl q))]
     .rw[Sr X,Sr,Sr (by omega)]
      rintro (M | M)
      .have:=(uG A M).1;omega
      .omega
    .rw[v id (by omega),m id s]
    .rw[v id (by omega)];exact K id (by omega) J
 have:=key all.length 0 (by omega) Z μ a w (by rw[O,z];exact D) (Ext.refl _ _ _ _) (λ_ _=>rfl) (λid h1 J=>H id (by rw[<-z];exact h1) J)
 rw[TS,List.range_eq_range']
 exact this
theorem cX.weaken {c:Code} {T q:Env} {h j:az} {e:Exit} (x:cX P n c T h e q j) {Z:Nat->Prop} {μ:Mu} {F:View} {a:Act} {w:World} {r:Nat->Prop} {d:Mu} {l:World} {m:Nat}
  (f:∀ id,h.length<=id->id < j.length->μ id=none) (s:pB n Z μ F T h a w) (hex:Ext r d l m Z μ w) (hm:m<=h.length) (p:∀ id b o s,d id=some (b,o,s)->b < l.heap.size) :
  c.wp P (λe' t w'=>e'=e/\∃ k μ',pB n k μ' F q j t w'/\Ext r d l m k μ' w'/\(∀ id,id < h.length∨j.length<=id->μ' id=μ id)) a w :=
 wp_mono (x.2 Z μ F a w f s) λ_ _ _ ⟨he,k,μ',u,g,i⟩=>⟨he,k,μ',u,hex.trans g hm p,i⟩
theorem cX.seq {x y:Code} {T k l:Env} {h h1 f:az} {e:Exit} (g:cX P n x T h .normal k h1) (i:cX P n y k h1 e l f):cX P n (.seq x y) T h e l f:=by
 refine⟨Tq g.1 i.1,λZ μ F a w b s=>wp_seq (wp_mono (g.2 Z μ F a w (λid h1 f=>b id h1 (S8 f i.1)) s) ?_)⟩
 rintro e' o w' ⟨rfl,m,μ',j,hex,c⟩
 refine wp_mono (i.weaken (λid h1 f=>?_) j hex g.1 s.hr.lt) ?_
 .rw[c id (.inr h1)];exact b id (Tq g.1 h1) f
 .rintro e' o w' ⟨he,m,μ',j,hex,d⟩
  refine⟨he,m,μ',j,hex,λid p=>?_⟩
  have:=g.1
  have:=i.1
  rw[d id (by omega),c id (by omega)]
theorem cX.HR {x y:Code} {T c:Env} {h h1:az} {e:Exit} (d:cX P n x T h e c h1) (he:e≠.normal):cX P n (.seq x y) T h e c h1:=by
 refine⟨d.1,λZ μ F a w b s=>wp_seq (wp_mono (d.2 Z μ F a w b s) ?_)⟩
 rintro e' f w' ⟨rfl,h⟩
 cases e' <;> first | exact absurd rfl he | exact⟨rfl,h⟩
theorem cX.here {c:Code} {T:Env} {h:az} {e:Exit} (b:∀ (Q:Exit->Act->World->Prop) a w,Q e a w->c.wp P Q a w):cX P n c T h e T h :=
 ⟨Sy _,λZ μ _ a w _ s=>b _ a w ⟨rfl,Z,μ,s,Ext.refl _ _ _ _,λ_ _=>rfl⟩⟩
theorem cX.skip {T:Env} {h:az} : cX P n .skip T h .normal T h:=.here λ_ _ _ h=>wp_skip h
theorem cX.label {T:Env} {h:az} {l:Nat} : cX P n (.label l) T h .normal T h:=.here λ_ _ _ h=>wp_label h
theorem cX.exit {T:Env} {h:az} {id:Nat} : cX P n (.exit id) T h (.exit id) T h:=.here λ_ _ _ h=>wp_exit h
theorem cX.goto {T:Env} {h:az} {l:Nat} : cX P n (.goto l) T h (.goto l) T h:=.here λ_ _ _ h=>wp_goto h
theorem cX.ret {T:Env} {h:az} : cX P n .ret T h .ret T h:=.here λ_ _ _ h=>wp_ret h
theorem cX.cond {c:Operand} {x y:Code} {T d:Env} {h f:az} {e:Exit} {t:Bool} (i:ev T c=.val (.bool t)) (g:cX P n (if t then x else y) T h e d f):cX P n (.cond c x y) T h e d f:=by
 refine⟨g.1,λZ μ F a w b s=>wp_cond (t:=t) ?_ (g.2 Z μ F a w b s)⟩
 have:=s.eval c
 rw[i] at this
 exact eP this
def oW (id:Nat):Exit->Exit
 | .exit id'=>if id'=id then .normal else .exit id'
 | e=>e
theorem cX.block {id:Nat} {c:Code} {T d:Env} {h f:az} {e:Exit} (g:cX P n c T h e d f):cX P n (.block id c) T h (oW id e) d f:=by
 refine⟨g.1,λZ μ F a w b s=>wp_block (wp_mono (g.2 Z μ F a w b s) ?_)⟩
 rintro e' j w' ⟨rfl,h⟩
 cases e' with
 | exit i =>
  simp only[Exit.inBlock,oW]
  split
  .exact⟨rfl,h⟩
  .exact⟨rfl,h⟩
 | _=>exact⟨rfl,h⟩
theorem yJ {c:Code} {Q b:Exit->Act->World->Prop} (d:∀ e a w,Q e a w->b e a w):∀ (k:Nat) (a:Act) (w:World),Code.rounds P c Q k a w->Code.rounds P c b k a w
 | 0,_,_,h=>h
 | k+1,a,w,h=>by
  rw[rounds_succ] at h ⊢
  refine wp_mono h λe a w h=>?_
  cases e with
  | normal=>exact yJ d k a w h
  | _=>exact d _ _ _ h
def pg (P:Program) (n:Nat) (c:Code) (T:Env) (h:az) (e:Exit) (T':Env) (h':az):Prop :=
 h.length<=h'.length/\∃ k,∀ Z μ F a w,(∀ id,h.length<=id->id < h'.length->μ id=none)->pB n Z μ F T h a w ->
  Code.rounds P c (λe' a' w'=>e'=e/\∃ Z' μ',pB n Z' μ' F T' h' a' w'/\Ext Z μ w h.length Z' μ' w'/\(∀ id,id < h.length∨h'.length<=id->μ' id=μ id)) k a w
theorem pg.out {c:Code} {T d:Env} {h h1:az} {e:Exit} (f:cX P n c T h e d h1) (he:e≠.normal):pg P n c T h e d h1:=by
 refine⟨f.1,1,λZ μ F a w b s=>?_⟩
 rw[rounds_succ]
 refine wp_mono (f.2 Z μ F a w b s) ?_
 rintro e' g w' ⟨rfl,h⟩
 cases e' <;> first | exact absurd rfl he | exact⟨rfl,h⟩
theorem pg.step {c:Code} {T r t:Env} {h h1 g:az} {e:Exit} (i:cX P n c T h .normal r h1) (m:pg P n c r h1 e t g):pg P n c T h e t g:=by
 obtain⟨j,k,m⟩:=m
 refine⟨Tq i.1 j,k+1,λZ μ F a w b s=>?_⟩
 rw[rounds_succ]
 refine wp_mono (i.2 Z μ F a w (λid h1 g=>b id h1 (S8 g j)) s) ?_
 rintro e' o w' ⟨rfl,p,μ',q,hex,d⟩
 refine yJ ?_ k o w' (m p μ' F o w' (λid h1 g=>?_) q)
 .rintro e' o w' ⟨he,p,μ',q,l,f⟩
  refine⟨he,p,μ',q,hex.trans l i.1 s.hr.lt,λid u=>?_⟩
  have:=i.1
  rw[f id (by omega),d id (by omega)]
 .rw[d id (.inr h1)];exact b id (Tq i.1 h1) g
theorem cX.loop {c:Code} {T d:Env} {h f:az} {e:Exit} (g:pg P n c T h e d f):cX P n (.loop c) T h e d f:=by
 obtain⟨h1,k,i⟩:=g
 exact⟨h1,λZ μ F a w b s=>wp_loop_rounds k (i Z μ F a w b s)⟩
def jumps (P:Program) (c:Code) (Q:Exit->Act->World->Prop):Nat->Code->Act->World->Prop
 | 0,_,_,_=>False
 | k+1,x,a,w=>x.wp P (λe a w=>match e with
  | .goto l=>(match findLabel c l with
   | some rest=>jumps P c Q k rest a w
   | none=>Q (.goto l) a w)
  | e=>Q e a w) a w
theorem NV {c:Code} {Q:Exit->Act->World->Prop} {a:Act} {w:World} (k:Nat) (h:jumps P c Q k c a w):(Code.scope c).wp P Q a w:=by
 intro b K cs
 have key:∀ k x a w,jumps P c Q k x a w->∃ e q w',Q e q w'/\Arrives P (lone (b.at a (.code x :: .inScope c :: K)) cs w) b K cs e q w':=by
  intro k
  induction k with
  | zero=>intro x a w h;exact h.elim
  | succ k t =>
   intro x a w h
   obtain⟨e,f,g,i,d⟩:=h b (.inScope c :: K) cs
   cases e with
   | normal=>exact⟨.normal,f,g,i,Steps.trans d (.one step_inScope)⟩
   | exit id=>exact⟨.exit id,f,g,i,λs hk=>d s (by simp[exitTo,hk])⟩
   | goto l =>
    simp only at i
    cases r:findLabel c l with
    | some rest =>
     rw[r] at i
     obtain⟨n,o,p,m,j⟩:=t rest f g i
     exact⟨n,o,p,m,.of_steps (d _ (by simp[gotoIn,r])) j⟩
    | none =>
     rw[r] at i
     exact⟨.goto l,f,g,i,λs hk=>d s (by simp[gotoIn,r,hk])⟩
   | ret=>exact⟨_,f,g,i,d⟩
   | panic u=>exact⟨_,f,g,i,d⟩
   | outgrown=>exact⟨_,f,g,i,d⟩
 obtain⟨e,q,w',i,d⟩:=key k c a w h
 exact⟨e,q,w',i,.of_steps (.one step_scope) d⟩
theorem AV {c:Code} {Q f:Exit->Act->World->Prop} (b:∀ e a w,Q e a w->f e a w):∀ (k:Nat) (x:Code) (a:Act) (w:World),jumps P c Q k x a w->jumps P c f k x a w
 | 0,_,_,_,h=>h
 | k+1,x,a,w,h=>by
  refine wp_mono h λe a w h=>?_
  cases e with
  | goto l =>
   simp only at h ⊢
   split
   .rename_i rest d;rw[d] at h;exact AV b k rest a w h
   .rename_i d;rw[d] at h;exact b _ _ _ h
  | _=>exact b _ _ _ h
def qH (P:Program) (n:Nat) (c x:Code) (T:Env) (h:az) (e:Exit) (T':Env) (h':az):Prop :=
 h.length<=h'.length/\∃ k,∀ Z μ F a w,(∀ id,h.length<=id->id < h'.length->μ id=none)->pB n Z μ F T h a w ->
  jumps P c (λe' a' w'=>e'=e/\∃ Z' μ',pB n Z' μ' F T' h' a' w'/\Ext Z μ w h.length Z' μ' w'/\(∀ id,id < h.length∨h'.length<=id->μ' id=μ id)) k x a w
def Hx (c:Code):Exit->Bool
 | .goto l=>(findLabel c l).isNone
 | _=>true
theorem qH.out {c x:Code} {T d:Env} {h h1:az} {e:Exit} (f:cX P n x T h e d h1) (he:Hx c e=true):qH P n c x T h e d h1:=by
 refine⟨f.1,1,λZ μ F a w b s=>?_⟩
 refine wp_mono (f.2 Z μ F a w b s) ?_
 rintro e' g w' ⟨rfl,h⟩
 cases e' with
 | goto l =>
  simp only[Hx,Option.isNone_iff_eq_none] at he
  simp only[he];exact⟨trivial,h⟩
 | _=>exact⟨rfl,h⟩
theorem qH.jump {c x rest:Code} {T t u:Env} {h h1 g:az} {e:Exit} {l:Nat} (i:cX P n x T h (.goto l) t h1) (v:findLabel c l=some rest) (o:qH P n c rest t h1 e u g):qH P n c x T h e u g:=by
 obtain⟨j,k,o⟩:=o
 refine⟨Tq i.1 j,k+1,λZ μ F a w b s=>?_⟩
 refine wp_mono (i.2 Z μ F a w (λid h1 g=>b id h1 (S8 g j)) s) ?_
 rintro e' p w' ⟨rfl,q,μ',r,hex,d⟩
 simp only[v]
 refine AV ?_ k rest p w' (o q μ' F p w' (λid h1 g=>?_) r)
 .rintro e' p w' ⟨he,q,μ',r,m,f⟩
  refine⟨he,q,μ',r,hex.trans m i.1 s.hr.lt,λid y=>?_⟩
  have:=i.1
  rw[f id (by omega),d id (by omega)]
 .rw[d id (.inr h1)];exact b id (Tq i.1 h1) g
theorem cX.scope {c:Code} {T d:Env} {h f:az} {e:Exit} (g:qH P n c c T h e d f):cX P n (.scope c) T h e d f:=by
 obtain⟨h1,k,i⟩:=g
 exact⟨h1,λZ μ F a w b s=>NV k (i Z μ F a w b s)⟩
def kC (vs:List V):Env:=λt=>vs.getD t .any
def rA (P:Program) (T:Env) (h:az):ResultVar->Option V
 | .tmp t=>some (T t)
 | .cell a t=>(lH P t (T a) h.view).map (·.1)
def lh (P:Program) (T:Env) (h:az):List ResultVar->Option (List V)
 | []=>some []
 | r :: rest=>match rA P T h r,lh P T h rest with
  | some v,some vs=>some (v :: vs)
  | _,_=>none
def JX (P:Program) (fn:Func) (T:Env) (h:az):Option V:=match lh P T h fn.results.toList with
 | some [v]=>some v
 | some vs=>some (.aS vs)
 | none=>none
theorem GU {Z:Nat->Prop} {μ:Mu} {F:View} {T:Env} {h:az} {a:Act} {w:World} (s:pB n Z μ F T h a w) (f:ResultVar->Sem Value) (o:∀ t,f (.tmp t)=pure (a.tmps.getD t undef))
  (q:∀ p t,f (.cell p t)=(do loadVar t (<-asAddr (a.tmps.getD p undef)))):∀ (l:List ResultVar) (vs:List V),lh P T h l=some vs ->
  ∃ xs:List Value,(l.mapM f).run P w=.ok xs w/\fH Z μ w.heap vs xs
 | [],vs,d=>by
  simp only[lh,Sq] at d;subst d
  exact⟨[],rfl,rfl,λi hi=>by simp at hi⟩
 | r :: l,vs,d=>by
  simp only[lh] at d
  split at d
  .rename_i v B h1 I
   simp only[Sq] at d;subst d
   obtain⟨xs,J,hr⟩:=GU s f o q l B I
   have one:∃ x,(f r).run P w=.ok x w/\ax Z μ w.heap v x:=by
    cases r with
    | tmp t =>
     simp only[rA,Sq] at h1;subst h1
     rw[o]
     exact⟨_,rfl,s.tm t⟩
    | cell p t =>
     simp only[rA,Sw] at h1
     obtain⟨⟨v',eff,rd⟩,c,rfl⟩:=h1
     have hp:=s.tm p
     rw[q]
     unfold lH at c
     split at c
     .rename_i id i j C
      rw[C] at hp
      obtain⟨b,o0,sz,hm,g⟩:=mf hp
      split at c
      .rename_i esz es hH
       split at c
       .rename_i hi
        simp only[Sw,Su] at c
        obtain⟨D,k,rfl,_,_⟩:=c
        have u:=s.hr.obj id
        have z:cat h F id=.arr esz es:=by
         simp only[cat];rw[St (gX (by rw[hH];simp)),hH]
        rw[z] at u
        obtain⟨y,E,m⟩:=rS (P:=P) (rowOf u hm hi).2 k
        exact⟨y,by rw[g];simp[asAddr,E],m⟩
       .simp at c
      .simp at c
     .rename_i e j C
      rw[C] at hp
      obtain⟨b,off,K,A,g⟩:=rp hp
      simp only[Sw,Su] at c
      obtain⟨D,k,rfl,_,_⟩:=c
      obtain⟨y,E,m⟩:=rS (P:=P) A k
      exact⟨y,by rw[g];simp[asAddr,E],m⟩
     .simp at c
   obtain⟨x,G,H⟩:=one
   refine⟨x :: xs,?_,⟨by simp[hr.1],λi hi=>?_⟩⟩
   .simp only[List.mapM_cons,Sem.run_bind]
    rw[G]
    simp only[Result.andThen_ok,Sem.run_bind]
    rw[J]
    rfl
   .cases i with
    | zero=>exact H
    | succ i=>simpa using hr.2 i (by simpa using hi)
  .simp at d
theorem bE.HY {f:FuncId} {fn:Func} {c:Code} {vs:List V} {C:Env} {h A:az} {e:Exit} {r:V} (L:P.funcs[f]?=some fn) (M:fn.body=some c) (Q:vs.length<=fn.ntmps)
  (K:cX P fn.ntmps c (kC vs) h e C A) (he:e=.ret∨e=.normal) (hr:JX P fn C A=some r):bE P f vs h r A:=by
 refine⟨K.1,λZ μ F w xs j D l=>calls_of_wp L M ?_⟩
 have m:(xs.toArray ++ Array.replicate (fn.ntmps - xs.toArray.size) undef).size=fn.ntmps:=by
  have:=j.1;simp;omega
 have q:pB fn.ntmps Z μ F (kC vs) h { tmps:=xs.toArray ++ Array.replicate (fn.ntmps - xs.toArray.size) undef,defers:=[] } w:=by
  refine⟨rfl,m,λt=>?_,D⟩
  unfold kC
  by_cases E:t < vs.length
  .have:=j.2 t E
   have G:t < xs.length:=j.1 ▸ E
   have g:(xs.toArray ++ Array.replicate (fn.ntmps - xs.toArray.size) undef).getD t undef=xs.getD t undef:=by
    rw[Sz,TK (by simpa using G)]
    simp[Sm]
   show ax Z μ w.heap (vs.getD t .any) ((xs.toArray ++ Array.replicate (fn.ntmps - xs.toArray.size) undef).getD t undef)
   rw[g];exact this
  .have:vs.getD t .any=.any:=by simp[Sm,Te (Nat.le_of_not_lt E)]
   rw[this];exact .any _
 refine wp_mono (K.2 Z μ F _ w l q) ?_
 rintro e' o w' ⟨rfl,B,μ',s,hex,k⟩
 have u:∃ x,(results fn o.tmps).run P w'=.ok x w'/\ax B μ' w'.heap r x:=by
  unfold JX at hr
  have go:∀ d,lh P C A fn.results.toList=some d->(match d with | [v]=>some v | vs=>some (.aS vs))=some r->∃ x,(results fn o.tmps).run P w'=.ok x w'/\ax B μ' w'.heap r x:=by
   intro d h1 g
   unfold results
   obtain⟨n,H,b⟩:=GU s (fun
     | .tmp t=>pure (o.tmps.getD t undef)
     | .cell p t=>do loadVar t (<-asAddr (o.tmps.getD p undef))) (λ_=>rfl) (λ_ _=>rfl) _ _ h1
   rw[Array.mapM_eq_mapM_toList]
   simp only[Sem.run_bind,Sem.run_map]
   show ∃ x,(((((fn.results.toList.mapM (fun
     | .tmp t=>pure (o.tmps.getD t undef)
     | .cell p t=>do loadVar t (<-asAddr (o.tmps.getD p undef)):ResultVar->Sem Value)).run P w').andThen λa w'=>.ok a.toArray w').andThen λa w'=>(pure (if h:a.size=1 then a[0] else Value.tuple a):Sem Value).run P w')=.ok x w')/\_
   rw[H]
   simp only[Result.andThen_ok,Sem.run_pure]
   match d,n,b,g with
   | [v],[x],b,g =>
    simp only[Sq] at g
    subst g
    exact⟨x,rfl,b.2 0 (by simp)⟩
   | [],[],b,g =>
    simp only[Sq] at g
    subst g
    exact⟨.tuple #[],rfl,.aS _ _ rfl (λi hi=>by simp at hi)⟩
   | v1 :: v2 :: d,N :: O :: n,b,g =>
    simp only[Sq] at g
    subst g
    refine⟨.tuple (N :: O :: n).toArray,by simp,.aS _ _ (by simpa using b.1) (λi hi=>?_)⟩
    have:=b.2 i hi
    simpa [Sz,Sm] using this
   | [_],[],b,_=>exact absurd b.1 (by simp)
   | [_],_ :: _ :: _,b,_=>exact absurd b.1 (by simp)
   | [],_ :: _,b,_=>exact absurd b.1 (by simp)
   | _ :: _ :: _,[],b,_=>exact absurd b.1 (by simp)
   | _ :: _ :: _,[_],b,_=>exact absurd b.1 (by simp)
  split at hr
  .rename_i v I;exact go _ I hr
  .rename_i d J I
   refine go _ I ?_
   split
   .rename_i v;exact absurd rfl (J v)
   .exact hr
  .simp at hr
 obtain⟨x,y,z⟩:=u
 rcases he with rfl | rfl
 .exact⟨s.defers,x,y,x,B,μ',rfl,z,s.hr,hex,k⟩
 .exact⟨s.defers,x,y,x,B,μ',rfl,z,s.hr,hex,k⟩
end
end Gv
