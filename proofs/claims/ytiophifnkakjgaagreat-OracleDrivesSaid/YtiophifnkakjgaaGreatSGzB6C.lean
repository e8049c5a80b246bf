/-
  Part 3 of the proof: what the machine does and what the functions answer.
  Conditions: those that each lemma names.
-/
import Derived.Orders
import Derived.LoopN
import Derived.Scope
import Derived.Test.YtiophifnkakjgaaGreatSGzB6B
set_option linter.unusedSimpArgs false
set_option linter.unusedVariables false
set_option maxRecDepth 100000
set_option maxHeartbeats 20000000
namespace Gv
open Go
section
variable {Z:Nat->Prop} {μ μ':Mu} {w w':World} {P:Program} {H:View} {n:Nat} {v:V} {aA:bk} {rd:List Nat}
theorem rZ {c:Operand->Value} {o:Oper} {b:Builtin} {args:Array Operand} {a:Array TypeId} (d:o.op=.call { callee:=.builtin b,args:=args,argTypes:=a }) :
  execOp c o=builtin b a o.type (args.map fun | .const _=>true | _=>false) (args.map c):=by
 unfold execOp
 rw[d]
 rfl
def py (k:Nat) (x:Value) (b:Bool):Prop:=match k,x with
 | 0,.slice a _ _=>a.isNone=b
 | 1,.pointer a=>a.isNone=b
 | 2,.map a=>a.isNone=b
 | 3,.nilFunc=>b=true
 | 3,.func _ _ _=>b=false
 | _,_=>False
theorem ON {k:Nat} {x:V} {d:Value} {b:Bool} (h:eK k x=some b) (c:ax Z μ w.heap x d):py k d b:=by
 unfold eK at h
 split at h
 .simp at h;subst h;cases c with | emp k a h1 e=>rw[h1 rfl];rfl
 .simp at h;subst h
  cases c with
  | emp k a h1 e =>
   cases a with
   | none=>exact absurd rfl (e rfl)
   | some a=>rfl
 .simp at h;subst h;cases c;rfl
 .simp at h;subst h;cases c;rfl
 .simp at h;subst h;cases c;rfl
 .simp at h;subst h;cases c;rfl
 .simp at h;subst h;cases c;rfl
 .simp at h;subst h;cases c;rfl
 .simp at h;subst h;cases c;rfl
 .simp at h;subst h;cases c;rfl
 .simp at h;subst h;cases c;rfl
 .simp at h;subst h;cases c;rfl
 .simp at h
theorem HP {t:TypeId} {k:Nat} (h:jb P t=some k):(k=0/\∃ e,P.underlying t=some (.slice e))∨(k=1/\∃ e,P.underlying t=some (.pointer e)) ∨
  (k=2/\∃ e f,P.underlying t=some (.map e f))∨(k=3/\∃ p q r,P.underlying t=some (.func p q r)):=by
 unfold jb at h
 split at h
 .rename_i e hu;simp at h;exact .inl ⟨h.symm,e,hu⟩
 .rename_i e hu;simp at h;exact .inr (.inl ⟨h.symm,e,hu⟩)
 .rename_i e f hu;simp at h;exact .inr (.inr (.inl ⟨h.symm,e,f,hu⟩))
 .rename_i p q r hu;simp at h;exact .inr (.inr (.inr ⟨h.symm,p,q,r,hu⟩))
 .simp at h
def qt (P:Program) (w:World) (t:TypeId) (x y:Operand) (xv yv:Value) (b:Bool):Prop :=
 (Op.equal t xv yv).run P w=.ok b w/\(∀ op,(eqGuard op t x y xv yv).run P w=.ok () w)/\(binOp .eql t xv yv=(do pure (.bool (<-Op.equal t xv yv))))/\(binOp .neq t xv yv=(do pure (.bool (!(<-Op.equal t xv yv)))))
theorem kO (t:TypeId) (x y:Value):Op.equal t x y=Op.equalIn (9999+1) t x y:=rfl
theorem O0 {t e:TypeId} {x y:Operand} {a d:Option Addr} {l c f g:Nat} {b:Bool} (hu:P.underlying t=some (.slice e)) (h:(a.isNone=true/\d.isNone=b)∨(a.isNone=b/\d.isNone=true)):qt P w t x y (.slice a l c) (.slice d f g) b:=by
 refine⟨?_,λop=>by cases op <;> rfl,rfl,rfl⟩
 rw[kO]
 generalize (9999:Nat)=depth
 simp only[Op.equalIn,Sem.run_bind,bj hu,Result.andThen_ok]
 cases a with
 | none=>cases d <;> simp_all
 | some a=>cases d <;> simp_all
theorem Ip {t e:TypeId} {x y:Operand} {a c:Option Addr} {b:Bool} (hu:P.underlying t=some (.pointer e)) (h:(a.isNone=true/\c.isNone=b)∨(a.isNone=b/\c.isNone=true)):qt P w t x y (.pointer a) (.pointer c) b:=by
 refine⟨?_,λop=>by cases op <;> rfl,rfl,rfl⟩
 rw[kO]
 generalize (9999:Nat)=depth
 simp only[Op.equalIn,Sem.run_bind,bj hu,Result.andThen_ok]
 cases a with
 | none=>cases c <;> simp_all
 | some a=>cases c <;> simp_all
theorem Sb {t e f:TypeId} {x y:Operand} {a c:Option Nat} {b:Bool} (hu:P.underlying t=some (.map e f)) (h:(a.isNone=true/\c.isNone=b)∨(a.isNone=b/\c.isNone=true)):qt P w t x y (.map a) (.map c) b:=by
 refine⟨?_,λop=>by cases op <;> rfl,rfl,rfl⟩
 rw[kO]
 generalize (9999:Nat)=depth
 simp only[Op.equalIn,Sem.run_bind,bj hu,Result.andThen_ok]
 cases a with
 | none=>cases c <;> simp_all
 | some a=>cases c <;> simp_all
theorem Py {t:TypeId} {p q:Array TypeId} {r:Bool} {x y:Operand} (hu:P.underlying t=some (.func p q r)) :
  qt P w t x y .nilFunc .nilFunc true/\(∀ f m k,qt P w t x y .nilFunc (.func f m k) false)/\(∀ f m k,qt P w t x y (.func f m k) .nilFunc false):=by
 refine⟨⟨?_,λop=>by cases op <;> rfl,rfl,rfl⟩,λf m k=>⟨?_,λop=>by cases op <;> rfl,rfl,rfl⟩,λf m k=>⟨?_,λop=>by cases op <;> rfl,rfl,rfl⟩⟩
 all_goals
  rw[kO]
  generalize (9999:Nat)=depth
  simp only[Op.equalIn,Sem.run_bind,bj hu,Result.andThen_ok,Sem.run_pure]
theorem Q9 {t:TypeId} {x y:Operand} {n o:V} {j d:Value} {b:Bool} (v:ax Z μ w.heap n j) (h1:ax Z μ w.heap o d) (h:Dk P t n o=some b):qt P w t x y j d b:=by
 have g:∃ k m l,jb P t=some k/\eK k n=some m/\eK k o=some l/\((m=true/\l=b)∨(m=b/\l=true)):=by
  unfold Dk at h
  split at h
  .rename_i k hk
   split at h
   .rename_i l s u
    simp at h;subst h
    exact⟨k,true,_,hk,s,u,.inl ⟨rfl,rfl⟩⟩
   .rename_i l _ s u
    simp at h;subst h
    exact⟨k,_,true,hk,s,u,.inr ⟨rfl,rfl⟩⟩
   .simp at h
  .simp at h
 obtain⟨k,m,l,hk,z,A,i⟩:=g
 have c:=ON z v
 have a:=ON A h1
 clear h v h1 z A
 rcases HP hk with ⟨rfl,e,hu⟩ | ⟨rfl,e,hu⟩ | ⟨rfl,e,f,hu⟩ | ⟨rfl,p,q,r,hu⟩
 .cases j <;> simp only[py] at c
  cases d <;> simp only[py] at a
  exact O0 hu (by rw[c,a];exact i)
 .cases j <;> simp only[py] at c
  cases d <;> simp only[py] at a
  exact Ip hu (by rw[c,a];exact i)
 .cases j <;> simp only[py] at c
  cases d <;> simp only[py] at a
  exact Sb hu (by rw[c,a];exact i)
 .obtain⟨g1,g2,g3⟩:=Py (P:=P) (w:=w) (x:=x) (y:=y) hu
  cases j <;> simp only[py] at c
  .cases d <;> simp only[py] at a
   .subst c a
    simp at i
   .subst c a
    have:b=false:=by simpa using i.symm
    subst this;exact g3 _ _ _
  .cases d <;> simp only[py] at a
   .subst c a
    have:b=false:=by simpa using i.symm
    subst this;exact g2 _ _ _
   .subst c a
    have:b=true:=by simpa using i.symm
    subst this;exact g1
theorem Sd {o:Oper} {T:Env} {a:Act} (h:bZ P o T H n=some (v,aA,rd)) (A:∀ x∈o.op.operands,ax Z μ w.heap (ev T x) (a.eval x)) (c:Ctx Z μ w.heap H rd n aA) :
  bb Z μ w n v aA ((execOp a.eval o).run P w):=by
 unfold bZ at h
 split at h
 ·
  rename_i x g
  simp only[U7,Vb] at h
  obtain⟨rfl,rfl,rfl⟩:=h
  rw[g] at A
  refine⟨.value (a.eval x),w,μ,by simp[execOp,g],.inl ⟨_,rfl,A x (by simp[Op.operands])⟩,ey.refl _,iy⟩
 .rename_i x g
  simp only[U7,Vb] at h
  obtain⟨rfl,rfl,rfl⟩:=h
  rw[g] at A
  refine⟨.value (a.eval x),w,μ,by simp[execOp,g],.inl ⟨_,rfl,A x (by simp[Op.operands])⟩,ey.refl _,iy⟩
 ·
  rename_i cc x y g
  rw[g] at A
  split at h
  .rename_i t ht
   simp only[U7,Vb] at h
   obtain⟨rfl,rfl,rfl⟩:=h
   have h1:=A cc (by simp[Op.operands])
   rw[ht] at h1
   have h1:=eO h1
   refine⟨.value (if t then a.eval x else a.eval y),w,μ,by simp[execOp,g,h1,asBool],.inl ⟨_,rfl,?_⟩,ey.refl _,iy⟩
   cases t with
   | true=>exact A x (by simp[Op.operands])
   | false=>exact A y (by simp[Op.operands])
  .simp at h
 ·
  rename_i e g
  split at h
  .rename_i z hz
   have W:∃ i U,P.info? e=some i/\i.zero=some U/\z=(fe U).cells:=by
    cases hi:P.info? e with
    | none=>simp[zeroCells,hi] at hz
    | some i =>
     obtain⟨U,h1,N⟩:=iv hi hz
     exact⟨i,U,rfl,h1,N⟩
   obtain⟨i,U,hi,an,rfl⟩:=W
   have:=JG (P:=P) (x:=U) (t:=e) h (λV=>fW (ga _) V) c
   have C:(execOp a.eval o).run P w=((do pure (Next.value (.pointer (some (<-newVar e U)))):Sem Next).run P w):=by
    unfold execOp
    rw[g]
    simp[Instr.alloc,jo hi an]
   rw[C];exact this
  .simp at h
 ·
  rename_i e x g
  rw[g] at A
  have:=Sw (P:=P) (t:=e) h (λV=>fW (A x (by simp[Op.operands])) V) c
  have C:execOp a.eval o=(do pure (Next.value (<-Instr.box e (a.eval x)))):=by
   unfold execOp;rw[g]
  rw[C];exact this
 ·
  rename_i t parts g
  rw[g] at A
  have C:execOp a.eval o=(do pure (Next.value (<-Instr.build t (parts.map λ(i,x)=>(i,a.eval x))))):=by
   unfold execOp;rw[g]
  rw[C]
  refine Ob h ?_
  rw[Array.toList_map]
  exact zV _ (λx E=>A x (by simpa [Op.operands] using E))
 ·
  rename_i t len parts g
  rw[g] at A
  have C:execOp a.eval o=(do pure (Next.value (<-Instr.buildSlice t len (parts.map λ(i,x)=>(i,a.eval x))))):=by
   unfold execOp;rw[g]
  rw[C]
  refine CO h ?_ c
  rw[Array.toList_map]
  exact zV _ (λx E=>A x (by simpa [Op.operands] using E))
 ·
  rename_i t x g
  rw[g] at A
  have C:execOp a.eval o=(do pure (Next.value (<-Instr.loadAt t (a.eval x)))):=by
   unfold execOp;rw[g]
  rw[C]
  exact Pm h (A x (by simp[Op.operands])) c
 ·
  rename_i t x y g
  rw[g] at A
  have C:execOp a.eval o=(do Instr.storeAt t (a.eval x) (a.eval y);pure Next.skip):=by
   unfold execOp;rw[g]
  rw[C]
  exact OC h (A x (by simp[Op.operands])) (A y (by simp[Op.operands])) c
 ·
  rename_i x g
  rw[g] at A
  have h1:=A x (by simp[Op.operands])
  split at h
  .rename_i id i j E
   simp only[U7,Vb] at h
   obtain⟨rfl,rfl,rfl⟩:=h
   rw[E] at h1
   have N:=h1
   obtain⟨b,o0,s,hm,he⟩:=mM h1
   exact⟨.value (a.eval x),w,μ,by simp[execOp,g,he],.inl ⟨_,rfl,N⟩,ey.refl _,iy⟩
  .rename_i e j E
   simp only[U7,Vb] at h
   obtain⟨rfl,rfl,rfl⟩:=h
   rw[E] at h1
   have N:=h1
   obtain⟨b,off,hz,ar,he⟩:=si h1
   exact⟨.value (a.eval x),w,μ,by simp[execOp,g,he],.inl ⟨_,rfl,N⟩,ey.refl _,iy⟩
  .rename_i f p q E
   simp only[U7,Vb] at h
   obtain⟨rfl,rfl,rfl⟩:=h
   rw[E] at h1
   have N:=h1
   generalize he:a.eval x=y at h1 N
   cases h1 with
   | fn _ _ _ O bs _ _ _ _=>exact⟨.value (.func (.func f) O bs),w,μ,by simp[execOp,g,he],.inl ⟨_,rfl,N⟩,ey.refl _,iy⟩
  .simp at h
 ·
  rename_i t x f g
  rw[g] at A
  have C:execOp a.eval o=(do pure (Next.value (<-Instr.fieldAt t (a.eval x) f))):=by
   unfold execOp;rw[g]
  rw[C]
  exact EY h (A x (by simp[Op.operands]))
 ·
  rename_i t x f g
  rw[g] at A
  have C:execOp a.eval o=(do pure (Next.value (<-Instr.field t (a.eval x) f))):=by
   unfold execOp;rw[g]
  rw[C]
  exact NC h (A x (by simp[Op.operands]))
 ·
  rename_i t x i g
  rw[g] at A
  have C:execOp a.eval o=(do pure (Next.value (<-Instr.indexAt t (a.eval x) (a.eval i)))):=by
   unfold execOp;rw[g]
  rw[C]
  exact EW h (A x (by simp[Op.operands])) (A i (by simp[Op.operands]))
 ·
  rename_i t x lo hi X g
  split at h
  .refine rA h A (λQ B=>?_)
   rw[g] at B
   have J:=B x (by simp[Op.operands])
   have h1:lo.map Q=lo.map a.eval:=by cases lo with | none=>rfl | some y=>simp[B y (by simp[Op.operands])]
   have N:hi.map Q=hi.map a.eval:=by cases hi with | none=>rfl | some y=>simp[B y (by simp[Op.operands])]
   have h3:X.map Q=X.map a.eval:=by cases X with | none=>rfl | some y=>simp[B y (by simp[Op.operands])]
   unfold execOp;rw[g];simp only[J,h1,N,h3]
  .rw[g] at A
   have C:execOp a.eval o=(do pure (Next.value (<-Instr.sliceAt t (a.eval x) (lo.map a.eval) (hi.map a.eval) (X.map a.eval)))):=by
    unfold execOp;rw[g]
   rw[C]
   exact OU h (A x (by simp[Op.operands])) (C3 lo (λy S=>A y (by simp[Op.operands] at S ⊢;simp[S]))) (C3 hi (λy S=>A y (by simp[Op.operands] at S ⊢;simp[S]))) (C3 X (λy S=>A y (by simp[Op.operands] at S ⊢;simp[S])))
 ·
  rename_i t l cc g
  rw[g] at A
  have C:execOp a.eval o=(do pure (Next.value (<-Instr.makeSlice t (a.eval l) (a.eval cc)))):=by
   unfold execOp;rw[g]
  rw[C]
  exact EO h (A l (by simp[Op.operands])) (A cc (by simp[Op.operands])) c
 ·
  rename_i t r g
  split at h
  .simp only[U7,Vb] at h
   obtain⟨rfl,rfl,rfl⟩:=h
   refine⟨.value (.map (some w.heap.size)),w.alloc (.map #[] 0),μ.set n (w.heap.size,0,0),by simp[execOp,g,Instr.makeMap],.inl ⟨_,rfl,.mp n w.heap.size 0 0 (by simp[Mu.set])⟩,iC _ _,?_⟩
   refine⟨w.heap.size,0,0,Vh _,by rw[heap_alloc];simp,rfl,by rw[heap_alloc];exact en _ _,?_⟩
   intro b o0 s E
   simp only[Mu.set,if_true,U7,Vb] at E
   obtain⟨rfl,rfl,rfl⟩:=E
   exact⟨#[],by rw[heap_alloc];simp,rfl,λi hi=>by simp at hi⟩
  .simp at h
 ·
  rename_i f first cap g
  simp only[U7,Vb] at h
  obtain⟨rfl,rfl,rfl⟩:=h
  rw[g] at A
  have h1:=IM (T:=T) (a:=a) first (λx E=>A x (by simp[Op.operands,E]))
  have N:=IM (T:=T) (a:=a) cap (λx E=>A x (by simp[Op.operands,E]))
  exact⟨.value (.func (.func f) (first.map a.eval) (cap.map a.eval)),w,μ,by simp[execOp,g,Instr.makeFunc],.inl ⟨_,rfl,.fn f _ _ _ _ h1.1 N.1 h1.2 N.2⟩,ey.refl _,iy⟩
 ·
  rename_i t m k ok g
  rw[g] at A
  have C:execOp a.eval o=(do pure (Next.value (<-Instr.lookup t (a.eval m) (a.eval k) ok))):=by
   unfold execOp;rw[g]
  rw[C]
  exact LM h (A m (by simp[Op.operands])) (A k (by simp[Op.operands])) c
 .rename_i t m k x g
  rw[g] at A
  have C:execOp a.eval o=(do Instr.mapUpdate t (a.eval m) (a.eval k) (a.eval x);pure Next.skip):=by
   unfold execOp;rw[g]
  rw[C]
  exact wU h (A m (by simp[Op.operands])) (A k (by simp[Op.operands])) (A x (by simp[Op.operands])) c
 .rename_i t m k x g
  rw[g] at A
  have C:execOp a.eval o=(do Instr.mapUpdate t (a.eval m) (a.eval k) (a.eval x);pure Next.skip):=by
   unfold execOp;rw[g]
  rw[C]
  exact wU h (A m (by simp[Op.operands])) (A k (by simp[Op.operands])) (A x (by simp[Op.operands])) c
 .rename_i t m k g
  rw[g] at A
  have C:execOp a.eval o=(do pure (Next.value (<-Instr.mapEntry t (a.eval m) (a.eval k)))):=by
   unfold execOp;rw[g]
  rw[C]
  exact Hm h (A m (by simp[Op.operands])) (A k (by simp[Op.operands])) c
 .rename_i t m s x g
  rw[g] at A
  have C:execOp a.eval o=(do Instr.entryStore t (a.eval m) (a.eval s) (a.eval x);pure Next.skip):=by
   unfold execOp;rw[g]
  rw[C]
  exact CB h (A m (by simp[Op.operands])) (A s (by simp[Op.operands])) (A x (by simp[Op.operands])) c
 ·
  rename_i t i g
  rw[g] at A
  have h1:=A t (by simp[Op.operands])
  split at h
  .rename_i vs aq
   split at h
   .rename_i hi
    simp only[U7,Vb] at h
    obtain⟨rfl,rfl,rfl⟩:=h
    rw[aq] at h1
    generalize he:a.eval t=y at h1
    cases h1 with
    | bm _ O hl hr =>
     have h3:=hr i hi
     have Y:i < O.size:=hl ▸ hi
     simp only[Vi,Vp Y,Vo] at h3
     exact⟨.value O[i],w,μ,by simp[execOp,g,he,Instr.extract,Y],.inl ⟨_,rfl,h3⟩,ey.refl _,iy⟩
   .simp at h
  .simp at h
 ·
  rename_i t x g
  rw[g] at A
  have h1:=A x (by simp[Op.operands])
  split at h
  .rename_i s hs
   split at h
   .rename_i M
    simp only[U7,Vb] at h
    obtain⟨rfl,rfl,rfl⟩:=h
    rw[hs] at h1
    have h1:=eO h1
    have hu:P.underlying t=some .string:=by
     rw[g] at M
     unfold isStr at M
     simp only at M
     split at M <;> simp_all
    refine⟨.value (.pointer (some ⟨w.heap.size,0,none⟩)),w.alloc (.stringIter s 0),μ.set n (w.heap.size,0,0),by simp[execOp,g,h1,Instr.range,bj hu],.inl ⟨_,rfl,?_⟩,iC _ _,?_⟩
    .have:=ax.ptr (Z:=Z) (μ:=μ.set n (w.heap.size,0,0)) (hp:=(w.alloc (.stringIter s 0)).heap) n 0 0 w.heap.size 0 0 (by simp[Mu.set])
     simpa using this
    .refine⟨w.heap.size,0,0,Vh _,by rw[heap_alloc];simp,rfl,by rw[heap_alloc];exact en _ _,?_⟩
     intro b o0 s' E
     simp only[Mu.set,if_true,U7,Vb] at E
     obtain⟨rfl,rfl,rfl⟩:=E
     exact⟨rfl,by rw[heap_alloc];simp⟩
   .simp at h
  .simp at h
 ·
  rename_i it g
  rw[g] at A
  have C:execOp a.eval o=(do pure (Next.value (<-Instr.next (a.eval it) true o.type))):=by
   unfold execOp;rw[g]
  rw[C]
  exact Pq h (A it (by simp[Op.operands])) c
 ·
  rename_i s d x g
  split at h
  .rw[g] at A
   have C:execOp a.eval o=(do pure (Next.value (<-convert s d (a.eval x)))):=by
    unfold execOp;rw[g]
   rw[C]
   exact HX h (A x (by simp[Op.operands])) c
  .refine rA h A (λQ B=>?_)
   rw[g] at B
   have J:=B x (by simp[Op.operands])
   unfold execOp;rw[g];simp only[J]
 ·
  rename_i b args R g
  have D:execOp a.eval o=builtin b R o.type (args.map fun | .const _=>true | _=>false) (args.map a.eval):=rZ g
  have G:dy P o T=some (v,aA,rd)->bb Z μ w n v aA ((execOp a.eval o).run P w):=by
   intro h
   refine rA h A (λQ B=>?_)
   rw[g] at B
   rw[rZ g,rZ g]
   have:args.map Q=args.map a.eval:=by
    apply Array.map_congr_left
    intro x E
    exact B x (by simp[Op.operands,Call.operands,E])
   rw[this]
  have I:∀ x∈args.toList,ax Z μ w.heap (ev T x) (a.eval x):=λx E=>A x (by rw[g];simp[Op.operands,Call.operands];simpa using E)
  have J:∀ {k:Nat},k < R.size->R[k]?=some (R.getD k 0):=by
   intro k hk
   simp[Vi,hk]
  have L:∀ x,args.toList=[x]->args.map a.eval = #[a.eval x]:=by
   intro x E
   apply Array.ext'
   simp[E]
  have K:∀ x y,args.toList=[x,y]->args.map a.eval = #[a.eval x,a.eval y]:=by
   intro x y E
   apply Array.ext'
   simp[E]
  split at h
  .rename_i x u
   split at h
   .rename_i F
    rw[D,L x u]
    exact RV h (J F) (I x (by rw[u];simp)) c
   .simp at h
  .rename_i x y u
   split at h
   .rename_i F
    rw[D,K x y u]
    exact KK h (J (by omega)) (J (by omega)) F.2 (I x (by rw[u];simp)) (I y (by rw[u];simp)) c
   .split at h
    .rename_i F
     rw[D,K x y u]
     exact PW h (J (by omega)) (J (by omega)) F.2 (I x (by rw[u];simp)) (I y (by rw[u];simp)) c
    .simp at h
  .rename_i x u
   split at h
   .rename_i F
    rw[D,L x u]
    exact RD h (J F) (I x (by rw[u];simp)) c
   .simp at h
  .rename_i x y u
   split at h
   .rename_i F
    rw[D,K x y u]
    exact Pz h (J F) (I x (by rw[u];simp)) (I y (by rw[u];simp)) c
   .simp at h
  .rename_i x y u
   split at h
   .rename_i F
    rw[D,K x y u]
    exact Ko h (J F) (I x (by rw[u];simp)) (I y (by rw[u];simp)) c
   .simp at h
  .rename_i x u
   split at h
   .rename_i F
    rw[D,L x u]
    exact Oo h (J F) (I x (by rw[u];simp)) c
   .simp at h
  .exact G h
  .exact G h
  .exact G h
  .exact G h
  .exact G h
  .simp at h
 .rename_i op t x y yt g
  split at h
  .rw[g] at A
   have J:=A x (by simp[Op.operands])
   have h1:=A y (by simp[Op.operands])
   have go:∀ b,Dk P t (ev T x) (ev T y)=some b->qt P w t x y (a.eval x) (a.eval y) b:=λb hb=>Q9 J h1 hb
   split at h
   .rename_i b hb
    simp only[U7,Vb] at h
    obtain⟨rfl,rfl,rfl⟩:=h
    obtain⟨g1,g2,g3,_⟩:=go _ hb
    refine⟨.value (.bool b),w,μ,?_,.inl ⟨_,rfl,.val _ rfl⟩,ey.refl _,iy⟩
    unfold execOp;rw[g]
    simp only[Sem.run_bind,g2,Result.andThen_ok,g3,g1,Sem.run_pure]
   .rename_i b hb
    simp only[U7,Vb] at h
    obtain⟨rfl,rfl,rfl⟩:=h
    obtain⟨g1,g2,_,g4⟩:=go _ hb
    refine⟨.value (.bool (!b)),w,μ,?_,.inl ⟨_,rfl,.val _ rfl⟩,ey.refl _,iy⟩
    unfold execOp;rw[g]
    simp only[Sem.run_bind,g2,Result.andThen_ok,g4,g1,Sem.run_pure]
   .simp at h
  .refine rA h A (λQ B=>?_)
   rw[g] at B
   have J:=B x (by simp[Op.operands])
   have h1:=B y (by simp[Op.operands])
   unfold execOp;rw[g];simp only[J,h1]
 .rename_i op t x g
  refine rA h A (λQ B=>?_)
  rw[g] at B
  have J:=B x (by simp[Op.operands])
  unfold execOp;rw[g];simp only[J]
 .rename_i t x y g
  refine rA h A (λQ B=>?_)
  rw[g] at B
  have J:=B x (by simp[Op.operands])
  have h1:=B y (by simp[Op.operands])
  unfold execOp;rw[g];simp only[J,h1]
 .simp at h
end
def bk.wr:bk->List Nat
 | .none | .new _=>[]
 | .fj id _ | .ee id _=>[id]
def jM (μ:Mu) (b:Nat):Prop:=∃ id o s,μ id=some (b,o,s)
structure Ext (Z:Nat->Prop) (μ:Mu) (w:World) (m:Nat) (Z':Nat->Prop) (μ':Mu) (w':World):Prop where
 same:ey w w'
 mono:gz Z Z' μ μ' w.heap w'.heap
 frame:fG w.heap w'.heap (jM μ)
 PH:∀ b,Z' b->Z b∨w.heap.size<=b
 AX:∀ id b o s,μ' id=some (b,o,s)->μ id=some (b,o,s)∨(m<=id/\(w.heap.size<=b∨jM μ b))
theorem Ext.refl (Z:Nat->Prop) (μ:Mu) (w:World) (m:Nat):Ext Z μ w m Z μ w :=
 ⟨ey.refl _,gz.refl _ _ _,λ_ _ _=>rfl,λ_ h=>.inl h,λ_ _ _ _ h=>.inl h⟩
theorem Ext.trans {Z l c:Nat->Prop} {μ μ' a:Mu} {w w' d:World} {m n:Nat} (h:Ext Z μ w m l μ' w') (k:Ext l μ' w' n c a d) (hm:m<=n) (q:∀ id b o s,μ id=some (b,o,s)->b < w.heap.size):Ext Z μ w m c a d:=by
 have e:∀ b,jM μ' b->w.heap.size<=b∨jM μ b:=by
  rintro b ⟨id,o,s,i⟩
  rcases h.AX _ _ _ _ i with h1 | ⟨_,h1 | h1⟩
  .exact .inr ⟨_,_,_,h1⟩
  .exact .inl h1
  .exact .inr h1
 refine⟨h.same.trans k.same,h.mono.trans k.mono,λb g p=>?_,λb g=>?_,λid b o s i=>?_⟩
 .rw[k.frame b (VB g h.same.size) (λj=>?_),h.frame b g p]
  rcases e b j with h1 | h1
  .omega
  .exact p h1
 .rcases k.PH b g with h1 | h1
  .exact h.PH b h1
  .exact .inr (VU h.same.size h1)
 .rcases k.AX _ _ _ _ i with h1 | ⟨h1,f⟩
  .exact h.AX _ _ _ _ h1
  .refine .inr ⟨by omega,?_⟩
   rcases f with f | f
   .exact .inl (VU h.same.size f)
   .exact e b f
def cat (h:aB) (F:View):View:=λid=>if id < h.length then h.view id else F id
def cw (P:Program) (f:FuncId) (vs:List V) (h:aB) (r:V) (h':aB):Prop :=
 h.length<=h'.length/\∀ Z μ (F:View) (w:World) (xs:List Value),gu Z μ w.heap vs xs->im Z μ w.heap (cat h F)->(∀ id,h.length<=id->id < h'.length->μ id=none) ->
  Calls P f xs.toArray w λe w'=>∃ x Z' μ',e=.returned x/\ax Z' μ' w'.heap r x/\im Z' μ' w'.heap (cat h' F)/\Ext Z μ w h.length Z' μ' w'/\(∀ id,id < h.length∨h'.length<=id->μ' id=μ id)
def di (P:Program) (f:FuncId):Bool:=match P.funcs[f]? with
 | some fn=>fn.name != "runtime.NumGoroutine" && fn.body.isSome
 | none=>false
def q9 (n:Nat) (o:Oper):Bool:=match o.dst with
 | some d=>d < n
 | none=>true
def dg (n:Nat) (all:List Oper) (T:Env) (o:Oper):Option Bool:=match o.guard with
 | none=>some true
 | some (j,want)=>match (all[j]?).bind (·.dst) with
  | some d=>if d < n then (match T d with
   | .val (.bool b)=>some (b == want)
   | .bm []=>some false
   | _=>none) else none
  | none=>none
inductive dz (P:Program) (n:Nat) (all:List Oper):Oper->Env->aB->V->aB->List Nat->List Nat->Bool->Prop
 | skip {o:Oper} {T:Env} {h:aB} : dg n all T o=some false->dz P n all o T h (.bm []) h [] [] false
 | op {o:Oper} {T:Env} {h:aB} {v:V} {aA:bk} {rd:List Nat} : dg n all T o=some true->bZ P o T h.view h.length=some (v,aA,rd)->dz P n all o T h v (aA.apply h) rd aA.wr false
 | iZ {o:Oper} {T:Env} {h:aB} {e:TypeId} {x:Operand} : dg n all T o=some true->o.op=.box e x->(ev T x).cells.all aJ=true->dz P n all o T h (.aF (ev T x).cells 0) h [] [] false
 | fJ {o:Oper} {T:Env} {h:aB} {s d e:TypeId} {x:Operand} {st:ByteArray} : dg n all T o=some true->o.op=.convert s d x->P.underlying s=some .string->P.underlying d=some (.slice e)->P.underlying e=some (.int .u8)->ev T x=.val (.string st)->dz P n all o T h (.aS (fV st)) h [] [] false
 | call {o:Oper} {T:Env} {h h':aB} {r:V} {f:Operand} {args:Array Operand} {ats:Array TypeId} {g:FuncId} {first cap:List V} {wr:List Nat} : dg n all T o=some true ->
  o.op=.call { callee:=.value f,args:=args,argTypes:=ats }->ev T f=.fn g first cap->di P g=true->cw P g (first ++ args.toList.map (ev T) ++ cap) h r h' ->
  (∀ id,id < h.length->¬ id∈wr->h'.view id=h.view id)->(∀ id,id∈wr->id < h.length)->dz P n all o T h r h' [] wr true
theorem jD {h:aB} {id:Nat} (a:h.view id≠.dead):id < h.length:=by
 rcases Vw id h.length with h1 | h1
 .exact h1
 .exfalso;apply a;simp[aB.view,U5,Vx h1]
theorem Ga {h:aB} {id:Nat} {o:bT} (a:id < h.length):aB.view (h.set id o)=View.set h.view id o:=by
 funext k
 simp only[aB.view,View.set,U5,Wk]
 by_cases e:id=k
 .subst e;simp[a]
 .rw[U8 e,U8 (λq=>e q.symm)]
theorem Dn (h:aB) (o:bT):aB.view (h ++ [o])=View.set h.view h.length o:=by
 funext k
 simp only[aB.view,View.set,U5]
 by_cases e:k=h.length
 .subst e;simp
 .rw[U8 e]
  rcases Vw k h.length with h1 | h1
  .rw[VG h1]
  .rw[VQ h1,Vx (by simp;omega),Vx h1]
theorem k5 {h:aB} {aA:bk} (a:∀ id,id∈aA.wr->h.view id≠.dead):aB.view (aA.apply h)=aA.view h.view h.length:=by
 cases aA with
 | none=>rfl
 | new o=>exact Dn h o
 | fj id o=>exact Ga (jD (a id (by simp[bk.wr])))
 | ee id o =>
  have:=jD (a id (by simp[bk.wr]))
  simp only[bk.apply,bk.view]
  rw[Dn,Ga this]
  simp
theorem fZ (h:aB) (aA:bk):(aA.apply h).length=h.length+(match aA with | .new _ | .ee _ _=>1 | _=>0):=by
 cases aA <;> simp[bk.apply]
theorem mr {P:Program} {o:Oper} {T:Env} {H:View} {n:Nat} {v:V} {aA:bk} {rd:List Nat} (h:bZ P o T H n=some (v,aA,rd)):∀ id,id∈aA.wr->H id≠.dead/\id∈rd:=by
 have b:∀ {c:V} {e:bk} {r:List Nat},e.wr=[]->some (c,e,r)=some (v,aA,rd)->∀ id,id∈aA.wr->H id≠.dead/\id∈rd:=by
  intro c e r he heq id d
  simp only[U7,Vb] at heq
  obtain⟨_,rfl,_⟩:=heq
  rw[he] at d;simp at d
 have pu:dy P o T=some (v,aA,rd)->∀ id,id∈aA.wr->H id≠.dead/\id∈rd:=by
  intro h
  unfold dy at h
  split at h
  .split at h
   .split at h
    .exact b rfl h
    .simp at h
   .simp at h
  .simp at h
 have up:∀ {id:Nat} {g:bT} {c:V} {r:List Nat},H id≠.dead->id∈r->some (c,bk.fj id g,r)=some (v,aA,rd)->∀ i,i∈aA.wr->H i≠.dead/\i∈rd:=by
  intro id g c r h1 j heq i hi
  simp only[U7,Vb] at heq
  obtain⟨_,rfl,rfl⟩:=heq
  simp[bk.wr] at hi;subst hi;exact⟨h1,j⟩
 have l:∀ {id:Nat} {g:bT} {c:V} {r:List Nat},H id≠.dead->id∈r->some (c,bk.ee id g,r)=some (v,aA,rd)->∀ i,i∈aA.wr->H i≠.dead/\i∈rd:=by
  intro id g c r h1 j heq i hi
  simp only[U7,Vb] at heq
  obtain⟨_,rfl,rfl⟩:=heq
  simp[bk.wr] at hi;subst hi;exact⟨h1,j⟩
 have k:∀ {cs:List V},lp cs n=some (v,aA,rd)->∀ id,id∈aA.wr->H id≠.dead/\id∈rd:=by
  intro cs h
  unfold lp at h
  split at h
  .exact b rfl h
  .simp at h
 have mp:∀ {α:Type} {x:Option α} {f:α->V} {r:List Nat},(x.map λa=>(f a,bk.none,r))=some (v,aA,rd)->∀ id,id∈aA.wr->H id≠.dead/\id∈rd:=by
  intro α x f r h
  simp only[Vk] at h
  obtain⟨a,_,h⟩:=h
  exact b rfl (VT some h)
 unfold bZ at h
 split at h
 .exact b rfl h
 .exact b rfl h
 .split at h
  .exact b rfl h
  .simp at h
 .split at h
  .exact k h
  .simp at h
 .exact k h
 .unfold uy at h
  split at h
  .split at h
   .exact mp h
   .simp at h
  .simp at h
 .unfold gR at h
  repeat' (split at h)
  all_goals first | exact b rfl h | (simp at h;done)
 .unfold l0 at h
  repeat' (split at h)
  all_goals first | exact mp h | (simp at h;done)
 .unfold qo at h
  split at h
  .split at h
   .rename_i hH
    split at h
    .exact up (by rw[hH];simp) (by simp) h
    .simp at h
   .simp at h
  .simp at h
 .repeat' (split at h)
  all_goals first | exact b rfl h | (simp at h;done)
 .unfold kH at h
  repeat' (split at h)
  all_goals first | exact b rfl h | (simp at h;done)
 .unfold uH at h
  split at h
  .exact mp h
  .simp at h
 .unfold kX at h
  repeat' (split at h)
  all_goals first | exact b rfl h | (simp at h;done)
 .split at h
  .exact pu h
  .unfold rR at h
   repeat' (split at h)
   all_goals first | exact b rfl h | (simp at h;done)
 .unfold kG at h
  repeat' (split at h)
  all_goals first | exact b rfl h | (simp at h;done)
 .repeat' (split at h)
  all_goals first | exact b rfl h | (simp at h;done)
 .exact b rfl h
 .unfold eN at h
  simp only at h
  repeat' (split at h)
  all_goals first | exact b rfl h | (simp at h;done)
 .unfold fN at h
  split at h
  .split at h
   .rename_i hH
    repeat' (split at h)
    all_goals first | exact up (by rw[hH];simp) (by simp) h | (simp at h;done)
   .simp at h
  .simp at h
 .unfold fN at h
  split at h
  .split at h
   .rename_i hH
    repeat' (split at h)
    all_goals first | exact up (by rw[hH];simp) (by simp) h | (simp at h;done)
   .simp at h
  .simp at h
 .unfold dP at h
  split at h
  .split at h
   .rename_i hH
    repeat' (split at h)
    all_goals first | exact up (by rw[hH];simp) (by simp) h | (simp at h;done)
   .simp at h
  .simp at h
 .unfold jG at h
  split at h
  .split at h
   .rename_i hH
    repeat' (split at h)
    all_goals first | exact up (by rw[hH];simp) (by simp) h | (simp at h;done)
   .simp at h
  .simp at h
 .repeat' (split at h)
  all_goals first | exact b rfl h | (simp at h;done)
 .repeat' (split at h)
  all_goals first | exact b rfl h | (simp at h;done)
 .unfold Bm at h
  split at h
  .split at h
   .rename_i hH
    split at h
    .exact up (by rw[hH];simp) (by simp) h
    .exact b rfl h
   .simp at h
  .simp at h
 .split at h
  .unfold ma at h
   split at h
   .repeat' (split at h)
    all_goals first | exact mp h | exact b rfl h | (simp at h;done)
   .repeat' (split at h)
    all_goals first | exact mp h | exact b rfl h | (simp at h;done)
   .split at h
    .split at h
     .split at h
      .rename_i hH
       exact up (by rw[hH];simp) (by simp) h
      .simp at h
     .simp at h
    .simp at h
   .simp at h
  .exact pu h
 .split at h
  .split at h
   .unfold tY at h
    repeat' (split at h)
    all_goals first | exact mp h | exact b rfl h | (simp at h;done)
   .simp at h
  .split at h
   .unfold mP at h
    split at h
    .split at h
     .simp at h
     .split at h
      .split at h
       all_goals first | exact b rfl h | (simp at h;done)
      .split at h
       .simp at h
       .split at h
        .split at h
         .exact b rfl h
         .simp at h
        .split at h
         .rename_i hH
          split at h
          .exact l (by rw[hH];simp) (by simp) h
          .simp at h
         .simp at h
        .simp at h
    .simp at h
   .split at h
    .unfold wH at h
     split at h
     .split at h
      .split at h
       .exact b rfl h
       .split at h
        .exact b rfl h
        .simp at h
      .simp at h
     .simp at h
    .simp at h
  .split at h
   .unfold FA at h
    split at h
    .exact b rfl h
    .simp at h
   .simp at h
  .split at h
   .unfold Cw at h
    split at h
    .split at h
     .simp at h
     .split at h
      .exact b rfl h
      .split at h
       .split at h
        .rename_i hH
         split at h
         .exact up (by rw[hH];simp) (by simp) h
         .simp at h
        .simp at h
       .simp at h
    .simp at h
   .simp at h
  .split at h
   .unfold vd at h
    split at h
    .split at h
     .rename_i hH
      repeat' (split at h)
      all_goals first | exact up (by rw[hH];simp) (by simp) h | exact b rfl h | (simp at h;done)
     .simp at h
    .simp at h
   .simp at h
  .split at h
   .unfold yH at h
    split at h
    .split at h
     .exact b rfl h
     .split at h
      .split at h
       .rename_i hH
        split at h
        .exact up (by rw[hH];simp) (by simp) h
        .simp at h
       .simp at h
      .simp at h
    .simp at h
   .simp at h
  .exact pu h
  .exact pu h
  .exact pu h
  .exact pu h
  .exact pu h
  .simp at h
 .split at h
  .split at h
   .exact b rfl h
   .exact b rfl h
   .simp at h
  .exact pu h
 .exact pu h
 .exact pu h
 .simp at h
section
variable {P:Program} {n:Nat} {all:List Oper} {Z:Nat->Prop} {μ:Mu} {w:World}
theorem im.congr {H H':View} {hp:Array Obj} (h:im Z μ hp H) (e:∀ id,μ id≠none->H' id=H id):im Z μ hp H':=by
 refine⟨λid=>?_,λi j b o s g k d hi f=>?_,h.lt,h.cQ,h.gO⟩
 .by_cases hm:μ id=none
  .cases hH:H' id with
   | dead=>trivial
   | arr esz es=>intro b o0 s a;rw[hm] at a;simp at a
   | map es c=>intro b o0 s a;rw[hm] at a;simp at a
   | wm s p=>intro b o0 t a;rw[hm] at a;simp at a
  .rw[e id hm];exact h.obj id
 .rw[e i (by rw[hi];simp),e j (by rw[f];simp)]
  exact h.inj i j b o s g k d hi f
def iP (H:View) (h h':aB) (wr:List Nat):View:=λid=>if id∈wr∨(h.length<=id/\id < h'.length) then h'.view id else H id
theorem nK.ext {μ':Mu} {w':World} {aA:bk} {m:Nat} (he:nK Z μ μ' w.heap w'.heap m aA) (k:ey w w') (r:aA.fresh (μ m=none)) (cQ:∀ b,Z b->b < w.heap.size) (gO:∀ id b o s,μ id=some (b,o,s)->¬ Z b) :
  Ext Z μ w m Z μ' w'/\(∀ id,(∀ (_:¬ (match aA with | .new _ | .ee _ _=>id=m | _=>False)),μ' id=μ id)):=by
 have hm:=he.mono r cQ gO
 cases aA with
 | none =>
  obtain⟨rfl,f⟩:=he
  exact⟨⟨k,hm,λb l _=>f b l (λx=>x),λ_ h=>.inl h,λ_ _ _ _ h=>.inl h⟩,λ_ _=>rfl⟩
 | new o =>
  obtain⟨b,o0,s,t,u,rfl,f,_⟩:=he
  refine⟨⟨k,hm,λb l _=>f b l (λx=>x),λ_ h=>.inl h,λid g v y d=>?_⟩,λid i=>by simp[Mu.set];intro e;exact absurd e i⟩
  by_cases e:id=m
  .subst e;simp[Mu.set] at d;exact .inr ⟨Vh _,.inl (by omega)⟩
  .simp[Mu.set,e] at d;exact .inl d
 | fj id o =>
  obtain⟨b,o0,s,a,rfl,f,_,_⟩:=he
  exact⟨⟨k,hm,λg c j=>f g c (λe=>j ⟨id,o0,s,e ▸ a⟩),λ_ h=>.inl h,λ_ _ _ _ h=>.inl h⟩,λ_ _=>rfl⟩
 | ee id o =>
  obtain⟨b,o0,s,rfl,_,q⟩:=he
  refine⟨⟨k,hm,?_,λ_ h=>.inl h,λn g v y d=>?_⟩,λid i=>by simp[Mu.set];intro e;exact absurd e i⟩
  .rcases q with h1 | ⟨⟨p,s1,a⟩,f,_⟩
   .exact λg c _=>h1.2.2 g c (λx=>x)
   .exact λg c j=>f g c (λe=>j ⟨id,p,s1,e ▸ a⟩)
  .by_cases e:n=m
   .subst e
    simp[Mu.set] at d
    obtain⟨rfl,_,_⟩:=d
    rcases q with h1 | ⟨⟨p,s1,a⟩,_,_⟩
    .exact .inr ⟨Vh _,.inl h1.1⟩
    .exact .inr ⟨Vh _,.inr ⟨id,p,s1,a⟩⟩
   .simp[Mu.set,e] at d;exact .inl d
theorem Hx {f:FuncId} {args:Array Value} (h:di P f=true):(callFunc f args).run P w=.ok (.enter f args) w:=by
 unfold di at h
 split at h
 .rename_i fn a
  simp only[Vd,Xe,ne_eq] at h
  have h1:(fn.name == "runtime.NumGoroutine")=false:=by simpa using h.1
  have e:fn.body.isNone=false:=by cases b:fn.body <;> simp_all
  have c:¬ (fn.name = "runtime.NumGoroutine"):=by simpa using h.1
  have d:¬ (fn.body=none):=by cases b:fn.body <;> simp_all
  simp[callFunc,a,c,d]
 .simp at h
theorem nM {ops:Array Oper} (g:ops=all.toArray) {a:Act} (k:a.tmps.size=n) {T:Env} {o:Oper} {t:Bool} (e:dg n all T o=some t)
  (f:∀ j want d,o.guard=some (j,want)->(all[j]?).bind (·.dst)=some d->ax Z μ w.heap (T d) (a.tmps.getD d undef)):Region.wanted o (yielded ops a.tmps)=t:=by
 unfold dg at e
 unfold Region.wanted
 cases i:o.guard with
 | none=>simp[i] at e;subst e;rfl
 | some p =>
  obtain⟨j,want⟩:=p
  simp only[i] at e ⊢
  cases l:(all[j]?).bind (·.dst) with
  | none=>simp[l] at e
  | some d =>
   simp only[l] at e
   split at e
   .rename_i m
    have h:=f j want d i l
    split at e
    .rename_i b r
     rw[r] at h
     have h:=eO h
     simp only[U7] at e
     subst e
     have c:d < a.tmps.size:=k ▸ m
     simp only[Vi,Vp c,Vo] at h
     have:yielded ops a.tmps j=some b:=by
      unfold yielded
      subst g
      simp only[VX,l,VI,Vp c,h]
     rw[this]
     cases b <;> cases want <;> rfl
    .rename_i r
     rw[r] at h
     have c:d < a.tmps.size:=k ▸ m
     generalize q:a.tmps.getD d undef=x at h
     cases h with
     | bm _ s h1 v =>
      simp only[U7] at e
      subst e
      have u:a.tmps[d]?=some (.tuple s):=by
       rw[Vp c]
       simp only[Vi,Vp c,Vo] at q
       rw[q]
      have:yielded ops a.tmps j=none:=by
       unfold yielded
       subst g
       simp only[VX,l,VI,u]
      rw[this]
      rfl
    .simp at e
   .simp at e
theorem yB {ops:Array Oper} (B:ops=all.toArray) {i:Nat} {o:Oper} (hi:ops[i]?=some o) {T:Env} {h Y:aB} {v:V} {rd wr:List Nat} {call:Bool} (st:dz P n all o T h v Y rd wr call) {a:Act} {H:View}
  (G:a.tmps.size=n) (m:∀ j want d,o.guard=some (j,want)->(all[j]?).bind (·.dst)=some d->ax Z μ w.heap (T d) (a.tmps.getD d undef))
  (hT:∀ x∈o.op.operands,ax Z μ w.heap (ev T x) (a.eval x)) (hr:im Z μ w.heap H) (bx:∀ id,id∈rd->μ id≠none->H id=h.view id)
  (I:call=true->∀ id,id < h.length->μ id≠none->H id=h.view id) (J:∀ id,h.length<=id->id < Y.length->μ id=none)
  {K:Act->World->Prop} {Q:Exit->Act->World->Prop}
  (hK:∀ x w' Z' μ',ax Z' μ' w'.heap v x->im Z' μ' w'.heap (iP H h Y wr)->Ext Z μ w h.length Z' μ' w'->(∀ id,id < h.length∨Y.length<=id->μ' id=μ id)->K (a.put o.dst x) w') :
  wpOp P ops Q i K a w:=by
 unfold wpOp
 rw[hi]
 cases st with
 | skip R =>
  have:=nM (w:=w) B G R m
  simp only[this,VE,if_false]
  refine hK undef w Z μ (.bm _ _ rfl (λi hi=>by simp at hi)) (hr.congr λid c=>?_) (Ext.refl _ _ _ _) (λ_ _=>rfl)
  unfold iP
  rw[U8]
  rintro (h1 | h1)
  .simp at h1
  .omega
 | op R b0 =>
  rename_i aA
  have:=nM (w:=w) B G R m
  simp only[this,if_true]
  left
  have D:=mr b0
  have b8:=k5 (λid c=>(D id c).1)
  have hlen:=fZ h aA
  have an:aA.fresh (μ h.length=none):=by
   cases aA with
   | new o=>exact J _ (Vh _) (by rw[hlen];simp)
   | ee k o=>exact J _ (Vh _) (by rw[hlen];simp)
   | _=>trivial
  .have b1:Ctx Z μ w.heap h.view rd h.length aA:=by
    refine⟨an,λid c=>?_,hr.lt,hr.cQ,hr.gO⟩
    by_cases hm:μ id=none
    .have:=(im.congr (H':=λk=>if k=id then h.view id else H k) hr (λk hk=>by
      split
      .rename_i e;subst e;exact absurd hm hk
      .rfl)).obj id
     simpa using this
    .rw[<-bx id c hm];exact hr.obj id
   obtain⟨nx,w',μ',t,b2,l,u⟩:=Sd b0 hT b1
   have hex:=u.ext l an hr.cQ hr.gO
   have L:im Z μ' w'.heap (iP H h (aA.apply h) aA.wr):=by
    have M:∀ id,id∈aA.wr->μ id≠none->H id≠.dead:=λid c hm=>by
     rw[bx id (D id c).2 hm];exact(D id c).1
    have b3:∀ id o,(aA=.fj id o∨aA=.ee id o)->H id≠.dead∨μ id=none:=by
     rintro id o (rfl | rfl)
     .by_cases hm:μ id=none
      .exact .inr hm
      .exact .inl (M id (by simp[bk.wr]) hm)
     .by_cases hm:μ id=none
      .exact .inr hm
      .exact .inl (M id (by simp[bk.wr]) hm)
    have h2:im Z μ w.heap (λk=>if μ k=none then .wm .empty 0 else H k):=hr.congr (λk hk=>by simp[hk])
    have h3:=h2.aA an l.size u (λid o e=>by
     split
     .simp
     .rename_i hk;exact(b3 id o (.inl e)).resolve_right hk) (λid o e=>by
     split
     .simp
     .rename_i hk;exact(b3 id o (.inr e)).resolve_right hk)
    refine h3.congr (λid c=>?_)
    unfold iP
    rw[b8]
    cases aA with
    | none =>
     obtain⟨rfl,_⟩:=u
     simp only[bk.wr,bk.apply,bk.view,List.not_mem_nil,false_or]
     rw[U8 (by omega),U8 c]
    | new o =>
     obtain⟨b,o0,s,_,_,rfl,_⟩:=u
     simp only[bk.wr,bk.view,View.set,List.not_mem_nil,false_or]
     by_cases e:id=h.length
     .subst e;rw[Va ⟨Vh _,by rw[hlen];simp⟩,Va rfl,Va rfl]
     .rw[U8 (by rw[hlen];simp only;omega),U8 e]
      have:μ id≠none:=by simpa [Mu.set,e] using c
      rw[U8 this]
    | fj k o =>
     obtain⟨b,o0,s,_,rfl,_⟩:=u
     simp only[bk.wr,bk.view,View.set,Wh]
     by_cases e:id=k
     .subst e;rw[Va (.inl rfl),Va rfl,Va rfl]
     .rw[U8 (by rw[hlen];simp only;omega),U8 e,U8 c]
    | ee k o =>
     obtain⟨b,o0,s,rfl,_⟩:=u
     simp only[bk.wr,bk.view,View.set,Wh]
     by_cases e:id=h.length
     .subst e;rw[Va (.inr ⟨Vh _,by rw[hlen];simp⟩),Va rfl,Va rfl]
     .by_cases e2:id=k
      .subst e2;rw[Va (.inl rfl),U8 e,Va rfl,U8 e,Va rfl]
      .rw[U8 (by rw[hlen];simp only;omega),U8 e,U8 e2]
       have:μ id≠none:=by simpa [Mu.set,e] using c
       rw[U8 this]
   have C:∀ id,id < h.length∨(aA.apply h).length<=id->μ' id=μ id:=by
    intro id c
    refine hex.2 id (λS=>?_)
    cases aA with
    | none=>exact S
    | new o=>simp only at S;subst S;rw[hlen] at c;simp at c;omega
    | fj k o=>exact S
    | ee k o=>simp only at S;subst S;rw[hlen] at c;simp at c;omega
   unfold Oper.wp
   rw[t]
   rcases b2 with ⟨x,rfl,hv⟩ | ⟨rfl,rfl⟩
   .exact hK x w' Z μ' hv L hex.1 C
   .exact hK undef w' Z μ' (.any _) L hex.1 C
 | iZ R U aq =>
  rename_i e x
  have:=nM (w:=w) B G R m
  simp only[this,if_true]
  left
  have z:=hT x (by rw[U];simp[Op.operands])
  have b4:=fW z aq
  have t:(execOp a.eval o).run P w=.ok (.value (.pointer (some ⟨w.heap.size,0,none⟩))) (w.alloc (.cells (a.eval x).cells e)):=by
   unfold execOp
   rw[U]
   simp[Instr.box,newVar,newRow]
  unfold Oper.wp
  rw[t]
  have A:fG w.heap (w.alloc (.cells (a.eval x).cells e)).heap (λ_=>False):=en _ _
  have b5:(w.alloc (.cells (a.eval x).cells e)).heap.size=w.heap.size+1:=by rw[heap_alloc];simp
  have hm:gz Z (λb=>Z b∨b=w.heap.size) μ μ w.heap (w.alloc (.cells (a.eval x).cells e)).heap:=⟨λ_ h=>.inl h,λb r=>A b (hr.cQ b r) (λx=>x),λ_ _ h=>h,A.qw⟩
  have l:ey w (w.alloc (.cells (a.eval x).cells e)):=iC _ _
  have ar:iP H h h []=H:=by
   funext id
   unfold iP
   rw[U8]
   rintro (h1 | h1)
   .simp at h1
   .omega
  refine hK _ _ (λb=>Z b∨b=w.heap.size) μ ?_ (ar.symm ▸ ⟨λid=>?_,hr.inj,λid b o s z=>VB (hr.lt _ _ _ _ z) l.size,λb r=>?_,λid b o s z a1=>?_⟩)
   ⟨l,hm,λb r _=>A b r (λx=>x),λb r=>?_,λ_ _ _ _ h=>.inl h⟩ (λ_ _=>rfl)
  .have:=ax.aF (Z:=λb=>Z b∨b=w.heap.size) (μ:=μ) (hp:=(w.alloc (.cells (a.eval x).cells e)).heap) (ev T x).cells 0 w.heap.size 0 (λk=>(a.eval x).cells.toList.getD k undef) (.inr rfl) (λk hk=>?_) (λk hk=>(b4.2 k hk).mono hm)
   .simpa using this
   .have a6:k < (a.eval x).cells.size:=by have:=b4.1;simp at this;omega
    simp[cellAt,heap_alloc,U5,a6]
  .exact(hr.obj id).mono hm rfl (λb o s z=>A b (hr.lt _ _ _ _ z) (λx=>x))
  .rcases r with r | rfl
   .exact VB (hr.cQ b r) l.size
   .omega
  .rcases a1 with r | rfl
   .exact hr.gO _ _ _ _ z r
   .have:=hr.lt _ _ _ _ z;omega
  .rcases r with r | rfl
   .exact .inl r
   .exact .inr (Vh _)
 | fJ R U hs hd he b9 =>
  rename_i s d e x st
  have:=nM (w:=w) B G R m
  simp only[this,if_true]
  left
  have z:=hT x (by rw[U];simp[Op.operands])
  rw[b9] at z
  have ca:=eO z
  have X:st.size<=grownCap w st.size 0 e:=by unfold grownCap Question.cut;exact Nat.le_add_right _ _
  have t:=run_bytes_of_string w s d e st hs hd he
  generalize ck:grownCap w st.size 0 e=cap at t X
  have cc:(bytesRow st cap).size=cap:=by
   simp only[bytesRow,Array.size_append,Array.size_map,Array.size_replicate]
   have:st.data.size=st.size:=rfl
   omega
  have a7:(execOp a.eval o).run P w=.ok (.value (.slice (some ⟨w.heap.size,0,none⟩) st.size cap)) (w.drew.alloc (.cells (bytesRow st cap) e (cap,cap+1))):=by
   unfold execOp
   rw[U]
   simp only[ca,Sem.run_bind,t,Result.andThen_ok,Sem.run_pure]
   rw[cc]
  unfold Oper.wp
  rw[a7]
  have E:(w.drew.alloc (.cells (bytesRow st cap) e (cap,cap+1))).heap=w.heap.push (.cells (bytesRow st cap) e (cap,cap+1)):=by rw[heap_alloc,eL]
  have A:fG w.heap (w.drew.alloc (.cells (bytesRow st cap) e (cap,cap+1))).heap (λ_=>False):=by rw[E];exact en _ _
  have b5:(w.drew.alloc (.cells (bytesRow st cap) e (cap,cap+1))).heap.size=w.heap.size+1:=by rw[E];simp
  have hm:gz Z (λb=>Z b∨b=w.heap.size) μ μ w.heap (w.drew.alloc (.cells (bytesRow st cap) e (cap,cap+1))).heap:=⟨λ_ h=>.inl h,λb r=>A b (hr.cQ b r) (λx=>x),λ_ _ h=>h,A.qw⟩
  have l:ey w (w.drew.alloc (.cells (bytesRow st cap) e (cap,cap+1))):=jO _ _
  have ar:iP H h h []=H:=by
   funext id
   unfold iP
   rw[U8]
   rintro (h1 | h1)
   .simp at h1
   .omega
  refine hK _ _ (λb=>Z b∨b=w.heap.size) μ ?_ (ar.symm ▸ ⟨λid=>?_,hr.inj,λid b o s z=>VB (hr.lt _ _ _ _ z) l.size,λb r=>?_,λid b o s z a1=>?_⟩)
   ⟨l,hm,λb r _=>A b r (λx=>x),λb r=>?_,λ_ _ _ _ h=>.inl h⟩ (λ_ _=>rfl)
  .have W:(fV st).length=st.size:=by rw[fV,Vl,bsize]
   have:=ax.aS (Z:=λb=>Z b∨b=w.heap.size) (μ:=μ) (hp:=(w.drew.alloc (.cells (bytesRow st cap) e (cap,cap+1))).heap) (fV st) w.heap.size 0 1 cap (λi _=>.int .u8 ((st.data.toList.getD i 0).toNat)) (.inr rfl) (by rw[W];exact X) ?_ ?_ ?_
   .rw[W] at this;exact this
   .intro i hi
    have F:i < st.data.toList.length:=by simpa [fV] using hi
    simp only[fV,U5,U9,U6 F,Ve,Vo,Vm,Vy]
   .intro i j hi hj
    obtain rfl:j=0:=by omega
    have F:i < st.data.size:=by simpa [fV] using hi
    rw[E]
    simp only[cellAt,Array.getElem?_push_size,bytesRow,Nat.mul_one,WZ,V2]
    rw[WE (by simpa using F),Array.getElem?_map,Vp F]
    simp[U5,Vp F]
   .intro i j hi hj
    obtain rfl:j=0:=by omega
    have F:i < st.data.size:=by simpa [fV] using hi
    simp only[fV,U5,U9,Array.getElem?_toList,Vp F,Ve,Vo,Vu]
    exact .val _ rfl
  .exact(hr.obj id).mono hm rfl (λb o s z=>A b (hr.lt _ _ _ _ z) (λx=>x))
  .rcases r with r | rfl
   .exact VB (hr.cQ b r) l.size
   .omega
  .rcases a1 with r | rfl
   .exact hr.gO _ _ _ _ z r
   .have:=hr.lt _ _ _ _ z;omega
  .rcases r with r | rfl
   .exact .inl r
   .exact .inr (Vh _)
 | call R U hf aq S hw cf =>
  rename_i f args cr g first cap
  have:=nM (w:=w) B G R m
  simp only[this,if_true]
  left
  have a8:∀ x∈args.toList,ax Z μ w.heap (ev T x) (a.eval x):=λx z=>hT x (by rw[U];simp[Op.operands,Call.operands];right;simpa using z)
  have bd:=hT f (by rw[U];simp[Op.operands,Call.operands])
  rw[hf] at bd
  generalize cg:a.eval f=fx at bd
  cases bd with
  | fn _ _ _ N bs h1 h2 h3 h4 =>
   have t:(execOp a.eval o).run P w=.ok (.enter g (N ++ args.map a.eval ++ bs)) w:=by
    unfold execOp
    rw[U]
    simp only[resolve,cg,Deferred.ofValue,Sem.run_bind,Sem.run_pure,Result.andThen_ok,invoke,Hx aq]
   unfold Oper.wp
   rw[t]
   show Calls P g (N ++ args.map a.eval ++ bs) w _
   have ch:(N ++ args.map a.eval ++ bs)=(N.toList ++ args.toList.map a.eval ++ bs.toList).toArray:=by
    apply Array.ext';simp
   rw[ch]
   have bl:gu Z μ w.heap (first ++ args.toList.map (ev T) ++ cap) (N.toList ++ args.toList.map a.eval ++ bs.toList):=by
    have app:∀ {p q:List V} {x y:List Value},gu Z μ w.heap p x->gu Z μ w.heap q y->gu Z μ w.heap (p ++ q) (x ++ y):=by
     intro p q x y hp hq
     refine⟨by simp[hp.1,hq.1],λk hk=>?_⟩
     simp only[U5]
     by_cases bn:k < p.length
     .rw[VG bn,VG (hp.1 ▸ bn)]
      simpa only [U5] using hp.2 k bn
     .rw[VQ (by omega),VQ (by rw[<-hp.1];omega),<-hp.1]
      simpa only [U5] using hq.2 (k - p.length) (by simp at hk;omega)
    refine app (app ⟨by simpa using h1,λk hk=>?_⟩ ⟨by simp,λk hk=>?_⟩) ⟨by simpa using h2,λk hk=>?_⟩
    .simpa [U5,Vi] using h3 k hk
    .have a6:k < args.toList.length:=by simpa using hk
     have:=a8 args.toList[k] (Vg _)
     simp only[U5,U9,U6 a6,Ve,Vo]
     exact this
    .simpa [U5,Vi] using h4 k hk
   have b7:im Z μ w.heap (cat h H):=hr.congr (λid c=>by
    unfold cat;split
    .rename_i cj;exact(I rfl id cj c).symm
    .rfl)
   refine(S.2 Z μ H w _ bl b7 J).mono ?_
   rintro e w' ⟨x,Z',μ',rfl,hv,hh,hex,C⟩
   refine hK x w' Z' μ' hv (hh.congr λid c=>?_) hex C
   unfold iP cat
   by_cases O:id∈wr∨(h.length<=id/\id < Y.length)
   .rw[Va O]
    rcases O with h5 | h5
    .by_cases W:id < Y.length
     .rw[Va W]
     .exact absurd (VB (cf id h5) S.1) W
    .rw[Va h5.2]
   .rw[U8 O]
    by_cases W:id < Y.length
    .rw[Va W]
     have br:id < h.length:=by
      rcases Vw id h.length with h6 | h6
      .exact h6
      .exact absurd (.inr ⟨h6,W⟩) O
     rw[hw id br (λq=>O (.inl q))]
     exact I rfl id br (by rw[<-C id (.inl br)];exact c)
    .rw[U8 W]
end
structure Rec where
 rd:List Nat
 wr:List Nat
 call:Bool
 lo:Nat
 hi:Nat
inductive Tr (P:Program) (n:Nat) (all:List Oper):List Oper->Env->aB->List Rec->Env->aB->Prop
 | nil {T:Env} {h:aB} : Tr P n all [] T h [] T h
 | cons {o:Oper} {rest:List Oper} {T T':Env} {h h1 h':aB} {v:V} {rd wr:List Nat} {call:Bool} {recs:List Rec} : dz P n all o T h v h1 rd wr call->q9 n o=true ->
  Tr P n all rest (T.put o.dst v) h1 recs T' h'->Tr P n all (o :: rest) T h (⟨rd,wr,call,h.length,h1.length⟩ :: recs) T' h'
def mask (o:Oper) (acc:List Nat):Nat:=o.after.toList.foldl (λs e=>if Region.binds .any e then s ||| 2 ^ e.on ||| acc.getD e.on 0 else s) 0
def fo:List Oper->List Nat->List Nat
 | [],acc=>acc
 | o :: r,acc=>fo r (acc ++ [mask o acc])
def tmpsOf (o:Oper):List Nat:=o.op.operands.toList.filterMap fun | .tmp t=>some t | _=>none
def nO (all:List Oper) (o:Oper):List Nat:=o.dst.toList ++ tmpsOf o ++ (match o.guard with
 | some (j,_)=>((all[j]?).bind (·.dst)).toList
 | none=>[])
def LC (d:Option Nat) (l:List Nat):Bool:=match d with
 | some t=>!l.contains t
 | none=>true
def ordered (b:List Nat) (i k:Nat):Bool:=(b.getD k 0).testBit i
def lL (all:List Oper):Bool :=
 let b:=fo all []
 all.zipIdx.all λ(ok,k) =>
  (ok.after.toList.all λe=>!Region.binds .any e || decide (e.on < k)) &&
  all.zipIdx.all λ(oi,i)=>!decide (i < k) || ordered b i k || (LC oi.dst (nO all ok) && LC ok.dst (nO all oi))
structure nS (a b:Rec):Prop where
 TS:∀ id,id∈a.wr->¬ id∈b.rd
 Se:∀ id,id∈b.wr->¬ id∈a.rd
 Tl:a.call=true->b.wr=[]
 call2:b.call=true->a.wr=[]
 new:∀ id,id∈b.wr->¬ (a.lo<=id/\id < a.hi)
def tP (all:List Oper) (recs:List Rec):Prop:=∀ i k a b,i < k->recs[i]?=some a->recs[k]?=some b->ordered (fo all []) i k=false->nS a b
theorem Dv (l:List Edge) (acc:List Nat) (s j:Nat):(l.foldl (λs e=>if Region.binds .any e then s ||| 2 ^ e.on ||| acc.getD e.on 0 else s) s).testBit j=true ->
  s.testBit j=true∨∃ e∈l,Region.binds .any e=true/\(j=e.on∨(acc.getD e.on 0).testBit j=true):=by
 induction l generalizing s with
 | nil=>intro h;exact .inl h
 | cons e l c =>
  intro h
  simp only[VC] at h
  rcases c _ h with h1 | ⟨e',b,d⟩
  .by_cases a:Region.binds .any e=true
   .rw[Va a,Nat.testBit_or,Nat.testBit_or,Nat.testBit_two_pow] at h1
    simp only[VP,Vj] at h1
    rcases h1 with (h1 | h1) | h1
    .exact .inl h1
    .exact .inr ⟨e,Wy,a,.inl h1.symm⟩
    .exact .inr ⟨e,Wy,a,.inr h1⟩
   .rw[U8 a] at h1;exact .inl h1
  .exact .inr ⟨e',Vt _ b,d⟩
theorem Al:∀ (l:List Oper) (acc:List Nat) (k:Nat),k < acc.length->(fo l acc).getD k 0=acc.getD k 0
 | [],acc,k,_=>rfl
 | o :: r,acc,k,h=>by
  rw[fo,Al r _ k (by simp;omega)]
  simp[U5,VG h]
theorem C9:∀ (l:List Oper) (acc:List Nat) (k:Nat) (o:Oper),l[k]?=some o->∃ a,(fo l acc).getD (acc.length+k) 0=mask o a/\a.length=acc.length+k/\∀ m,m < a.length->a.getD m 0=(fo l acc).getD m 0
 | [],acc,k,o,h=>by simp at h
 | p :: r,acc,0,o,h=>by
  simp at h;subst h
  refine⟨acc,?_,by simp,λm hm=>?_⟩
  .rw[fo,Al r _ _ (by simp)]
   simp[U5]
  .rw[fo,Al r _ _ (by simp;omega)]
   simp[U5,VG hm]
 | p :: r,acc,k+1,o,h=>by
  have b:r[k]?=some o:=by simpa using h
  obtain⟨a,h1,c,d⟩:=C9 r (acc ++ [mask p acc]) k o b
  refine⟨a,?_,by simp at c;omega,λm hm=>?_⟩
  .rw[fo]
   have e:(acc ++ [mask p acc]).length+k=acc.length+(k+1):=by simp;omega
   rw[<-e];exact h1
  .rw[fo];exact d m hm
theorem wV {all:List Oper} {L:Nat->Prop} (m:∀ k o,all[k]?=some o->∀ e∈o.after.toList,Region.binds .any e=true->e.on < k)
  (n:∀ k o,all[k]?=some o->L k->∀ e∈o.after.toList,Region.binds .any e=true->L e.on):∀ k o j,all[k]?=some o->L k->ordered (fo all []) j k=true->L j:=by
 intro k
 induction k using Nat.strongRecOn with
 | _ k p =>
  intro o j hk d f
  unfold ordered at f
  obtain⟨i,h1,q,r⟩:=C9 all [] k o hk
  simp only[Vy,V2] at h1 q
  rw[h1] at f
  rcases Dv _ _ _ _ f with a | ⟨e,he,b,a⟩
  .simp at a
  .have g:=m k o hk e he b
   have c:=n k o hk d e he b
   rcases a with a | a
   .rw[a];exact c
   .have l:k < all.length:=by
     rcases Vw k all.length with h | h
     .exact h
     .simp[Vx h] at hk
    refine p e.on g _ j (U6 (by omega)) c ?_
    unfold ordered
    rw[<-r e.on (by omega)]
    exact a
theorem FG {all:List Oper} {L:Nat->Prop} (g:∀ k o,all[k]?=some o->∀ e∈o.after.toList,Region.binds .any e=true->e.on < k)
  (l:∀ k o,all[k]?=some o->L k->∀ e∈o.after.toList,Region.binds .any e=true->L e.on) {k:Nat} {o:Oper} (hk:all[k]?=some o) (hr:∀ e∈o.after.toList,Region.binds .any e=true->L e.on)
  {j:Nat} (d:ordered (fo all []) j k=true):L j:=by
 unfold ordered at d
 obtain⟨h,h1,m,n⟩:=C9 all [] k o hk
 simp only[Vy,V2] at h1 m
 rw[h1] at d
 rcases Dv _ _ _ _ d with a | ⟨e,he,b,a⟩
 .simp at a
 .have p:=g k o hk e he b
  have c:=hr e he b
  rcases a with a | a
  .rw[a];exact c
  .have i:k < all.length:=by
    rcases Vw k all.length with f | f
    .exact f
    .simp[Vx f] at hk
   refine wV g l e.on _ j (U6 (by omega)) c ?_
   unfold ordered
   rw[<-n e.on (by omega)]
   exact a
theorem Ih {all:List Oper} (h:lL all=true):(∀ k o,all[k]?=some o->∀ e∈o.after.toList,Region.binds .any e=true->e.on < k) /\
  ∀ i k a ok,i < k->all[i]?=some a->all[k]?=some ok->ordered (fo all []) i k=false->(∀ t,a.dst=some t->¬ t∈nO all ok)/\(∀ t,ok.dst=some t->¬ t∈nO all a):=by
 unfold lL at h
 have mem:∀ k o,all[k]?=some o->(o,k)∈all.zipIdx:=by
  intro k o hk
  rw[V7];exact hk
 refine⟨λk o hk e he f=>?_,λi k a ok b hi hk g=>?_⟩
 .have:=Vr.1 h _ (mem k o hk)
  simp only[Vd] at this
  have:=Vr.1 this.1 e he
  simpa [f] using this
 .have:=Vr.1 h _ (mem k ok hk)
  simp only[Vd] at this
  have:=Vr.1 this.2 _ (mem i a hi)
  simp only[b,decide_true,Xb,Xa,g,Vd] at this
  have c:∀ (d:Option Nat) (l:List Nat),LC d l=true->∀ t,d=some t->¬ t∈l:=by
   intro d l j t m
   subst m
   simpa [LC] using j
  exact⟨c _ _ this.1,c _ _ this.2⟩
theorem Ef {P:Program} {n:Nat} {all:List Oper} : ∀ (l:List Oper) (T:Env) (h:aB) (a:List Rec) (d:Env) (e:aB),Tr P n all l T h a d e ->
  a.length=l.length/\∃ (c:Nat->Env) (b:Nat->aB) (vs:Nat->V),c 0=T/\b 0=h/\c l.length=d/\b l.length=e /\
   ∀ i o r,l[i]?=some o->a[i]?=some r->dz P n all o (c i) (b i) (vs i) (b (i+1)) r.rd r.wr r.call/\q9 n o=true/\c (i+1)=(c i).put o.dst (vs i)/\r.lo=(b i).length/\r.hi=(b (i+1)).length:=by
 intro l T h a d e m
 induction m with
 | nil=>exact⟨rfl,λ_=>_,λ_=>_,λ_=>.any,rfl,rfl,rfl,rfl,λi o r h=>by simp at h⟩
 | @cons o rest T d h h1 e v rd wr call a f p _ q =>
  obtain⟨s,c,b,vs,j,k,t,u,hi⟩:=q
  refine⟨by simp[s],λi=>match i with | 0=>T | i+1=>c i,λi=>match i with | 0=>h | i+1=>b i,λi=>match i with | 0=>v | i+1=>vs i,rfl,rfl,t,u,?_⟩
  intro i w r g hr
  cases i with
  | zero =>
   simp at g hr
   subst g hr
   exact⟨by simpa only [j,k] using f,p,by simp only[j],rfl,by simp only[k]⟩
  | succ i =>
   exact hi i w r (by simpa using g) (by simpa using hr)
theorem sR {P:Program} {n:Nat} {all:List Oper} {o:Oper} {T:Env} {h a:aB} {v:V} {rd wr:List Nat} {call:Bool} (st:dz P n all o T h v a rd wr call):h.length<=a.length:=by
 cases st with
 | skip=>exact Vh _
 | op _ _=>rw[fZ];exact Nat.le_add_right _ _
 | iZ _ _ _=>exact Vh _
 | fJ _ _ _ _ _ _=>exact Vh _
 | call _ _ _ _ b _ _=>exact b.1
theorem q5 {P:Program} {n:Nat} {all:List Oper} {o:Oper} {T:Env} {h c:aB} {v:V} {rd wr:List Nat} {call:Bool} (st:dz P n all o T h v c rd wr call) {id:Nat} (a:id < h.length) (hw:¬ id∈wr):c.view id=h.view id:=by
 cases st with
 | skip=>rfl
 | op f b =>
  rename_i aA
  rw[k5 (λid a=>(mr b id a).1)]
  cases aA with
  | none=>rfl
  | new o=>simp only[bk.view,View.set];rw[U8 (by omega)]
  | fj k o=>simp only[bk.view,View.set];rw[U8 (λe=>hw (by simp[bk.wr,e]))]
  | ee k o=>simp only[bk.view,View.set];rw[U8 (by omega),U8 (λe=>hw (by simp[bk.wr,e]))]
 | iZ _ _ _=>rfl
 | fJ _ _ _ _ _ _=>rfl
 | call _ _ _ _ _ d _=>exact d id a hw
theorem vB {P:Program} {n:Nat} {all:List Oper} {o:Oper} {T:Env} {h b:aB} {v:V} {rd wr:List Nat} {call:Bool} (st:dz P n all o T h v b rd wr call) {id:Nat} (hw:id∈wr):id < h.length/\(call=false->id∈rd):=by
 cases st with
 | skip=>simp at hw
 | op d a=>exact⟨jD (mr a id hw).1,λ_=>(mr a id hw).2⟩
 | iZ _ _ _=>simp at hw
 | fJ _ _ _ _ _ _=>simp at hw
 | call _ _ _ _ _ _ c=>exact⟨c id hw,λh=>by simp at h⟩
theorem G9 {H:View} {x:V} {xs:List (List V)} {rd:List Nat} (h:cm H x=some (xs,rd)):∀ id,id∈rd->H id≠.dead:=by
 intro id a
 unfold cm at h
 split at h
 .simp at h;rw[h.2] at a;simp at a
 .simp at h;rw[h.2] at a;simp at a
 .simp at h;rw[h.2] at a;simp at a
 .simp at h;rw[h.2] at a;simp at a
 .split at h
  .rename_i hH
   split at h
   .simp at h;rw[<-h.2] at a;simp at a;subst a;rw[hH];simp
   .simp at h
  .simp at h
 .simp at h;rw[h.2] at a;simp at a
 .simp at h
theorem S6 {P:Program} {o:Oper} {T:Env} {H:View} {n:Nat} {v:V} {aA:bk} {rd:List Nat} (h:bZ P o T H n=some (v,aA,rd)):∀ id,id∈rd->H id≠.dead:=by
 have b:∀ {d:V} {e:bk},some (d,e,([]:List Nat))=some (v,aA,rd)->∀ id,id∈rd->H id≠.dead:=by
  intro d e heq id c
  simp only[U7,Vb] at heq
  rw[<-heq.2.2] at c;simp at c
 have one:∀ {k:Nat} {d:V} {e:bk},H k≠.dead->some (d,e,[k])=some (v,aA,rd)->∀ id,id∈rd->H id≠.dead:=by
  intro k d e hk heq id c
  simp only[U7,Vb] at heq
  rw[<-heq.2.2] at c;simp at c;subst c;exact hk
 have mp:∀ {α:Type} {x:Option α} {f:α->V},(x.map λa=>(f a,bk.none,([]:List Nat)))=some (v,aA,rd)->∀ id,id∈rd->H id≠.dead:=by
  intro α x f h
  simp only[Vk] at h
  obtain⟨a,_,h⟩:=h
  exact b (VT some h)
 have l:∀ {α:Type} {x:Option α} {f:α->V} {k:Nat},H k≠.dead->(x.map λa=>(f a,bk.none,[k]))=some (v,aA,rd)->∀ id,id∈rd->H id≠.dead:=by
  intro α x f k hk h
  simp only[Vk] at h
  obtain⟨a,_,h⟩:=h
  exact one hk (VT some h)
 have pu:dy P o T=some (v,aA,rd)->∀ id,id∈rd->H id≠.dead:=by
  intro h
  unfold dy at h
  repeat' (split at h)
  all_goals first | exact b h | (simp at h;done)
 have m:∀ {cs:List V},lp cs n=some (v,aA,rd)->∀ id,id∈rd->H id≠.dead:=by
  intro cs h
  unfold lp at h
  split at h
  .exact b h
  .simp at h
 have i:∀ {x:V} {xs:List (List V)} {r:List Nat} {d:V} {e:bk},cm H x=some (xs,r)->some (d,e,r)=some (v,aA,rd)->∀ id,id∈rd->H id≠.dead:=by
  intro x xs r d e he heq id c
  simp only[U7,Vb] at heq
  rw[<-heq.2.2] at c
  exact G9 he id c
 have j:∀ {x:V} {xs:List (List V)} {r:List Nat} {d:V} {e:bk} {k:Nat},cm H x=some (xs,r)->H k≠.dead->some (d,e,k :: r)=some (v,aA,rd)->∀ id,id∈rd->H id≠.dead:=by
  intro x xs r d e k he hk heq id c
  simp only[U7,Vb] at heq
  rw[<-heq.2.2] at c
  rcases Vq.1 c with h1 | h1
  .subst h1;exact hk
  .exact G9 he id h1
 unfold bZ at h
 split at h
 .exact b h
 .exact b h
 .split at h
  .exact b h
  .simp at h
 .split at h
  .exact m h
  .simp at h
 .exact m h
 .unfold uy at h
  split at h
  .split at h
   .exact mp h
   .simp at h
  .simp at h
 .unfold gR at h
  repeat' (split at h)
  all_goals first | exact b h | (simp at h;done)
 .unfold l0 at h
  split at h
  .split at h
   .rename_i hH
    split at h
    .exact l (by rw[hH];simp) h
    .simp at h
   .simp at h
  .exact mp h
  .simp at h
 .unfold qo at h
  split at h
  .split at h
   .rename_i hH
    split at h
    .exact one (by rw[hH];simp) h
    .simp at h
   .simp at h
  .simp at h
 .repeat' (split at h)
  all_goals first | exact b h | (simp at h;done)
 .unfold kH at h
  repeat' (split at h)
  all_goals first | exact b h | (simp at h;done)
 .unfold uH at h
  split at h
  .exact mp h
  .simp at h
 .unfold kX at h
  repeat' (split at h)
  all_goals first | exact b h | (simp at h;done)
 .split at h
  .exact pu h
  .unfold rR at h
   repeat' (split at h)
   all_goals first | exact b h | (simp at h;done)
 .unfold kG at h
  repeat' (split at h)
  all_goals first | exact b h | (simp at h;done)
 .repeat' (split at h)
  all_goals first | exact b h | (simp at h;done)
 .exact b h
 .unfold eN at h
  simp only at h
  split at h
  .simp at h
  .split at h
   .simp at h
   .split at h
    .split at h
     .rename_i hH
      repeat' (split at h)
      all_goals first | exact one (by rw[hH];simp) h | (simp at h;done)
     .simp at h
    .simp at h
 .unfold fN at h
  split at h
  .split at h
   .rename_i hH
    repeat' (split at h)
    all_goals first | exact one (by rw[hH];simp) h | (simp at h;done)
   .simp at h
  .simp at h
 .unfold fN at h
  split at h
  .split at h
   .rename_i hH
    repeat' (split at h)
    all_goals first | exact one (by rw[hH];simp) h | (simp at h;done)
   .simp at h
  .simp at h
 .unfold dP at h
  split at h
  .split at h
   .rename_i hH
    repeat' (split at h)
    all_goals first | exact one (by rw[hH];simp) h | (simp at h;done)
   .simp at h
  .simp at h
 .unfold jG at h
  split at h
  .split at h
   .rename_i hH
    repeat' (split at h)
    all_goals first | exact one (by rw[hH];simp) h | (simp at h;done)
   .simp at h
  .simp at h
 .repeat' (split at h)
  all_goals first | exact b h | (simp at h;done)
 .repeat' (split at h)
  all_goals first | exact b h | (simp at h;done)
 .unfold Bm at h
  split at h
  .split at h
   .rename_i hH
    split at h
    .exact one (by rw[hH];simp) h
    .exact one (by rw[hH];simp) h
   .simp at h
  .simp at h
 .split at h
  .unfold ma at h
   split at h
   .split at h
    .split at h
     .rename_i he _
      simp only[Vk] at h
      obtain⟨a,_,h⟩:=h
      exact i he (VT some h)
     .simp at h
    .simp at h
   .repeat' (split at h)
    all_goals first | exact b h | (simp at h;done)
   .split at h
    .split at h
     .split at h
      .rename_i hH
       exact one (by rw[hH];simp) h
      .simp at h
     .simp at h
    .simp at h
   .simp at h
  .exact pu h
 .split at h
  .split at h
   .unfold tY at h
    split at h
    .exact mp h
    .split at h
     .split at h
      .rename_i hH
       exact one (by rw[hH];simp) h
      .simp at h
     .exact b h
     .simp at h
    .repeat' (split at h)
     all_goals first | exact b h | (simp at h;done)
    .exact b h
    .simp at h
   .simp at h
  .split at h
   .unfold mP at h
    split at h
    .rename_i g
     split at h
     .simp at h
     .split at h
      .split at h
       all_goals first | exact b h | (simp at h;done)
      .split at h
       .simp at h
       .split at h
        .split at h
         .exact i g h
         .simp at h
        .split at h
         .rename_i hH
          split at h
          .exact j g (by rw[hH];simp) h
          .simp at h
         .simp at h
        .simp at h
    .simp at h
   .split at h
    .unfold wH at h
     split at h
     .split at h
      .split at h
       .exact b h
       .split at h
        .exact b h
        .simp at h
      .simp at h
     .simp at h
    .simp at h
  .split at h
   .unfold FA at h
    split at h
    .exact b h
    .simp at h
   .simp at h
  .split at h
   .unfold Cw at h
    split at h
    .rename_i g _
     split at h
     .simp at h
     .split at h
      .exact b h
      .split at h
       .split at h
        .rename_i hH
         split at h
         .exact j g (by rw[hH];simp) h
         .simp at h
        .simp at h
       .simp at h
    .simp at h
   .simp at h
  .split at h
   .unfold vd at h
    split at h
    .split at h
     .rename_i hH
      repeat' (split at h)
      all_goals first | exact one (by rw[hH];simp) h | (simp at h;done)
     .simp at h
    .simp at h
   .simp at h
  .split at h
   .unfold yH at h
    split at h
    .split at h
     .exact b h
     .split at h
      .split at h
       .rename_i hH
        split at h
        .exact one (by rw[hH];simp) h
        .simp at h
       .simp at h
      .simp at h
    .simp at h
   .simp at h
  .exact pu h
  .exact pu h
  .exact pu h
  .exact pu h
  .exact pu h
  .simp at h
 .split at h
  .split at h
   .exact b h
   .exact b h
   .simp at h
  .exact pu h
 .exact pu h
 .exact pu h
 .simp at h
theorem Ah {P:Program} {n:Nat} {all:List Oper} {o:Oper} {T:Env} {h b:aB} {v:V} {rd wr:List Nat} {call:Bool} (st:dz P n all o T h v b rd wr call) {id:Nat} (hw:id∈rd):id < h.length:=by
 cases st with
 | skip=>simp at hw
 | op c a=>exact jD (S6 a id hw)
 | iZ _ _ _=>simp at hw
 | fJ _ _ _ _ _ _=>simp at hw
 | call _ _ _ _ _ _ d=>simp at hw
structure qj (n:Nat) (Z:Nat->Prop) (μ:Mu) (F:View) (T:Env) (h:aB) (a:Act) (w:World):Prop where
 defers:a.defers=[]
 size:a.tmps.size=n
 tm:∀ t,ax Z μ w.heap (T t) (a.tmps.getD t undef)
 hr:im Z μ w.heap (cat h F)
def cU (P:Program) (n:Nat) (c:Code) (T:Env) (h:aB) (e:Exit) (T':Env) (h':aB):Prop :=
 h.length<=h'.length/\∀ Z μ F a w,(∀ id,h.length<=id->id < h'.length->μ id=none)->qj n Z μ F T h a w ->
  c.wp P (λe' a' w'=>e'=e/\∃ Z' μ',qj n Z' μ' F T' h' a' w'/\Ext Z μ w h.length Z' μ' w'/\(∀ id,id < h.length∨h'.length<=id->μ' id=μ id)) a w
section
variable {P:Program} {n:Nat} {all:List Oper}
theorem Io {Z:Nat->Prop} {μ:Mu} {w:World} {T:Env} {a:Act} {o:Oper} (h:∀ t,t∈tmpsOf o->ax Z μ w.heap (T t) (a.tmps.getD t undef)):∀ x∈o.op.operands,ax Z μ w.heap (ev T x) (a.eval x):=by
 intro x b
 cases x with
 | tmp t=>exact h t (by simp only[tmpsOf,Wz];exact⟨.tmp t,by simpa using b,rfl⟩)
 | const v=>exact ga v
 | global g=>exact .any _
 | func f=>exact .fn f [] [] #[] #[] rfl rfl (λi hi=>by simp at hi) (λi hi=>by simp at hi)
theorem JF {a:Nat->aB} {N:Nat} (h:∀ i,i < N->(a i).length<=(a (i+1)).length):∀ i j,i<=j->j<=N->(a i).length<=(a j).length:=by
 intro i j b
 induction b with
 | refl=>intro _;exact Vh _
 | step _ c=>intro d;exact VU (c (by omega)) (h _ (by omega))
theorem yY {a:Nat->Env} {vs:Nat->V} {N t:Nat} (g:∀ i o,all[i]?=some o->a (i+1)=(a i).put o.dst (vs i)) (p:N=all.length):∀ i j,i<=j->j<=N->(∀ k o,i<=k->k < j->all[k]?=some o->o.dst≠some t)->a j t=a i t:=by
 intro i j c
 induction c with
 | refl=>intro _ _;rfl
 | step hle h =>
  rename_i m
  intro q b
  have hm:m < all.length:=by omega
  rw[g m all[m] (U6 hm)]
  have l:=b m all[m] hle (by omega) (U6 hm)
  have:(Env.put (a m) (all[m]).dst (vs m)) t=a m t:=by
   cases f:(all[m]).dst with
   | none=>rfl
   | some d =>
    simp only[Env.put]
    rw[U8 (λe=>l (by rw[f,e]))]
  rw[this]
  exact h (by omega) (λk o h1 r n=>b k o h1 (by omega) n)
def z6 (P:Program) (n:Nat) (all:List Oper) (recs:List Rec) (Ts:Nat->Env) (hs:Nat->aB) (vs:Nat->V):Prop:=∀ i o r,all[i]?=some o->recs[i]?=some r ->
 dz P n all o (Ts i) (hs i) (vs i) (hs (i+1)) r.rd r.wr r.call/\q9 n o=true/\Ts (i+1)=(Ts i).put o.dst (vs i)/\r.lo=(hs i).length/\r.hi=(hs (i+1)).length
structure Bears (P:Program) (n:Nat) (all:List Oper) (Ts:Nat->Env) (hs:Nat->aB) (vs:Nat->V) (i k:Nat) (o:Oper) (a b:Rec):Prop where
 wr:a.wr=[]
 call:a.call=false
 len:a.lo=a.hi
 step:∀ g:aB,g.length=(hs i).length->(∀ id,id < (hs i).length->g.view id=if id∈b.wr then (hs (k+1)).view id else (hs i).view id)->dz P n all o (Ts i) g (vs i) g a.rd [] false
def LA (P:Program) (n:Nat) (all:List Oper) (recs:List Rec) (T T':Env) (h:aB):Prop:=∀ Ts hs vs,Ts 0=T->hs 0=h->Ts all.length=T'->recs.length=all.length->z6 P n all recs Ts hs vs->∀ i,∃ tol:Option Nat,
 (∀ k a b,i < k->recs[i]?=some a->recs[k]?=some b->ordered (fo all []) i k=false->tol≠some k->nS a b) /\
 ∀ k a b o,tol=some k->recs[i]?=some a->recs[k]?=some b->all[i]?=some o->i < k/\Bears P n all Ts hs vs i k o a b
theorem tP.TP {c:List Rec} {T d:Env} {hp:aB} (h:tP all c):LA P n all c T d hp:=λ_ _ _ _ _ _ _ _ i=>⟨none,λk a b h1 e f g _=>h i k a b h1 e f g,λk a b o h1=>by simp at h1⟩
theorem vr (hm:P.follows .mixedOrders=true) {id:Nat} {T T':Env} {h h':aB} {A:List Rec} (tr:Tr P n all all T h A T' h') (ht:lL all=true) (gr:LA P n all A T T' h) :
  cU P n (.region id all.toArray true) T h .normal T' h':=by
 obtain⟨ha,Ts,v,vs,e2,a7,e3,a8,E⟩:=Ef all T h A T' h' tr
 obtain⟨U,V⟩:=Ih ht
 have hc:=gr Ts v vs e2 a7 e3 ha E
 have J:∀ i,i < all.length->∃ o r,all[i]?=some o/\A[i]?=some r:=λi hi=>⟨all[i],A[i]'(by omega),U6 hi,U6 (by omega)⟩
 have cV:∀ i o,all[i]?=some o->i < all.length:=λi o hi=>kV hi
 have hT:∀ i o,all[i]?=some o->Ts (i+1)=(Ts i).put o.dst (vs i):=λi o hi=>by
  obtain⟨o',r,h1,y⟩:=J i (cV i o hi)
  rw[hi] at h1;simp at h1;subst h1
  exact(E i o r hi y).2.2.1
 have b2:∀ i,i < all.length->(v i).length<=(v (i+1)).length:=λi hi=>by
  obtain⟨o,r,h1,y⟩:=J i hi
  exact sR (E i o r h1 y).1
 have f:=JF b2
 have hle:h.length<=h'.length:=by rw[<-a7,<-a8];exact f _ _ (We _) (Vh _)
 have W:∀ i j id,i<=j->j<=all.length->id < (v i).length->(∀ k r,i<=k->k < j->A[k]?=some r->¬ id∈r.wr)->(v j).view id=(v i).view id:=by
  intro i j id hf
  induction hf with
  | refl=>intro _ _ _;rfl
  | step hle ih =>
   rename_i m
   intro hj s b3
   obtain⟨o,r,h1,y⟩:=J m (by omega)
   rw[q5 (E m o r h1 y).1 (VB s (f _ _ hle (by omega))) (b3 m r hle (by omega) y)]
   exact ih (by omega) s (λk r h1 y N=>b3 k r h1 (by omega) N)
 refine⟨hle,λZ μ F a w b4 an=>wp_region_any hm ?_⟩
 let Inv (listed:Array Bool) (I:Act) (w':World):Prop:=∃ Y μ' H,I.defers=[]/\I.tmps.size=n /\
  (∀ t,∃ G,G<=all.length/\ax Y μ' w'.heap (Ts G t) (I.tmps.getD t undef)/\∀ k o,all[k]?=some o->o.dst=some t->(listed.getD k false=true↔k < G)) /\
  im Y μ' w'.heap H /\
  (∀ id,μ' id≠none->(∃ G,G<=all.length/\id < (v G).length/\H id=(v G).view id/\∀ k r,A[k]?=some r->id∈r.wr->(listed.getD k false=true↔k < G))∨(h'.length<=id/\H id=F id)) /\
  (∀ k id,k < all.length->(v k).length<=id->id < (v (k+1)).length->μ' id≠none->listed.getD k false=true) /\
  (∀ k o,all[k]?=some o->listed.getD k false=true->∀ e∈o.after.toList,Region.binds .any e=true->listed.getD e.on false=true) /\
  Ext Z μ w h.length Y μ' w'/\(∀ id,id < h.length∨h'.length<=id->μ' id=μ id)/\listed.size=all.length
 have key:∀ fuel listed I w',Inv listed I w'->((List.range all.length).countP λi=>!listed.getD i false)<=fuel ->
   wpAny P .any all.toArray (λe' I w'=>e'=.normal/\∃ Y μ',qj n Y μ' F T' h' I w'/\Ext Z μ w h.length Y μ' w'/\(∀ id,id < h.length∨h'.length<=id->μ' id=μ id)) fuel listed I w':=by
  have ready_iff:∀ (listed:Array Bool),listed.size=all.length->∀ i,i∈Region.ready .any all.toArray listed↔(∃ o,all[i]?=some o/\listed.getD i false=false/\∀ e∈o.after.toList,Region.binds .any e=true->listed.getD e.on false=true):=by
   intro listed X i
   simp only[Region.ready,Wx,VV,Wa,VX,Vd,Xc]
   constructor
   .rintro⟨hi,h1,y⟩
    rw[U6 hi] at y
    simp only[Ve,Vo] at y
    refine⟨all[i],U6 hi,?_,λe he hb=>?_⟩
    .have:i < listed.size:=by omega
     simp only[Vi,Vp this,Vo] at h1 ⊢
     exact h1
    .have:=Array.all_eq_true_iff_forall_mem.1 y e (by simpa using he)
     simpa [hb] using this
   .rintro⟨o,R,h1,y⟩
    have hi:=cV i o R
    refine⟨hi,?_,?_⟩
    .have:i < listed.size:=by omega
     simp only[Vi,Vp this,Vo] at h1 ⊢
     exact h1
    .rw[R]
     simp only[Ve,Vo]
     rw[Array.all_eq_true_iff_forall_mem]
     intro e he
     cases hb:Region.binds .any e with
     | false=>rfl
     | true=>simpa using y e (by simpa using he) hb
  have b5:∀ (listed:Array Bool),listed.size=all.length->Region.ready .any all.toArray listed=[]->∀ i,i < all.length->listed.getD i false=true:=by
   intro listed X b7 i
   induction i using Nat.strongRecOn with
   | _ i ih =>
    intro hi
    cases hl:listed.getD i false with
    | true=>rfl
    | false =>
     exfalso
     have:i∈Region.ready .any all.toArray listed:=(ready_iff listed X i).2 ⟨all[i],U6 hi,hl,λe he hb=>ih e.on (U i all[i] (U6 hi) e he hb) (by have:=U i all[i] (U6 hi) e he hb;omega)⟩
     rw[b7] at this;simp at this
  have finish:∀ listed I w',Inv listed I w'->(∀ i,i < all.length->listed.getD i false=true) ->
    ∃ Y μ',qj n Y μ' F T' h' I w'/\Ext Z μ w h.length Y μ' w'/\(∀ id,id < h.length∨h'.length<=id->μ' id=μ id):=by
   rintro listed I w' ⟨Y,μ',H,hd,X,c0,hr,b8,b9,c3,hex,ca,O⟩ aq
   refine⟨Y,μ',⟨hd,X,λt=>?_,hr.congr λid s=>?_⟩,hex,ca⟩
   .obtain⟨G,B,hv,hw⟩:=c0 t
    have:=yY (t:=t) hT rfl G all.length B (Vh _) (λk o h1 y N h4=>by
     have:=(hw k o N h4).1 (aq k y);omega)
    rw[<-e3,this];exact hv
   .unfold cat
    rcases b8 id s with ⟨G,B,hl,hH,hw⟩ | ⟨hl,hH⟩
    .have:=W G all.length id B (Vh _) hl (λk r h1 y N h4=>by
      have:=(hw k r N h4).1 (aq k y);omega)
     have hh:id < h'.length:=by rw[<-a8];exact VB hl (f _ _ B (Vh _))
     rw[Va hh,hH,<-this,a8]
    .rw[U8 (by omega),hH]
  intro fuel
  induction fuel with
  | zero =>
   intro listed I w' hinv e4
   have O:listed.size=all.length:=by obtain⟨_,_,_,_,_,_,_,_,_,_,_,_,O⟩:=hinv;exact O
   have aq:∀ i,i < all.length->listed.getD i false=true:=by
    intro i hi
    have h0:(List.range all.length).countP (λi=>!listed.getD i false)=0:=by omega
    rw[List.countP_eq_zero] at h0
    have:=h0 i (by simpa using hi)
    simpa using this
   refine⟨?_,rfl,finish listed I w' hinv aq⟩
   apply List.eq_nil_iff_forall_not_mem.2
   intro i hi
   obtain⟨o,R,h1,_⟩:=(ready_iff listed O i).1 hi
   rw[aq i (cV i o R)] at h1;simp at h1
  | succ fuel ih =>
   intro listed I w' hinv e4
   have O:listed.size=all.length:=by obtain⟨_,_,_,_,_,_,_,_,_,_,_,_,O⟩:=hinv;exact O
   refine⟨λb7=>⟨rfl,finish listed I w' hinv (b5 listed O b7)⟩,λi hi=>?_⟩
   obtain⟨o,R,e5,cc⟩:=(ready_iff listed O i).1 hi
   have K:=cV i o R
   obtain⟨_,r,_,C⟩:=J i K
   obtain⟨cf,cg,_,e6,e7⟩:=E i o r R C
   obtain⟨Y,μ',H,hd,X,c0,hr,b8,b9,c3,hex,ca,_⟩:=hinv
   have bn:¬ (listed.getD i false=true):=by rw[e5];simp
   have before:∀ j,ordered (fo all []) j i=true->listed.getD j false=true:=λj hj=>FG U c3 R cc hj
   have behind:∀ k ok,all[k]?=some ok->ordered (fo all []) i k=true->listed.getD k false=true->False:=λk ok hk c S=>bn (wV (L:=λk=>listed.getD k false=true) U c3 k ok i hk S c)
   have slot:∀ t,t∈nO all o->ax Y μ' w'.heap (Ts i t) (I.tmps.getD t undef):=by
    intro t ch
    obtain⟨G,B,hv,hw⟩:=c0 t
    rcases Nat.le_total G i with bd | bd
    .have:=yY (t:=t) hT rfl G i bd (by omega) (λk ok h1 y N h4=>by
      have ar:=(hw k ok N h4).1
      cases c:ordered (fo all []) k i with
      | true=>have:=ar (before k c);omega
      | false=>exact(V k i ok o y N R c).1 t h4 ch)
     rw[this];exact hv
    .have:=yY (t:=t) hT rfl i G bd B (λk ok h1 y N h4=>by
      have ar:=(hw k ok N h4).2 y
      rcases Nat.eq_or_lt_of_le h1 with u | u
      .subst u;exact bn ar
      .cases c:ordered (fo all []) i k with
       | true=>exact behind k ok N c ar
       | false=>exact(V i k o ok u R N c).2 t h4 ch)
     rw[<-this];exact hv
   obtain⟨cj,e8,dj⟩:=hc i
   have ck:∀ id,id < (v i).length->μ' id≠none->(∀ k z,A[k]?=some z->k≠i->id∈z.wr->(listed.getD k false=true↔k < i))->H id=(v i).view id:=by
    intro id s hm hk
    rcases b8 id hm with ⟨G,B,hl,hH,hw⟩ | ⟨hl,_⟩
    .rw[hH]
     rcases Nat.le_total G i with bd | bd
     .exact(W G i id bd (by omega) hl (λk z h1 y N h4=>by
       have:=(hw k z N h4).1 ((hk k z N (by omega) h4).2 y);omega)).symm
     .exact W i G id bd B s (λk z h1 y N h4=>by
       have ar:=(hw k z N h4).2 y
       rcases Nat.eq_or_lt_of_le h1 with u | u
       .subst u;exact bn ar
       .have:=(hk k z N (by omega) h4).1 ar;omega)
    .have:(v i).length<=h'.length:=by rw[<-a8];exact f _ _ (by omega) (Vh _)
     omega
   have place:∀ id,(id∈r.rd∨id∈r.wr∨r.call=true)->∀ k z,A[k]?=some z->k≠i->id∈z.wr->(cj=some k->listed.getD k false=false)->(listed.getD k false=true↔k < i):=by
    intro id s k z hk bl hw fl
    have hn:id∈r.wr->r.call=false->id∈r.rd:=λh1 y=>(vB cf h1).2 y
    have cr:id∈r.rd∨r.call=true:=by
     rcases s with h1 | h1 | h1
     .exact .inl h1
     .cases fm:r.call with
      | true=>exact .inr rfl
      | false=>exact .inl (hn h1 fm)
     .exact .inr h1
    have cu:z.wr≠[]:=λe=>by rw[e] at hw;simp at hw
    obtain⟨ok,_,cv,_⟩:=J k (by have:=kV hk;omega)
    rcases Nat.lt_or_gt_of_ne bl with br | br
    .refine⟨λ_=>br,λ_=>?_⟩
     cases c:ordered (fo all []) k i with
     | true=>exact before k c
     | false =>
      obtain⟨tk,hq,hx⟩:=hc k
      by_cases fs:tk=some i
      .exact absurd (hx i z r ok fs hk C cv).2.wr cu
      .have nc:=hq i z r br hk C c fs
       rcases cr with h1 | h1
       .exact absurd h1 (nc.TS id hw)
       .exact absurd (nc.call2 h1) cu
    .refine⟨λS=>?_,λh6=>by omega⟩
     exfalso
     cases c:ordered (fo all []) i k with
     | true=>exact behind k ok cv c S
     | false =>
      by_cases et:cj=some k
      .rw[fl et] at S;simp at S
      .have nc:=e8 k r z br C hk c et
       rcases cr with h1 | h1
       .exact absurd h1 (nc.Se id hw)
       .exact absurd (nc.Tl h1) cu
   have closing:∀ x w1 Z1 a1,ax Z1 a1 w1.heap (vs i) x->im Z1 a1 w1.heap (iP H (v i) (v (i+1)) r.wr)->Ext Y μ' w' (v i).length Z1 a1 w1->(∀ id,id < (v i).length∨(v (i+1)).length<=id->a1 id=μ' id) ->
     wpAny P .any all.toArray (λe' I w'=>e'=.normal/\∃ Y μ',qj n Y μ' F T' h' I w'/\Ext Z μ w h.length Y μ' w'/\(∀ id,id < h.length∨h'.length<=id->μ' id=μ id)) fuel (listed.setIfInBounds i true) (I.put o.dst x) w1:=by
    intro x w1 Z1 a1 dm ds bs M
    have Q:∀ k,(listed.setIfInBounds i true).getD k false=if k=i then true else listed.getD k false:=by
     intro k
     simp only[Vi,V0]
     by_cases e:i=k
     .subst e;rw[Va rfl,Va rfl,Va (by omega)];rfl
     .rw[U8 e,U8 (λq=>e q.symm)]
    have ft:(listed.setIfInBounds i true).size=all.length:=by simpa using O
    refine ih _ _ _ ⟨Z1,a1,iP H (v i) (v (i+1)) r.wr,?_,?_,?_,ds,?_,?_,?_,?_,?_,ft⟩ ?_
    .unfold Act.put;split <;> exact hd
    .unfold Act.put;split <;> simp[X]
    .intro t
     by_cases cC:o.dst=some t
     .refine⟨i+1,K,?_,λk ok hk b0=>?_⟩
      .rw[hT i o R,cC]
       have fx:t < I.tmps.size:=by unfold q9 at cg;rw[cC] at cg;rw[X];simpa using cg
       simp only[Env.put,Act.put,if_true,Vi,V0,fx,Vo]
       exact dm
      .rw[Q]
       by_cases e:k=i
       .subst e;simp
       .rw[U8 e]
        have ch:t∈nO all o:=by simp[nO,cC]
        rcases Nat.lt_or_gt_of_ne e with u | u
        .cases c:ordered (fo all []) k i with
         | true=>exact⟨λ_=>by omega,λ_=>before k c⟩
         | false=>exact absurd ch ((V k i ok o u hk R c).1 t b0)
        .cases c:ordered (fo all []) i k with
         | true=>exact⟨λS=>(behind k ok hk c S).elim,λh6=>by omega⟩
         | false=>exact absurd ch ((V i k o ok u R hk c).2 t b0)
     .obtain⟨G,B,hv,hw⟩:=c0 t
      refine⟨G,B,?_,λk ok hk b0=>?_⟩
      .have:(I.put o.dst x).tmps.getD t undef=I.tmps.getD t undef:=by
        unfold Act.put
        split
        .rename_i d dv
         simp only[Vi,V0]
         rw[U8 (λe=>cC (by rw[dv,e]))]
        .rfl
       rw[this];exact hv.mono bs.mono
      .rw[Q,U8 (λe=>by subst e;rw[R] at hk;simp at hk;subst hk;exact cC b0)]
       exact hw k ok hk b0
    .intro id ea
     unfold iP
     by_cases b1:id∈r.wr∨((v i).length<=id/\id < (v (i+1)).length)
     .left
      have a6:id < (v (i+1)).length:=by
       rcases b1 with u | u
       .exact VB (vB cf u).1 (b2 i K)
       .exact u.2
      refine⟨i+1,K,a6,by rw[Va b1],λk z hk D=>?_⟩
      rw[Q]
      by_cases e:k=i
      .subst e;simp
      .rw[U8 e]
       obtain⟨ok,_,cv,_⟩:=J k (by have:=kV hk;omega)
       rcases b1 with u | u
       .have hp:=place id (.inr (.inl u)) k z hk e D (λet=>by
         have:=(dj k r z o et C hk R).2.wr
         rw[this] at u;simp at u)
        exact⟨λS=>by have:=hp.1 S;omega,λh7=>hp.2 (by omega)⟩
       .obtain⟨cN,_⟩:=E k ok z cv hk
        have ar:=(vB cN D).1
        have hy:i < k:=by
         rcases Vw i k with h6 | h6
         .exact h6
         .have:=f k i h6 (by omega);omega
        refine⟨λS=>?_,λh7=>by omega⟩
        exfalso
        cases c:ordered (fo all []) i k with
        | true=>exact behind k ok cv c S
        | false =>
         by_cases et:cj=some k
         .have:=(dj k r z o et C hk R).2.len
          omega
         .exact(e8 k r z hy C hk c et).new id D (by rw[e6,e7];exact u)
     .rw[U8 b1]
      have eb:μ' id≠none:=by
       rw[<-M id ?_]
       .exact ea
       .rcases Vw id (v i).length with h6 | h6
        .exact .inl h6
        .right
         rcases Vw id (v (i+1)).length with h7 | h7
         .exact absurd (.inr ⟨h6,h7⟩) b1
         .exact h7
      rcases b8 id eb with ⟨G,B,hl,hH,hw⟩ | u
      .refine .inl ⟨G,B,hl,hH,λk z hk D=>?_⟩
       rw[Q,U8 (λe=>by subst e;rw[C] at hk;simp at hk;subst hk;exact b1 (.inl D))]
       exact hw k z hk D
      .exact .inr u
    .intro k id hk h1 y ea
     rw[Q]
     by_cases e:k=i
     .rw[Va e]
     .rw[U8 e]
      refine b9 k id hk h1 y ?_
      rw[<-M id ?_]
      .exact ea
      .rcases Nat.lt_or_gt_of_ne e with h6 | h6
       .left;exact VB y (f _ _ h6 (by omega))
       .right;exact VU (f _ _ h6 (by omega)) h1
    .intro k ok hk S e he hb
     rw[Q] at S ⊢
     by_cases ek:k=i
     .subst ek
      rw[R] at hk;simp at hk;subst hk
      split
      .rfl
      .exact cc e he hb
     .rw[U8 ek] at S
      split
      .rfl
      .exact c3 k ok hk S e he hb
    .refine hex.trans bs ?_ an.hr.lt
     rw[<-a7];exact f _ _ (We _) (by omega)
    .intro id s
     rw[M id,ca id s]
     rcases s with u | u
     .left;rw[<-a7] at u;exact VB u (f _ _ (We _) (by omega))
     .right;rw[<-a8] at u;exact VU (f _ _ K (Vh _)) u
    .have:(List.range all.length).countP (λk=>!(listed.setIfInBounds i true).getD k false) < (List.range all.length).countP (λk=>!listed.getD k false):=by
      have gen:∀ (l:List Nat),i∈l->l.Nodup->l.countP (λk=>!(listed.setIfInBounds i true).getD k false) < l.countP (λk=>!listed.getD k false):=by
       intro l
       induction l with
       | nil=>intro h;simp at h
       | cons x l hz =>
        intro fz ec
        simp only[V9] at ec
        by_cases e:x=i
        .subst e
         have eg:l.countP (λk=>!(listed.setIfInBounds x true).getD k false)=l.countP (λk=>!listed.getD k false):=by
          apply List.countP_congr
          intro k hk
          have hA:k≠x:=λq=>ec.1 (by rw[<-q];exact hk)
          rw[Q,U8 hA]
         have h1:(listed.setIfInBounds x true).getD x false=true:=by rw[Q,Va rfl]
         rw[List.countP_cons,List.countP_cons,eg,h1,e5]
         simp
        .have ei:i∈l:=by
          rcases Vq.1 fz with u | u
          .exact absurd u.symm e
          .exact u
         have:=hz ei ec.2
         simp only[List.countP_cons,Q,U8 e]
         simp only[Q] at this
         omega
      exact gen _ (by simpa using K) List.nodup_range
     omega
   have bx:∀ j want d,o.guard=some (j,want)->(all[j]?).bind (·.dst)=some d->ax Y μ' w'.heap (Ts i d) (I.tmps.getD d undef):=λj want d hg dv=>slot d (by
    simp only[nO,VK];right;rw[hg];simp[dv])
   have db:=Io (o:=o) λt hC=>slot t (by
    simp only[nO,VK];left;right;exact hC)
   by_cases gd:∃ k0,cj=some k0/\listed.getD k0 false=true
   .obtain⟨k0,eH,gk⟩:=gd
    have hE:k0 < all.length:=by
     rcases Vw k0 all.length with u | u
     .exact u
     .simp[Vi,WG (show listed.size<=k0 by omega)] at gk
    obtain⟨_,b,_,hb⟩:=J k0 hE
    obtain⟨hI,hB⟩:=dj k0 r b o eH C hb R
    let g:aB:=(List.range (v i).length).map λid=>if id∈b.wr then (v (k0+1)).view id else (v i).view id
    have gl:∀ id,id < (v i).length->aB.view g id=if id∈b.wr then (v (k0+1)).view id else (v i).view id:=by
     intro id s
     simp only[g,aB.view,U5,U9,WS s,Ve,Vo]
    have hlen:(v (i+1)).length=(v i).length:=by rw[<-e7,<-e6,hB.len]
    have cS:List.length g=(v i).length:=by simp only[g,Vl,List.length_range]
    have cN:=hB.step g cS gl
    have hF:iP H g g []=iP H (v i) (v (i+1)) r.wr:=by
     funext id
     unfold iP
     rw[U8 (by
            rintro (h1 | h1); · simp at h1
            .omega),U8 (by
              rw[hB.wr];rintro (h1 | h1); · simp at h1
              .omega)]
    refine yB rfl (by simpa using R) cN X bx db hr (λid s hm=>?_) (λh1=>by simp at h1) (λid h1 y=>by omega) (λx w1 Z1 a1 dm ds bs M=>closing x w1 Z1 a1 dm (by rw[<-hF];exact ds) (by rw[<-cS];exact bs) (λid s=>M id (by
     rw[cS];omega)))
    have a6:=Ah cf s
    rw[gl id a6]
    by_cases da:id∈b.wr
    .rw[Va da]
     rcases b8 id hm with ⟨G,B,hl,hH,hw⟩ | ⟨hl,_⟩
     .have hG:=(hw k0 b hb da).1 gk
      rw[hH]
      refine W (k0+1) G id hG B (VB a6 (f _ _ (by omega) (by omega))) (λk z h1 y N h4=>?_)
      have S:=(hw k z N h4).2 y
      have:=(place id (.inl s) k z N (by omega) h4 (λe=>by rw[eH] at e;simp at e;omega)).1 S
      omega
     .have:(v i).length<=h'.length:=by rw[<-a8];exact f _ _ (by omega) (Vh _)
      omega
    .rw[U8 da]
     refine ck id a6 hm λk z hk bl D=>place id (.inl s) k z hk bl D λe=>?_
     rw[eH] at e;simp at e;subst e
     rw[hb] at hk;simp at hk;subst hk
     exact absurd D da
   .have b3:∀ k,cj=some k->listed.getD k false=false:=λk e=>by
     cases hl:listed.getD k false with
     | false=>rfl
     | true=>exact absurd ⟨k,e,hl⟩ gd
    refine yB rfl (by simpa using R) cf X bx db hr (λid s hm=>ck id (Ah cf s) hm λk z hk bl D=>place id (.inl s) k z hk bl D (b3 k))
     (λeX id s hm=>ck id s hm λk z hk bl D=>place id (.inr (.inr eX)) k z hk bl D (b3 k)) (λid h1 y=>?_) closing
    apply Wu
    intro eb
    exact bn (b9 i id K h1 y eb)
 have e0:Inv (Array.replicate all.length false) a { w with drawn:=w.drawn+1 }:=by
  refine⟨Z,μ,cat h F,an.defers,an.size,λt=>⟨0,We _,by rw[e2];exact an.tm t,λk o hk b0=>?_⟩,an.hr,λid e1=>?_,λk id hk h1 y e1=>?_,λk o hk S=>?_,?_,λ_ _=>rfl,by simp⟩
  .have:(Array.replicate all.length false).getD k false=false:=by
    simp only[Vi,Array.getElem?_replicate];split <;> rfl
   rw[this];simp
  .unfold cat
   by_cases hl:id < h.length
   .left
    refine⟨0,We _,by rw[a7];exact hl,by rw[Va hl,a7],λk r hk D=>?_⟩
    have:(Array.replicate all.length false).getD k false=false:=by
     simp only[Vi,Array.getElem?_replicate];split <;> rfl
    rw[this];simp
   .rw[U8 hl]
    rcases Vw id h'.length with u | u
    .exact absurd (b4 id (by omega) u) e1
    .exact .inr ⟨u,rfl⟩
  .exfalso
   refine e1 (b4 id ?_ ?_)
   .rw[<-a7];exact VU (f _ _ (We _) (by omega)) h1
   .rw[<-a8];exact VB y (f _ _ hk (Vh _))
  .have:(Array.replicate all.length false).getD k false=false:=by
    simp only[Vi,Array.getElem?_replicate];split <;> rfl
   rw[this] at S;simp at S
  .exact⟨⟨rfl,rfl,rfl,Vh _⟩,gz.refl _ _ _,λ_ _ _=>rfl,λ_ h=>.inl h,λ_ _ _ _ h=>.inl h⟩
 have:=key all.length _ _ _ e0 (by
  have:=List.countP_le_length (p:=λi=>!(Array.replicate all.length false).getD i false) (l:=List.range all.length)
  simpa using this)
 simpa using this
theorem xF (hm:P.follows .mixedOrders=true) {id:Nat} {T b:Env} {h c:aB} {a:List Rec} (d:Tr P n all all T h a b c) (e:lL all=true) (f:tP all a) :
 cU P n (.region id all.toArray true) T h .normal b c:=vr hm d e f.TP
end
section
variable {P:Program} {n:Nat}
theorem qj.eval {Z:Nat->Prop} {μ:Mu} {F:View} {T:Env} {h:aB} {a:Act} {w:World} (s:qj n Z μ F T h a w) (x:Operand):ax Z μ w.heap (ev T x) (a.eval x):=by
 cases x with
 | tmp t=>exact s.tm t
 | const v=>exact ga v
 | global g=>exact .any _
 | func f=>exact .fn f [] [] #[] #[] rfl rfl (λi hi=>by simp at hi) (λi hi=>by simp at hi)
theorem FJ {all:List Oper} {id:Nat} {T N:Env} {h B:aB} {f:List Rec} (tr:Tr P n all all T h f N B):cU P n (.region id all.toArray false) T h .normal N B:=by
 obtain⟨an,Ts,y,vs,O,z,Q,G,g⟩:=Ef all T h f N B tr
 have C:∀ i,i < all.length->∃ o r,all[i]?=some o/\f[i]?=some r:=λi hi=>⟨all[i],f[i]'(by omega),U6 hi,U6 (by omega)⟩
 have l:∀ i,i < all.length->(y i).length<=(y (i+1)).length:=λi hi=>by
  obtain⟨o,r,h1,J⟩:=C i hi
  exact sR (g i o r h1 J).1
 have c:=JF l
 refine⟨by rw[<-z,<-G];exact c _ _ (We _) (Vh _),λZ μ F a w H D=>wp_region ?_⟩
 have key:∀ k i,i+k=all.length->∀ E μ' I w',qj n E μ' F (Ts i) (y i) I w'->Ext Z μ w h.length E μ' w'->(∀ id,id < h.length∨B.length<=id->μ' id=μ id)->(∀ id,(y i).length<=id->id < B.length->μ' id=none) ->
   wpOps P all.toArray (λe' I w'=>e'=.normal/\∃ E μ',qj n E μ' F N B I w'/\Ext Z μ w h.length E μ' w'/\(∀ id,id < h.length∨B.length<=id->μ' id=μ id)) (List.range' i k) I w':=by
  intro k
  induction k with
  | zero =>
   intro i hi E μ' I w' b hex m _
   obtain rfl:i=all.length:=by omega
   simp only[List.range'_zero,wpOps]
   rw[Q,G] at b
   exact⟨trivial,E,μ',b,hex,m⟩
  | succ k ih =>
   intro i hi E μ' I w' b hex m K
   obtain⟨o,r,ho,hr⟩:=C i (by omega)
   obtain⟨A,p,hT,aq,ar⟩:=g i o r ho hr
   have a1:=l i (by omega)
   have a6:(y (i+1)).length<=B.length:=by rw[<-G];exact c _ _ (by omega) (Vh _)
   have R:h.length<=(y i).length:=by rw[<-z];exact c _ _ (We _) (by omega)
   rw[List.range'_succ,wpOps_cons]
   refine yB rfl (by simpa using ho) A b.size (λj want d _ _=>b.tm d) (λx _=>b.eval x) b.hr (λid s _=>?_) (λ_ id s _=>?_) (λid h1 J=>K id h1 (by omega)) ?_
   .unfold cat;rw[Va (Ah A s)]
   .unfold cat;rw[Va s]
   .intro x w1 Z1 S U V u v
    refine ih (i+1) (by omega) Z1 S _ w1 ⟨?_,?_,λt=>?_,V.congr λid _=>?_⟩ (hex.trans u R D.hr.lt) (λid s=>?_) (λid h1 J=>?_)
    .unfold Act.put;split <;> exact b.defers
    .unfold Act.put;split <;> simp[b.size]
    .rw[hT]
     cases W:o.dst with
     | none =>
      simp only[Env.put,Act.put]
      exact(b.tm t).mono u.mono
     | some d =>
      have L:d < I.tmps.size:=by unfold q9 at p;rw[W] at p;rw[b.size];simpa using p
      simp only[Env.put,Act.put,Vi,V0]
      by_cases e:t=d
      .subst e;rw[Va rfl,Va rfl,Va L];exact U
      .rw[U8 e,U8 (λq=>e q.symm)]
       have:=(b.tm t).mono u.mono
       simpa only [Vi] using this
    .simp only[cat,iP]
     by_cases X:id < (y (i+1)).length
     .rw[Va X]
      split
      .rfl
      .rename_i hn
       have M:id < (y i).length:=by
        rcases Vw id (y i).length with Y | Y
        .exact Y
        .exact absurd (.inr ⟨Y,X⟩) hn
       rw[Va M,q5 A M (λq=>hn (.inl q))]
     .rw[U8 X,U8,U8 (by omega)]
      rintro (M | M)
      .have:=(vB A M).1;omega
      .omega
    .rw[v id (by omega),m id s]
    .rw[v id (by omega)];exact K id (by omega) J
 have:=key all.length 0 (by omega) Z μ a w (by rw[O,z];exact D) (Ext.refl _ _ _ _) (λ_ _=>rfl) (λid h1 J=>H id (by rw[<-z];exact h1) J)
 rw[Wx,List.range_eq_range']
 exact this
theorem cU.weaken {c:Code} {T q:Env} {h j:aB} {e:Exit} (x:cU P n c T h e q j) {Z:Nat->Prop} {μ:Mu} {F:View} {a:Act} {w:World} {r:Nat->Prop} {d:Mu} {l:World} {m:Nat}
  (f:∀ id,h.length<=id->id < j.length->μ id=none) (s:qj n Z μ F T h a w) (hex:Ext r d l m Z μ w) (hm:m<=h.length) (p:∀ id b o s,d id=some (b,o,s)->b < l.heap.size) :
  c.wp P (λe' t w'=>e'=e/\∃ k μ',qj n k μ' F q j t w'/\Ext r d l m k μ' w'/\(∀ id,id < h.length∨j.length<=id->μ' id=μ id)) a w :=
 wp_mono (x.2 Z μ F a w f s) λ_ _ _ ⟨he,k,μ',u,g,i⟩=>⟨he,k,μ',u,hex.trans g hm p,i⟩
theorem cU.seq {x y:Code} {T k l:Env} {h h1 f:aB} {e:Exit} (g:cU P n x T h .normal k h1) (i:cU P n y k h1 e l f):cU P n (.seq x y) T h e l f:=by
 refine⟨VU g.1 i.1,λZ μ F a w b s=>wp_seq (wp_mono (g.2 Z μ F a w (λid h1 f=>b id h1 (VB f i.1)) s) ?_)⟩
 rintro e' o w' ⟨rfl,m,μ',j,hex,c⟩
 refine wp_mono (i.weaken (λid h1 f=>?_) j hex g.1 s.hr.lt) ?_
 .rw[c id (.inr h1)];exact b id (VU g.1 h1) f
 .rintro e' o w' ⟨he,m,μ',j,hex,d⟩
  refine⟨he,m,μ',j,hex,λid p=>?_⟩
  have:=g.1
  have:=i.1
  rw[d id (by omega),c id (by omega)]
theorem cU.Jz {x y:Code} {T c:Env} {h h1:aB} {e:Exit} (d:cU P n x T h e c h1) (he:e≠.normal):cU P n (.seq x y) T h e c h1:=by
 refine⟨d.1,λZ μ F a w b s=>wp_seq (wp_mono (d.2 Z μ F a w b s) ?_)⟩
 rintro e' f w' ⟨rfl,h⟩
 cases e' <;> first | exact absurd rfl he | exact⟨rfl,h⟩
theorem cU.here {c:Code} {T:Env} {h:aB} {e:Exit} (b:∀ (Q:Exit->Act->World->Prop) a w,Q e a w->c.wp P Q a w):cU P n c T h e T h :=
 ⟨Vh _,λZ μ _ a w _ s=>b _ a w ⟨rfl,Z,μ,s,Ext.refl _ _ _ _,λ_ _=>rfl⟩⟩
theorem cU.skip {T:Env} {h:aB} : cU P n .skip T h .normal T h:=.here λ_ _ _ h=>wp_skip h
theorem cU.label {T:Env} {h:aB} {l:Nat} : cU P n (.label l) T h .normal T h:=.here λ_ _ _ h=>wp_label h
theorem cU.exit {T:Env} {h:aB} {id:Nat} : cU P n (.exit id) T h (.exit id) T h:=.here λ_ _ _ h=>wp_exit h
theorem cU.goto {T:Env} {h:aB} {l:Nat} : cU P n (.goto l) T h (.goto l) T h:=.here λ_ _ _ h=>wp_goto h
theorem cU.ret {T:Env} {h:aB} : cU P n .ret T h .ret T h:=.here λ_ _ _ h=>wp_ret h
theorem cU.cond {c:Operand} {x y:Code} {T d:Env} {h f:aB} {e:Exit} {t:Bool} (i:ev T c=.val (.bool t)) (g:cU P n (if t then x else y) T h e d f):cU P n (.cond c x y) T h e d f:=by
 refine⟨g.1,λZ μ F a w b s=>wp_cond (t:=t) ?_ (g.2 Z μ F a w b s)⟩
 have:=s.eval c
 rw[i] at this
 exact eO this
def pH (id:Nat):Exit->Exit
 | .exit id'=>if id'=id then .normal else .exit id'
 | e=>e
theorem cU.block {id:Nat} {c:Code} {T d:Env} {h f:aB} {e:Exit} (g:cU P n c T h e d f):cU P n (.block id c) T h (pH id e) d f:=by
 refine⟨g.1,λZ μ F a w b s=>wp_block (wp_mono (g.2 Z μ F a w b s) ?_)⟩
 rintro e' j w' ⟨rfl,h⟩
 cases e' with
 | exit i =>
  simp only[Exit.inBlock,pH]
  split
  .exact⟨rfl,h⟩
  .exact⟨rfl,h⟩
 | _=>exact⟨rfl,h⟩
theorem zt {c:Code} {Q b:Exit->Act->World->Prop} (d:∀ e a w,Q e a w->b e a w):∀ (k:Nat) (a:Act) (w:World),Code.rounds P c Q k a w->Code.rounds P c b k a w
 | 0,_,_,h=>h
 | k+1,a,w,h=>by
  rw[rounds_succ] at h ⊢
  refine wp_mono h λe a w h=>?_
  cases e with
  | normal=>exact zt d k a w h
  | _=>exact d _ _ _ h
def pL (P:Program) (n:Nat) (c:Code) (T:Env) (h:aB) (e:Exit) (T':Env) (h':aB):Prop :=
 h.length<=h'.length/\∃ k,∀ Z μ F a w,(∀ id,h.length<=id->id < h'.length->μ id=none)->qj n Z μ F T h a w ->
  Code.rounds P c (λe' a' w'=>e'=e/\∃ Z' μ',qj n Z' μ' F T' h' a' w'/\Ext Z μ w h.length Z' μ' w'/\(∀ id,id < h.length∨h'.length<=id->μ' id=μ id)) k a w
theorem pL.out {c:Code} {T d:Env} {h h1:aB} {e:Exit} (f:cU P n c T h e d h1) (he:e≠.normal):pL P n c T h e d h1:=by
 refine⟨f.1,1,λZ μ F a w b s=>?_⟩
 rw[rounds_succ]
 refine wp_mono (f.2 Z μ F a w b s) ?_
 rintro e' g w' ⟨rfl,h⟩
 cases e' <;> first | exact absurd rfl he | exact⟨rfl,h⟩
theorem pL.step {c:Code} {T r t:Env} {h h1 g:aB} {e:Exit} (i:cU P n c T h .normal r h1) (m:pL P n c r h1 e t g):pL P n c T h e t g:=by
 obtain⟨j,k,m⟩:=m
 refine⟨VU i.1 j,k+1,λZ μ F a w b s=>?_⟩
 rw[rounds_succ]
 refine wp_mono (i.2 Z μ F a w (λid h1 g=>b id h1 (VB g j)) s) ?_
 rintro e' o w' ⟨rfl,p,μ',q,hex,d⟩
 refine zt ?_ k o w' (m p μ' F o w' (λid h1 g=>?_) q)
 .rintro e' o w' ⟨he,p,μ',q,l,f⟩
  refine⟨he,p,μ',q,hex.trans l i.1 s.hr.lt,λid u=>?_⟩
  have:=i.1
  rw[f id (by omega),d id (by omega)]
 .rw[d id (.inr h1)];exact b id (VU i.1 h1) g
theorem cU.loop {c:Code} {T d:Env} {h f:aB} {e:Exit} (g:pL P n c T h e d f):cU P n (.loop c) T h e d f:=by
 obtain⟨h1,k,i⟩:=g
 exact⟨h1,λZ μ F a w b s=>wp_loop_rounds k (i Z μ F a w b s)⟩
def jumps (P:Program) (c:Code) (Q:Exit->Act->World->Prop):Nat->Code->Act->World->Prop
 | 0,_,_,_=>False
 | k+1,x,a,w=>x.wp P (λe a w=>match e with
  | .goto l=>(match findLabel c l with
   | some rest=>jumps P c Q k rest a w
   | none=>Q (.goto l) a w)
  | e=>Q e a w) a w
theorem PJ {c:Code} {Q:Exit->Act->World->Prop} {a:Act} {w:World} (k:Nat) (h:jumps P c Q k c a w):(Code.scope c).wp P Q a w:=by
 intro b K cs
 have key:∀ k x a w,jumps P c Q k x a w->∃ e q w',Q e q w'/\Arrives P (lone (b.at a (.code x :: .inScope c :: K)) cs w) b K cs e q w':=by
  intro k
  induction k with
  | zero=>intro x a w h;exact h.elim
  | succ k t =>
   intro x a w h
   obtain⟨e,f,g,i,d⟩:=h b (.inScope c :: K) cs
   cases e with
   | normal=>exact⟨.normal,f,g,i,Steps.trans d (.one step_inScope)⟩
   | exit id=>exact⟨.exit id,f,g,i,λs hk=>d s (by simp[exitTo,hk])⟩
   | goto l =>
    simp only at i
    cases r:findLabel c l with
    | some rest =>
     rw[r] at i
     obtain⟨n,o,p,m,j⟩:=t rest f g i
     exact⟨n,o,p,m,.of_steps (d _ (by simp[gotoIn,r])) j⟩
    | none =>
     rw[r] at i
     exact⟨.goto l,f,g,i,λs hk=>d s (by simp[gotoIn,r,hk])⟩
   | ret=>exact⟨_,f,g,i,d⟩
   | panic u=>exact⟨_,f,g,i,d⟩
   | outgrown=>exact⟨_,f,g,i,d⟩
 obtain⟨e,q,w',i,d⟩:=key k c a w h
 exact⟨e,q,w',i,.of_steps (.one step_scope) d⟩
theorem Bj {c:Code} {Q f:Exit->Act->World->Prop} (b:∀ e a w,Q e a w->f e a w):∀ (k:Nat) (x:Code) (a:Act) (w:World),jumps P c Q k x a w->jumps P c f k x a w
 | 0,_,_,_,h=>h
 | k+1,x,a,w,h=>by
  refine wp_mono h λe a w h=>?_
  cases e with
  | goto l =>
   simp only at h ⊢
   split
   .rename_i rest d;rw[d] at h;exact Bj b k rest a w h
   .rename_i d;rw[d] at h;exact b _ _ _ h
  | _=>exact b _ _ _ h
def rn (P:Program) (n:Nat) (c x:Code) (T:Env) (h:aB) (e:Exit) (T':Env) (h':aB):Prop :=
 h.length<=h'.length/\∃ k,∀ Z μ F a w,(∀ id,h.length<=id->id < h'.length->μ id=none)->qj n Z μ F T h a w ->
  jumps P c (λe' a' w'=>e'=e/\∃ Z' μ',qj n Z' μ' F T' h' a' w'/\Ext Z μ w h.length Z' μ' w'/\(∀ id,id < h.length∨h'.length<=id->μ' id=μ id)) k x a w
def IA (c:Code):Exit->Bool
 | .goto l=>(findLabel c l).isNone
 | _=>true
theorem rn.out {c x:Code} {T d:Env} {h h1:aB} {e:Exit} (f:cU P n x T h e d h1) (he:IA c e=true):rn P n c x T h e d h1:=by
 refine⟨f.1,1,λZ μ F a w b s=>?_⟩
 refine wp_mono (f.2 Z μ F a w b s) ?_
 rintro e' g w' ⟨rfl,h⟩
 cases e' with
 | goto l =>
  simp only[IA,Option.isNone_iff_eq_none] at he
  simp only[he];exact⟨trivial,h⟩
 | _=>exact⟨rfl,h⟩
theorem rn.jump {c x rest:Code} {T t u:Env} {h h1 g:aB} {e:Exit} {l:Nat} (i:cU P n x T h (.goto l) t h1) (v:findLabel c l=some rest) (o:rn P n c rest t h1 e u g):rn P n c x T h e u g:=by
 obtain⟨j,k,o⟩:=o
 refine⟨VU i.1 j,k+1,λZ μ F a w b s=>?_⟩
 refine wp_mono (i.2 Z μ F a w (λid h1 g=>b id h1 (VB g j)) s) ?_
 rintro e' p w' ⟨rfl,q,μ',r,hex,d⟩
 simp only[v]
 refine Bj ?_ k rest p w' (o q μ' F p w' (λid h1 g=>?_) r)
 .rintro e' p w' ⟨he,q,μ',r,m,f⟩
  refine⟨he,q,μ',r,hex.trans m i.1 s.hr.lt,λid y=>?_⟩
  have:=i.1
  rw[f id (by omega),d id (by omega)]
 .rw[d id (.inr h1)];exact b id (VU i.1 h1) g
theorem cU.scope {c:Code} {T d:Env} {h f:aB} {e:Exit} (g:rn P n c c T h e d f):cU P n (.scope c) T h e d f:=by
 obtain⟨h1,k,i⟩:=g
 exact⟨h1,λZ μ F a w b s=>PJ k (i Z μ F a w b s)⟩
def kP (vs:List V):Env:=λt=>vs.getD t .any
def sd (P:Program) (T:Env) (h:aB):ResultVar->Option V
 | .tmp t=>some (T t)
 | .cell a t=>(l0 P t (T a) h.view).map (·.1)
def lR (P:Program) (T:Env) (h:aB):List ResultVar->Option (List V)
 | []=>some []
 | r :: rest=>match sd P T h r,lR P T h rest with
  | some v,some vs=>some (v :: vs)
  | _,_=>none
def LX (P:Program) (fn:Func) (T:Env) (h:aB):Option V:=match lR P T h fn.results.toList with
 | some [v]=>some v
 | some vs=>some (.bm vs)
 | none=>none
theorem Jc {Z:Nat->Prop} {μ:Mu} {F:View} {T:Env} {h:aB} {a:Act} {w:World} (s:qj n Z μ F T h a w) (f:ResultVar->Sem Value) (o:∀ t,f (.tmp t)=pure (a.tmps.getD t undef))
  (q:∀ p t,f (.cell p t)=(do loadVar t (<-asAddr (a.tmps.getD p undef)))):∀ (l:List ResultVar) (vs:List V),lR P T h l=some vs ->
  ∃ xs:List Value,(l.mapM f).run P w=.ok xs w/\gu Z μ w.heap vs xs
 | [],vs,d=>by
  simp only[lR,U7] at d;subst d
  exact⟨[],rfl,rfl,λi hi=>by simp at hi⟩
 | r :: l,vs,d=>by
  simp only[lR] at d
  split at d
  .rename_i v B h1 I
   simp only[U7] at d;subst d
   obtain⟨xs,J,hr⟩:=Jc s f o q l B I
   have one:∃ x,(f r).run P w=.ok x w/\ax Z μ w.heap v x:=by
    cases r with
    | tmp t =>
     simp only[sd,U7] at h1;subst h1
     rw[o]
     exact⟨_,rfl,s.tm t⟩
    | cell p t =>
     simp only[sd,Vk] at h1
     obtain⟨⟨K,aA,rd⟩,c,rfl⟩:=h1
     have hp:=s.tm p
     rw[q]
     unfold l0 at c
     split at c
     .rename_i id i j C
      rw[C] at hp
      obtain⟨b,o0,sz,hm,g⟩:=mM hp
      split at c
      .rename_i esz es hH
       split at c
       .rename_i hi
        simp only[Vk,Vb] at c
        obtain⟨D,k,rfl,_,_⟩:=c
        have u:=s.hr.obj id
        have z:cat h F id=.arr esz es:=by
         simp only[cat];rw[Va (jD (by rw[hH];simp)),hH]
        rw[z] at u
        obtain⟨y,E,m⟩:=tq (P:=P) (rowOf u hm hi).2 k
        exact⟨y,by rw[g];simp[asAddr,E],m⟩
       .simp at c
      .simp at c
     .rename_i e j C
      rw[C] at hp
      obtain⟨b,off,L,A,g⟩:=si hp
      simp only[Vk,Vb] at c
      obtain⟨D,k,rfl,_,_⟩:=c
      obtain⟨y,E,m⟩:=tq (P:=P) A k
      exact⟨y,by rw[g];simp[asAddr,E],m⟩
     .simp at c
   obtain⟨x,G,H⟩:=one
   refine⟨x :: xs,?_,⟨by simp[hr.1],λi hi=>?_⟩⟩
   .simp only[List.mapM_cons,Sem.run_bind]
    rw[G]
    simp only[Result.andThen_ok,Sem.run_bind]
    rw[J]
    rfl
   .cases i with
    | zero=>exact H
    | succ i=>simpa using hr.2 i (by simpa using hi)
  .simp at d
theorem cw.JI {f:FuncId} {fn:Func} {c:Code} {vs:List V} {C:Env} {h A:aB} {e:Exit} {r:V} (L:P.funcs[f]?=some fn) (M:fn.body=some c) (Q:vs.length<=fn.ntmps)
  (K:cU P fn.ntmps c (kP vs) h e C A) (he:e=.ret∨e=.normal) (hr:LX P fn C A=some r):cw P f vs h r A:=by
 refine⟨K.1,λZ μ F w xs j D l=>calls_of_wp L M ?_⟩
 have m:(xs.toArray ++ Array.replicate (fn.ntmps - xs.toArray.size) undef).size=fn.ntmps:=by
  have:=j.1;simp;omega
 have q:qj fn.ntmps Z μ F (kP vs) h { tmps:=xs.toArray ++ Array.replicate (fn.ntmps - xs.toArray.size) undef,defers:=[] } w:=by
  refine⟨rfl,m,λt=>?_,D⟩
  unfold kP
  by_cases E:t < vs.length
  .have:=j.2 t E
   have G:t < xs.length:=j.1 ▸ E
   have g:(xs.toArray ++ Array.replicate (fn.ntmps - xs.toArray.size) undef).getD t undef=xs.getD t undef:=by
    rw[Vi,WE (by simpa using G)]
    simp[U5]
   show ax Z μ w.heap (vs.getD t .any) ((xs.toArray ++ Array.replicate (fn.ntmps - xs.toArray.size) undef).getD t undef)
   rw[g];exact this
  .have:vs.getD t .any=.any:=by simp[U5,Vx (Nat.le_of_not_lt E)]
   rw[this];exact .any _
 refine wp_mono (K.2 Z μ F _ w l q) ?_
 rintro e' o w' ⟨rfl,B,μ',s,hex,k⟩
 have u:∃ x,(results fn o.tmps).run P w'=.ok x w'/\ax B μ' w'.heap r x:=by
  unfold LX at hr
  have go:∀ d,lR P C A fn.results.toList=some d->(match d with | [v]=>some v | vs=>some (.bm vs))=some r->∃ x,(results fn o.tmps).run P w'=.ok x w'/\ax B μ' w'.heap r x:=by
   intro d h1 g
   unfold results
   obtain⟨n,H,b⟩:=Jc s (fun
     | .tmp t=>pure (o.tmps.getD t undef)
     | .cell p t=>do loadVar t (<-asAddr (o.tmps.getD p undef))) (λ_=>rfl) (λ_ _=>rfl) _ _ h1
   rw[Array.mapM_eq_mapM_toList]
   simp only[Sem.run_bind,Sem.run_map]
   show ∃ x,(((((fn.results.toList.mapM (fun
     | .tmp t=>pure (o.tmps.getD t undef)
     | .cell p t=>do loadVar t (<-asAddr (o.tmps.getD p undef)):ResultVar->Sem Value)).run P w').andThen λa w'=>.ok a.toArray w').andThen λa w'=>(pure (if h:a.size=1 then a[0] else Value.tuple a):Sem Value).run P w')=.ok x w')/\_
   rw[H]
   simp only[Result.andThen_ok,Sem.run_pure]
   match d,n,b,g with
   | [v],[x],b,g =>
    simp only[U7] at g
    subst g
    exact⟨x,rfl,b.2 0 (by simp)⟩
   | [],[],b,g =>
    simp only[U7] at g
    subst g
    exact⟨.tuple #[],rfl,.bm _ _ rfl (λi hi=>by simp at hi)⟩
   | v1 :: v2 :: d,N :: O :: n,b,g =>
    simp only[U7] at g
    subst g
    refine⟨.tuple (N :: O :: n).toArray,by simp,.bm _ _ (by simpa using b.1) (λi hi=>?_)⟩
    have:=b.2 i hi
    simpa [Vi,U5] using this
   | [_],[],b,_=>exact absurd b.1 (by simp)
   | [_],_ :: _ :: _,b,_=>exact absurd b.1 (by simp)
   | [],_ :: _,b,_=>exact absurd b.1 (by simp)
   | _ :: _ :: _,[],b,_=>exact absurd b.1 (by simp)
   | _ :: _ :: _,[_],b,_=>exact absurd b.1 (by simp)
  split at hr
  .rename_i v I;exact go _ I hr
  .rename_i d J I
   refine go _ I ?_
   split
   .rename_i v;exact absurd rfl (J v)
   .exact hr
  .simp at hr
 obtain⟨x,y,z⟩:=u
 rcases he with rfl | rfl
 .exact⟨s.defers,x,y,x,B,μ',rfl,z,s.hr,hex,k⟩
 .exact⟨s.defers,x,y,x,B,μ',rfl,z,s.hr,hex,k⟩
end
end Gv
