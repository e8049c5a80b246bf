/-
  Part 3 of the proof: what the machine does and what the functions answer.
  Conditions: those that each lemma names.
-/
import Derived.Orders
import Derived.LoopN
import Derived.Scope
import Derived.Test.YtihmlbdfcmfbdaaGreatSGzA8B
set_option linter.unusedSimpArgs false
set_option linter.unusedVariables false
set_option maxRecDepth 100000
namespace Gv
open Go
section
variable {Z:Nat→Prop} {μ μ':Mu} {w w':World} {P:Program} {H:View} {n:Nat} {v:V} {eff:aY} {rd:List Nat}
theorem pk {ρ:Operand→Value} {o:Oper} {b:Builtin} {args:Array Operand} {ats:Array TypeId} (ho:o.op=.call { callee:=.builtin b,args:=args,argTypes:=ats }) :
    execOp ρ o=builtin b ats o.type (args.map fun | .const _=>true | _=>false) (args.map ρ):=by
  unfold execOp
  rw[ho]
  rfl
def mW (k:Nat) (x:Value) (b:Bool):Prop:=match k,x with
  | 0,.slice a _ _=>a.isNone=b
  | 1,.pointer a=>a.isNone=b
  | 2,.map a=>a.isNone=b
  | 3,.nilFunc=>b=true
  | 3,.func _ _ _=>b=false
  | _,_=>False
theorem Jx {k:Nat} {x:V} {xv:Value} {b:Bool} (h:isNil k x=some b) (hx:ay Z μ w.heap x xv):mW k xv b:=by
  unfold isNil at h
  split at h
  · simp at h; subst h; cases hx with | emp k a h1 h2=>rw[h1 rfl]; rfl
  · simp at h; subst h
    cases hx with
    | emp k a h1 h2 =>
      cases a with
      | none=>exact absurd rfl (h2 rfl)
      | some a=>rfl
  · simp at h; subst h; cases hx; rfl
  · simp at h; subst h; cases hx; rfl
  · simp at h; subst h; cases hx; rfl
  · simp at h; subst h; cases hx; rfl
  · simp at h; subst h; cases hx; rfl
  · simp at h; subst h; cases hx; rfl
  · simp at h; subst h; cases hx; rfl
  · simp at h; subst h; cases hx; rfl
  · simp at h; subst h; cases hx; rfl
  · simp at h; subst h; cases hx; rfl
  · simp at h
theorem E1 {t:TypeId} {k:Nat} (h:g8 P t=some k):(k=0∧∃ e,P.underlying t=some (.slice e))∨(k=1∧∃ e,P.underlying t=some (.pointer e)) ∨
    (k=2∧∃ e f,P.underlying t=some (.map e f))∨(k=3∧∃ p q r,P.underlying t=some (.func p q r)):=by
  unfold g8 at h
  split at h
  · rename_i e hu; simp at h; exact .inl ⟨h.symm,e,hu⟩
  · rename_i e hu; simp at h; exact .inr (.inl ⟨h.symm,e,hu⟩)
  · rename_i e f hu; simp at h; exact .inr (.inr (.inl ⟨h.symm,e,f,hu⟩))
  · rename_i p q r hu; simp at h; exact .inr (.inr (.inr ⟨h.symm,p,q,r,hu⟩))
  · simp at h
def nN (P:Program) (w:World) (t:TypeId) (x y:Operand) (xv yv:Value) (b:Bool):Prop :=
  (Op.equal t xv yv).run P w=.ok b w∧(∀ op,(eqGuard op t x y xv yv).run P w=.ok () w)∧(binOp .eql t xv yv=(do pure (.bool (← Op.equal t xv yv))))∧(binOp .neq t xv yv=(do pure (.bool (!(← Op.equal t xv yv)))))
theorem jz (t:TypeId) (x y:Value):Op.equal t x y=Op.equalIn (9999+1) t x y:=rfl
theorem JO {t e:TypeId} {x y:Operand} {a a':Option Addr} {l c l' c':Nat} {b:Bool} (hu:P.underlying t=some (.slice e)) (h:(a.isNone=true∧a'.isNone=b)∨(a.isNone=b∧a'.isNone=true)):nN P w t x y (.slice a l c) (.slice a' l' c') b:=by
  refine ⟨?_,fun op=>by cases op <;> rfl,rfl,rfl⟩
  rw[jz]
  generalize (9999:Nat)=depth
  simp only[Op.equalIn,Sem.run_bind,aX hu,Result.andThen_ok]
  cases a with
  | none=>cases a' <;> simp_all
  | some a=>cases a' <;> simp_all
theorem EY {t e:TypeId} {x y:Operand} {a a':Option Addr} {b:Bool} (hu:P.underlying t=some (.pointer e)) (h:(a.isNone=true∧a'.isNone=b)∨(a.isNone=b∧a'.isNone=true)):nN P w t x y (.pointer a) (.pointer a') b:=by
  refine ⟨?_,fun op=>by cases op <;> rfl,rfl,rfl⟩
  rw[jz]
  generalize (9999:Nat)=depth
  simp only[Op.equalIn,Sem.run_bind,aX hu,Result.andThen_ok]
  cases a with
  | none=>cases a' <;> simp_all
  | some a=>cases a' <;> simp_all
theorem MJ {t e f:TypeId} {x y:Operand} {a a':Option Nat} {b:Bool} (hu:P.underlying t=some (.map e f)) (h:(a.isNone=true∧a'.isNone=b)∨(a.isNone=b∧a'.isNone=true)):nN P w t x y (.map a) (.map a') b:=by
  refine ⟨?_,fun op=>by cases op <;> rfl,rfl,rfl⟩
  rw[jz]
  generalize (9999:Nat)=depth
  simp only[Op.equalIn,Sem.run_bind,aX hu,Result.andThen_ok]
  cases a with
  | none=>cases a' <;> simp_all
  | some a=>cases a' <;> simp_all
theorem LR {t:TypeId} {p q:Array TypeId} {r:Bool} {x y:Operand} (hu:P.underlying t=some (.func p q r)) :
    nN P w t x y .nilFunc .nilFunc true∧(∀ f m k,nN P w t x y .nilFunc (.func f m k) false)∧(∀ f m k,nN P w t x y (.func f m k) .nilFunc false):=by
  refine ⟨⟨?_,fun op=>by cases op <;> rfl,rfl,rfl⟩,fun f m k=>⟨?_,fun op=>by cases op <;> rfl,rfl,rfl⟩,fun f m k=>⟨?_,fun op=>by cases op <;> rfl,rfl,rfl⟩⟩
  all_goals
    rw[jz]
    generalize (9999:Nat)=depth
    simp only[Op.equalIn,Sem.run_bind,aX hu,Result.andThen_ok,Sem.run_pure]
theorem Mr {t:TypeId} {x y:Operand} {xa ya:V} {xv yv:Value} {b:Bool} (h0:ay Z μ w.heap xa xv) (h1:ay Z μ w.heap ya yv) (h:AS P t xa ya=some b):nN P w t x y xv yv b:=by
  have hcase:∃ k bx b',g8 P t=some k∧isNil k xa=some bx∧isNil k ya=some b'∧((bx=true∧b'=b)∨(bx=b∧b'=true)):=by
    unfold AS at h
    split at h
    · rename_i k hk
      split at h
      · rename_i b' h2 h3
        simp at h; subst h
        exact ⟨k,true,_,hk,h2,h3,.inl ⟨rfl,rfl⟩⟩
      · rename_i b' _ h2 h3
        simp at h; subst h
        exact ⟨k,_,true,hk,h2,h3,.inr ⟨rfl,rfl⟩⟩
      · simp at h
    · simp at h
  obtain ⟨k,bx,b',hk,hx,hy,hb⟩:=hcase
  have nx:=Jx hx h0
  have ny:=Jx hy h1
  clear h h0 h1 hx hy
  rcases E1 hk with ⟨rfl,e,hu⟩ | ⟨rfl,e,hu⟩ | ⟨rfl,e,f,hu⟩ | ⟨rfl,p,q,r,hu⟩
  · cases xv <;> simp only[mW] at nx
    cases yv <;> simp only[mW] at ny
    exact JO hu (by rw[nx,ny]; exact hb)
  · cases xv <;> simp only[mW] at nx
    cases yv <;> simp only[mW] at ny
    exact EY hu (by rw[nx,ny]; exact hb)
  · cases xv <;> simp only[mW] at nx
    cases yv <;> simp only[mW] at ny
    exact MJ hu (by rw[nx,ny]; exact hb)
  · obtain ⟨g1,g2,g3⟩:=LR (P:=P) (w:=w) (x:=x) (y:=y) hu
    cases xv <;> simp only[mW] at nx
    · cases yv <;> simp only[mW] at ny
      · subst nx ny
        simp at hb
      · subst nx ny
        have:b=false:=by simpa using hb.symm
        subst this; exact g3 _ _ _
    · cases yv <;> simp only[mW] at ny
      · subst nx ny
        have:b=false:=by simpa using hb.symm
        subst this; exact g2 _ _ _
      · subst nx ny
        have:b=true:=by simpa using hb.symm
        subst this; exact g1
theorem NV {o:Oper} {T:Env} {a:Act} (h:bT P o T H n=some (v,eff,rd)) (hT:∀ x∈o.op.operands,ay Z μ w.heap (ev T x) (a.eval x)) (c:Ctx Z μ w.heap H rd n eff) :
    aQ Z μ w n v eff ((execOp a.eval o).run P w):=by
  unfold bT at h
  split at h
  ·
    rename_i x ho
    simp only[Option.some.injEq,Prod.mk.injEq] at h
    obtain ⟨rfl,rfl,rfl⟩:=h
    rw[ho] at hT
    refine ⟨.value (a.eval x),w,μ,by simp[execOp,ho],.inl ⟨_,rfl,hT x (by simp[Op.operands])⟩,dC.refl _,gn⟩
  · rename_i x ho
    simp only[Option.some.injEq,Prod.mk.injEq] at h
    obtain ⟨rfl,rfl,rfl⟩:=h
    rw[ho] at hT
    refine ⟨.value (a.eval x),w,μ,by simp[execOp,ho],.inl ⟨_,rfl,hT x (by simp[Op.operands])⟩,dC.refl _,gn⟩
  ·
    rename_i cc x y ho
    rw[ho] at hT
    split at h
    · rename_i t ht
      simp only[Option.some.injEq,Prod.mk.injEq] at h
      obtain ⟨rfl,rfl,rfl⟩:=h
      have h1:=hT cc (by simp[Op.operands])
      rw[ht] at h1
      have h1:=dM h1
      refine ⟨.value (if t then a.eval x else a.eval y),w,μ,by simp[execOp,ho,h1,asBool],.inl ⟨_,rfl,?_⟩,dC.refl _,gn⟩
      cases t with
      | true=>exact hT x (by simp[Op.operands])
      | false=>exact hT y (by simp[Op.operands])
    · simp at h
  ·
    rename_i e ho
    split at h
    · rename_i z hz
      have hinf:∃ i zv,P.info? e=some i∧i.zero=some zv∧z=(dZ zv).cells:=by
        cases hi:P.info? e with
        | none=>simp[zeroCells,hi] at hz
        | some i =>
          obtain ⟨zv,h1,h2⟩:=gj hi hz
          exact ⟨i,zv,rfl,h1,h2⟩
      obtain ⟨i,zv,hi,hzv,rfl⟩:=hinf
      have:=Ga (P:=P) (x:=zv) (t:=e) h (fun hok=>fg (fe _) hok) c
      have e1:(execOp a.eval o).run P w=((do pure (Next.value (.pointer (some (← newVar e zv)))):Sem Next).run P w):=by
        unfold execOp
        rw[ho]
        simp[Instr.alloc,iq hi hzv]
      rw[e1]; exact this
    · simp at h
  ·
    rename_i e x ho
    rw[ho] at hT
    have:=NZ (P:=P) (t:=e) h (fun hok=>fg (hT x (by simp[Op.operands])) hok) c
    have e1:execOp a.eval o=(do pure (Next.value (← Instr.box e (a.eval x)))):=by
      unfold execOp; rw[ho]
    rw[e1]; exact this
  ·
    rename_i t parts ho
    rw[ho] at hT
    have e1:execOp a.eval o=(do pure (Next.value (← Instr.build t (parts.map fun (i,x)=>(i,a.eval x))))):=by
      unfold execOp; rw[ho]
    rw[e1]
    refine J1 h ?_
    rw[Array.toList_map]
    exact xt _ (fun x hx=>hT x (by simpa [Op.operands] using hx))
  ·
    rename_i t len parts ho
    rw[ho] at hT
    have e1:execOp a.eval o=(do pure (Next.value (← Instr.buildSlice t len (parts.map fun (i,x)=>(i,a.eval x))))):=by
      unfold execOp; rw[ho]
    rw[e1]
    refine Ak h ?_ c
    rw[Array.toList_map]
    exact xt _ (fun x hx=>hT x (by simpa [Op.operands] using hx))
  ·
    rename_i t x ho
    rw[ho] at hT
    have e1:execOp a.eval o=(do pure (Next.value (← Instr.loadAt t (a.eval x)))):=by
      unfold execOp; rw[ho]
    rw[e1]
    exact Lt h (hT x (by simp[Op.operands])) c
  ·
    rename_i t x y ho
    rw[ho] at hT
    have e1:execOp a.eval o=(do Instr.storeAt t (a.eval x) (a.eval y); pure Next.skip):=by
      unfold execOp; rw[ho]
    rw[e1]
    exact Kc h (hT x (by simp[Op.operands])) (hT y (by simp[Op.operands])) c
  ·
    rename_i x ho
    rw[ho] at hT
    have h1:=hT x (by simp[Op.operands])
    split at h
    · rename_i id i j hx
      simp only[Option.some.injEq,Prod.mk.injEq] at h
      obtain ⟨rfl,rfl,rfl⟩:=h
      rw[hx] at h1
      have h2:=h1
      obtain ⟨b,o0,s,hm,he⟩:=kT h1
      exact ⟨.value (a.eval x),w,μ,by simp[execOp,ho,he],.inl ⟨_,rfl,h2⟩,dC.refl _,gn⟩
    · rename_i e j hx
      simp only[Option.some.injEq,Prod.mk.injEq] at h
      obtain ⟨rfl,rfl,rfl⟩:=h
      rw[hx] at h1
      have h2:=h1
      obtain ⟨b,off,hz,hrow,he⟩:=pC h1
      exact ⟨.value (a.eval x),w,μ,by simp[execOp,ho,he],.inl ⟨_,rfl,h2⟩,dC.refl _,gn⟩
    · rename_i f p q hx
      simp only[Option.some.injEq,Prod.mk.injEq] at h
      obtain ⟨rfl,rfl,rfl⟩:=h
      rw[hx] at h1
      have h2:=h1
      generalize he:a.eval x=y at h1 h2
      cases h1 with
      | fn _ _ _ aas bs _ _ _ _=>exact ⟨.value (.func (.func f) aas bs),w,μ,by simp[execOp,ho,he],.inl ⟨_,rfl,h2⟩,dC.refl _,gn⟩
    · simp at h
  ·
    rename_i t x f ho
    rw[ho] at hT
    have e1:execOp a.eval o=(do pure (Next.value (← Instr.fieldAt t (a.eval x) f))):=by
      unfold execOp; rw[ho]
    rw[e1]
    exact Cf h (hT x (by simp[Op.operands]))
  ·
    rename_i t x f ho
    rw[ho] at hT
    have e1:execOp a.eval o=(do pure (Next.value (← Instr.field t (a.eval x) f))):=by
      unfold execOp; rw[ho]
    rw[e1]
    exact Il h (hT x (by simp[Op.operands]))
  ·
    rename_i t x i ho
    rw[ho] at hT
    have e1:execOp a.eval o=(do pure (Next.value (← Instr.indexAt t (a.eval x) (a.eval i)))):=by
      unfold execOp; rw[ho]
    rw[e1]
    exact Cn h (hT x (by simp[Op.operands])) (hT i (by simp[Op.operands]))
  ·
    rename_i t x lo hi mx ho
    split at h
    · refine oW h hT (fun ρ hρ=>?_)
      rw[ho] at hρ
      have h0:=hρ x (by simp[Op.operands])
      have h1:lo.map ρ=lo.map a.eval:=by cases lo with | none=>rfl | some y=>simp[hρ y (by simp[Op.operands])]
      have h2:hi.map ρ=hi.map a.eval:=by cases hi with | none=>rfl | some y=>simp[hρ y (by simp[Op.operands])]
      have h3:mx.map ρ=mx.map a.eval:=by cases mx with | none=>rfl | some y=>simp[hρ y (by simp[Op.operands])]
      unfold execOp; rw[ho]; simp only[h0,h1,h2,h3]
    · rw[ho] at hT
      have e1:execOp a.eval o=(do pure (Next.value (← Instr.sliceAt t (a.eval x) (lo.map a.eval) (hi.map a.eval) (mx.map a.eval)))):=by
        unfold execOp; rw[ho]
      rw[e1]
      exact Ku h (hT x (by simp[Op.operands])) (Ag lo (fun y hy=>hT y (by simp[Op.operands] at hy ⊢; simp[hy]))) (Ag hi (fun y hy=>hT y (by simp[Op.operands] at hy ⊢; simp[hy]))) (Ag mx (fun y hy=>hT y (by simp[Op.operands] at hy ⊢; simp[hy])))
  ·
    rename_i t l cc ho
    rw[ho] at hT
    have e1:execOp a.eval o=(do pure (Next.value (← Instr.makeSlice t (a.eval l) (a.eval cc)))):=by
      unfold execOp; rw[ho]
    rw[e1]
    exact Cl h (hT l (by simp[Op.operands])) (hT cc (by simp[Op.operands])) c
  ·
    rename_i t r ho
    split at h
    · simp only[Option.some.injEq,Prod.mk.injEq] at h
      obtain ⟨rfl,rfl,rfl⟩:=h
      refine ⟨.value (.map (some w.heap.size)),w.alloc (.map #[] 0),μ.set n (w.heap.size,0,0),by simp[execOp,ho,Instr.makeMap],.inl ⟨_,rfl,.mp n w.heap.size 0 0 (by simp[Mu.set])⟩,gv _ _,?_⟩
      refine ⟨w.heap.size,0,0,Nat.le_refl _,by rw[heap_alloc]; simp,rfl,by rw[heap_alloc]; exact dF _ _,?_⟩
      intro b o0 s hx
      simp only[Mu.set,if_true,Option.some.injEq,Prod.mk.injEq] at hx
      obtain ⟨rfl,rfl,rfl⟩:=hx
      exact ⟨#[],by rw[heap_alloc]; simp,rfl,fun i hi=>by simp at hi⟩
    · simp at h
  ·
    rename_i f first cap ho
    simp only[Option.some.injEq,Prod.mk.injEq] at h
    obtain ⟨rfl,rfl,rfl⟩:=h
    rw[ho] at hT
    have h1:=Ft (T:=T) (a:=a) first (fun x hx=>hT x (by simp[Op.operands,hx]))
    have h2:=Ft (T:=T) (a:=a) cap (fun x hx=>hT x (by simp[Op.operands,hx]))
    exact ⟨.value (.func (.func f) (first.map a.eval) (cap.map a.eval)),w,μ,by simp[execOp,ho,Instr.makeFunc],.inl ⟨_,rfl,.fn f _ _ _ _ h1.1 h2.1 h1.2 h2.2⟩,dC.refl _,gn⟩
  ·
    rename_i t m k ok ho
    rw[ho] at hT
    have e1:execOp a.eval o=(do pure (Next.value (← Instr.lookup t (a.eval m) (a.eval k) ok))):=by
      unfold execOp; rw[ho]
    rw[e1]
    exact HP h (hT m (by simp[Op.operands])) (hT k (by simp[Op.operands])) c
  · rename_i t m k x ho
    rw[ho] at hT
    have e1:execOp a.eval o=(do Instr.mapUpdate t (a.eval m) (a.eval k) (a.eval x); pure Next.skip):=by
      unfold execOp; rw[ho]
    rw[e1]
    exact tV h (hT m (by simp[Op.operands])) (hT k (by simp[Op.operands])) (hT x (by simp[Op.operands])) c
  · rename_i t m k x ho
    rw[ho] at hT
    have e1:execOp a.eval o=(do Instr.mapUpdate t (a.eval m) (a.eval k) (a.eval x); pure Next.skip):=by
      unfold execOp; rw[ho]
    rw[e1]
    exact tV h (hT m (by simp[Op.operands])) (hT k (by simp[Op.operands])) (hT x (by simp[Op.operands])) c
  · rename_i t m k ho
    rw[ho] at hT
    have e1:execOp a.eval o=(do pure (Next.value (← Instr.mapEntry t (a.eval m) (a.eval k)))):=by
      unfold execOp; rw[ho]
    rw[e1]
    exact DJ h (hT m (by simp[Op.operands])) (hT k (by simp[Op.operands])) c
  · rename_i t m s x ho
    rw[ho] at hT
    have e1:execOp a.eval o=(do Instr.entryStore t (a.eval m) (a.eval s) (a.eval x); pure Next.skip):=by
      unfold execOp; rw[ho]
    rw[e1]
    exact Af h (hT m (by simp[Op.operands])) (hT s (by simp[Op.operands])) (hT x (by simp[Op.operands])) c
  ·
    rename_i t i ho
    rw[ho] at hT
    have h1:=hT t (by simp[Op.operands])
    split at h
    · rename_i vs hvs
      split at h
      · rename_i hi
        simp only[Option.some.injEq,Prod.mk.injEq] at h
        obtain ⟨rfl,rfl,rfl⟩:=h
        rw[hvs] at h1
        generalize he:a.eval t=y at h1
        cases h1 with
        | bc _ aas hl hr =>
          have h3:=hr i hi
          have hlt:i < aas.size:=hl ▸ hi
          simp only[Array.getD_eq_getD_getElem?,Array.getElem?_eq_getElem hlt,Option.getD_some] at h3
          exact ⟨.value aas[i],w,μ,by simp[execOp,ho,he,Instr.extract,hlt],.inl ⟨_,rfl,h3⟩,dC.refl _,gn⟩
      · simp at h
    · simp at h
  ·
    rename_i t x ho
    rw[ho] at hT
    have h1:=hT x (by simp[Op.operands])
    split at h
    · rename_i s hs
      split at h
      · rename_i hstr
        simp only[Option.some.injEq,Prod.mk.injEq] at h
        obtain ⟨rfl,rfl,rfl⟩:=h
        rw[hs] at h1
        have h1:=dM h1
        have hu:P.underlying t=some .string:=by
          rw[ho] at hstr
          unfold isStr at hstr
          simp only at hstr
          split at hstr <;> simp_all
        refine ⟨.value (.pointer (some ⟨w.heap.size,0,none⟩)),w.alloc (.stringIter s 0),μ.set n (w.heap.size,0,0),by simp[execOp,ho,h1,Instr.range,aX hu],.inl ⟨_,rfl,?_⟩,gv _ _,?_⟩
        · have:=ay.ptr (Z:=Z) (μ:=μ.set n (w.heap.size,0,0)) (hp:=(w.alloc (.stringIter s 0)).heap) n 0 0 w.heap.size 0 0 (by simp[Mu.set])
          simpa using this
        · refine ⟨w.heap.size,0,0,Nat.le_refl _,by rw[heap_alloc]; simp,rfl,by rw[heap_alloc]; exact dF _ _,?_⟩
          intro b o0 s' hx
          simp only[Mu.set,if_true,Option.some.injEq,Prod.mk.injEq] at hx
          obtain ⟨rfl,rfl,rfl⟩:=hx
          exact ⟨rfl,by rw[heap_alloc]; simp⟩
      · simp at h
    · simp at h
  ·
    rename_i it ho
    rw[ho] at hT
    have e1:execOp a.eval o=(do pure (Next.value (← Instr.next (a.eval it) true o.type))):=by
      unfold execOp; rw[ho]
    rw[e1]
    exact LV h (hT it (by simp[Op.operands])) c
  ·
    rename_i s d x ho
    split at h
    · rw[ho] at hT
      have e1:execOp a.eval o=(do pure (Next.value (← convert s d (a.eval x)))):=by
        unfold execOp; rw[ho]
      rw[e1]
      exact Fb h (hT x (by simp[Op.operands])) c
    · refine oW h hT (fun ρ hρ=>?_)
      rw[ho] at hρ
      have h0:=hρ x (by simp[Op.operands])
      unfold execOp; rw[ho]; simp only[h0]
  ·
    rename_i b args ats ho
    have hcall:execOp a.eval o=builtin b ats o.type (args.map fun | .const _=>true | _=>false) (args.map a.eval):=pk ho
    have hpure:c4 P o T=some (v,eff,rd)→aQ Z μ w n v eff ((execOp a.eval o).run P w):=by
      intro h
      refine oW h hT (fun ρ hρ=>?_)
      rw[ho] at hρ
      rw[pk ho,pk ho]
      have:args.map ρ=args.map a.eval:=by
        apply Array.map_congr_left
        intro x hx
        exact hρ x (by simp[Op.operands,Call.operands,hx])
      rw[this]
    have hTT:∀ x∈args.toList,ay Z μ w.heap (ev T x) (a.eval x):=fun x hx=>hT x (by rw[ho]; simp[Op.operands,Call.operands]; simpa using hx)
    have h0:∀ {k:Nat},k < ats.size→ats[k]?=some (ats.getD k 0):=by
      intro k hk
      simp[Array.getD_eq_getD_getElem?,hk]
    have harg1:∀ x,args.toList=[x]→args.map a.eval = #[a.eval x]:=by
      intro x hx
      apply Array.ext'
      simp[hx]
    have harg2:∀ x y,args.toList=[x,y]→args.map a.eval = #[a.eval x,a.eval y]:=by
      intro x y hx
      apply Array.ext'
      simp[hx]
    split at h
    · rename_i x hargs
      split at h
      · rename_i hsz
        rw[hcall,harg1 x hargs]
        exact MP h (h0 hsz) (hTT x (by rw[hargs]; simp)) c
      · simp at h
    · rename_i x y hargs
      split at h
      · rename_i hsz
        rw[hcall,harg2 x y hargs]
        exact Hx h (h0 (by omega)) (h0 (by omega)) hsz.2 (hTT x (by rw[hargs]; simp)) (hTT y (by rw[hargs]; simp)) c
      · split at h
        · rename_i hsz
          rw[hcall,harg2 x y hargs]
          exact KW h (h0 (by omega)) (h0 (by omega)) hsz.2 (hTT x (by rw[hargs]; simp)) (hTT y (by rw[hargs]; simp)) c
        · simp at h
    · rename_i x hargs
      split at h
      · rename_i hsz
        rw[hcall,harg1 x hargs]
        exact MV h (h0 hsz) (hTT x (by rw[hargs]; simp)) c
      · simp at h
    · rename_i x y hargs
      split at h
      · rename_i hsz
        rw[hcall,harg2 x y hargs]
        exact KI h (h0 hsz) (hTT x (by rw[hargs]; simp)) (hTT y (by rw[hargs]; simp)) c
      · simp at h
    · rename_i x y hargs
      split at h
      · rename_i hsz
        rw[hcall,harg2 x y hargs]
        exact G2 h (h0 hsz) (hTT x (by rw[hargs]; simp)) (hTT y (by rw[hargs]; simp)) c
      · simp at h
    · rename_i x hargs
      split at h
      · rename_i hsz
        rw[hcall,harg1 x hargs]
        exact Kn h (h0 hsz) (hTT x (by rw[hargs]; simp)) c
      · simp at h
    · exact hpure h
    · exact hpure h
    · exact hpure h
    · exact hpure h
    · exact hpure h
    · simp at h
  · rename_i op t x y yt ho
    split at h
    · rw[ho] at hT
      have h0:=hT x (by simp[Op.operands])
      have h1:=hT y (by simp[Op.operands])
      have go:∀ b,AS P t (ev T x) (ev T y)=some b→nN P w t x y (a.eval x) (a.eval y) b:=fun b hb=>Mr h0 h1 hb
      split at h
      · rename_i b hb
        simp only[Option.some.injEq,Prod.mk.injEq] at h
        obtain ⟨rfl,rfl,rfl⟩:=h
        obtain ⟨g1,g2,g3,_⟩:=go _ hb
        refine ⟨.value (.bool b),w,μ,?_,.inl ⟨_,rfl,.val _ rfl⟩,dC.refl _,gn⟩
        unfold execOp; rw[ho]
        simp only[Sem.run_bind,g2,Result.andThen_ok,g3,g1,Sem.run_pure]
      · rename_i b hb
        simp only[Option.some.injEq,Prod.mk.injEq] at h
        obtain ⟨rfl,rfl,rfl⟩:=h
        obtain ⟨g1,g2,_,g4⟩:=go _ hb
        refine ⟨.value (.bool (!b)),w,μ,?_,.inl ⟨_,rfl,.val _ rfl⟩,dC.refl _,gn⟩
        unfold execOp; rw[ho]
        simp only[Sem.run_bind,g2,Result.andThen_ok,g4,g1,Sem.run_pure]
      · simp at h
    · refine oW h hT (fun ρ hρ=>?_)
      rw[ho] at hρ
      have h0:=hρ x (by simp[Op.operands])
      have h1:=hρ y (by simp[Op.operands])
      unfold execOp; rw[ho]; simp only[h0,h1]
  · rename_i op t x ho
    refine oW h hT (fun ρ hρ=>?_)
    rw[ho] at hρ
    have h0:=hρ x (by simp[Op.operands])
    unfold execOp; rw[ho]; simp only[h0]
  · rename_i t x y ho
    refine oW h hT (fun ρ hρ=>?_)
    rw[ho] at hρ
    have h0:=hρ x (by simp[Op.operands])
    have h1:=hρ y (by simp[Op.operands])
    unfold execOp; rw[ho]; simp only[h0,h1]
  · simp at h
end
def aY.wr:aY→List Nat
  | .none | .new _=>[]
  | .eC id _ | .bj id _=>[id]
def gL (μ:Mu) (b:Nat):Prop:=∃ id o s,μ id=some (b,o,s)
structure Ext (Z:Nat→Prop) (μ:Mu) (w:World) (m:Nat) (Z':Nat→Prop) (μ':Mu) (w':World):Prop where
  same:dC w w'
  mono:fj Z Z' μ μ' w.heap w'.heap
  frame:eO w.heap w'.heap (gL μ)
  K5:∀ b,Z' b→Z b∨w.heap.size≤b
  zd:∀ id b o s,μ' id=some (b,o,s)→μ id=some (b,o,s)∨(m≤id∧(w.heap.size≤b∨gL μ b))
theorem Ext.refl (Z:Nat→Prop) (μ:Mu) (w:World) (m:Nat):Ext Z μ w m Z μ w :=
  ⟨dC.refl _,fj.refl _ _ _,fun _ _ _=>rfl,fun _ h=>.inl h,fun _ _ _ _ h=>.inl h⟩
theorem Ext.trans {Z Z' Z'':Nat→Prop} {μ μ' μ'':Mu} {w w' w'':World} {m m':Nat} (h:Ext Z μ w m Z' μ' w') (k:Ext Z' μ' w' m' Z'' μ'' w'') (hm:m≤m') (hlt:∀ id b o s,μ id=some (b,o,s)→b < w.heap.size):Ext Z μ w m Z'' μ'' w'':=by
  have hmu:∀ b,gL μ' b→w.heap.size≤b∨gL μ b:=by
    rintro b ⟨id,o,s,hx⟩
    rcases h.zd _ _ _ _ hx with h1 | ⟨_,h1 | h1⟩
    · exact .inr ⟨_,_,_,h1⟩
    · exact .inl h1
    · exact .inr h1
  refine ⟨h.same.trans k.same,h.mono.trans k.mono,fun b hb hn=>?_,fun b hb=>?_,fun id b o s hx=>?_⟩
  · rw[k.frame b (Nat.lt_of_lt_of_le hb h.same.size) (fun hm'=>?_),h.frame b hb hn]
    rcases hmu b hm' with h1 | h1
    · omega
    · exact hn h1
  · rcases k.K5 b hb with h1 | h1
    · exact h.K5 b h1
    · exact .inr (Nat.le_trans h.same.size h1)
  · rcases k.zd _ _ _ _ hx with h1 | ⟨h1,h2⟩
    · exact h.zd _ _ _ _ h1
    · refine .inr ⟨by omega,?_⟩
      rcases h2 with h2 | h2
      · exact .inl (Nat.le_trans h.same.size h2)
      · exact hmu b h2
def cat (h:aB) (F:View):View:=fun id=>if id < h.length then h.view id else F id
def bw (P:Program) (f:FuncId) (vs:List V) (h:aB) (r:V) (h':aB):Prop :=
  h.length≤h'.length∧∀ Z μ (F:View) (w:World) (xs:List Value),dR Z μ w.heap vs xs→fL Z μ w.heap (cat h F)→(∀ id,h.length≤id→id < h'.length→μ id=none) →
    Calls P f xs.toArray w fun e w'=>∃ x Z' μ',e=.returned x∧ay Z' μ' w'.heap r x∧fL Z' μ' w'.heap (cat h' F)∧Ext Z μ w h.length Z' μ' w'∧(∀ id,id < h.length∨h'.length≤id→μ' id=μ id)
def cR (P:Program) (f:FuncId):Bool:=match P.funcs[f]? with
  | some fn=>fn.name != "runtime.NumGoroutine" && fn.body.isSome
  | none=>false
def oQ (n:Nat) (o:Oper):Bool:=match o.dst with
  | some d=>d < n
  | none=>true
def cM (n:Nat) (all:List Oper) (T:Env) (o:Oper):Option Bool:=match o.guard with
  | none=>some true
  | some (j,want)=>match (all[j]?).bind (·.dst) with
    | some d=>if d < n then (match T d with
      | .val (.bool b)=>some (b == want)
      | .bc []=>some false
      | _=>none) else none
    | none=>none
inductive c5 (P:Program) (n:Nat) (all:List Oper):Oper→Env→aB→V→aB→List Nat→List Nat→Bool→Prop
  | skip {o:Oper} {T:Env} {h:aB} : cM n all T o=some false→c5 P n all o T h (.bc []) h [] [] false
  | op {o:Oper} {T:Env} {h:aB} {v:V} {eff:aY} {rd:List Nat} : cM n all T o=some true→bT P o T h.view h.length=some (v,eff,rd)→c5 P n all o T h v (eff.apply h) rd eff.wr false
  | gV {o:Oper} {T:Env} {h:aB} {e:TypeId} {x:Operand} : cM n all T o=some true→o.op=.box e x→(ev T x).cells.all aR=true→c5 P n all o T h (.aU (ev T x).cells 0) h [] [] false
  | eS {o:Oper} {T:Env} {h:aB} {s d e:TypeId} {x:Operand} {st:ByteArray} : cM n all T o=some true→o.op=.convert s d x→P.underlying s=some .string→P.underlying d=some (.slice e)→P.underlying e=some (.int .u8)→ev T x=.val (.string st)→c5 P n all o T h (.aK (fi st)) h [] [] false
  | call {o:Oper} {T:Env} {h h':aB} {r:V} {f:Operand} {args:Array Operand} {ats:Array TypeId} {g:FuncId} {first cap:List V} {wr:List Nat} : cM n all T o=some true →
      o.op=.call { callee:=.value f,args:=args,argTypes:=ats }→ev T f=.fn g first cap→cR P g=true→bw P g (first ++ args.toList.map (ev T) ++ cap) h r h' →
      (∀ id,id < h.length→¬ id∈wr→h'.view id=h.view id)→(∀ id,id∈wr→id < h.length)→c5 P n all o T h r h' [] wr true
theorem fU {h:aB} {id:Nat} (hd:h.view id≠.dead):id < h.length:=by
  rcases Nat.lt_or_ge id h.length with h1 | h1
  · exact h1
  · exfalso; apply hd; simp[aB.view,List.getD_eq_getElem?_getD,List.getElem?_eq_none h1]
theorem ic {h:aB} {id:Nat} {o:bI} (hid:id < h.length):aB.view (h.set id o)=View.set h.view id o:=by
  funext k
  simp only[aB.view,View.set,List.getD_eq_getElem?_getD,List.getElem?_set]
  by_cases e:id=k
  · subst e; simp[hid]
  · rw[if_neg e,if_neg (fun q=>e q.symm)]
theorem BC (h:aB) (o:bI):aB.view (h ++ [o])=View.set h.view h.length o:=by
  funext k
  simp only[aB.view,View.set,List.getD_eq_getElem?_getD]
  by_cases e:k=h.length
  · subst e; simp
  · rw[if_neg e]
    rcases Nat.lt_or_ge k h.length with h1 | h1
    · rw[List.getElem?_append_left h1]
    · rw[List.getElem?_append_right h1,List.getElem?_eq_none (by simp; omega),List.getElem?_eq_none h1]
theorem jJ {h:aB} {eff:aY} (hl:∀ id,id∈eff.wr→h.view id≠.dead):aB.view (eff.apply h)=eff.view h.view h.length:=by
  cases eff with
  | none=>rfl
  | new o=>exact BC h o
  | eC id o=>exact ic (fU (hl id (by simp[aY.wr])))
  | bj id o =>
    have:=fU (hl id (by simp[aY.wr]))
    simp only[aY.apply,aY.view]
    rw[BC,ic this]
    simp
theorem fh (h:aB) (eff:aY):(eff.apply h).length=h.length+(match eff with | .new _ | .bj _ _=>1 | _=>0):=by
  cases eff <;> simp[aY.apply]
theorem km {P:Program} {o:Oper} {T:Env} {H:View} {n:Nat} {v:V} {eff:aY} {rd:List Nat} (h:bT P o T H n=some (v,eff,rd)):∀ id,id∈eff.wr→H id≠.dead∧id∈rd:=by
  have nn:∀ {v':V} {e:aY} {r:List Nat},e.wr=[]→some (v',e,r)=some (v,eff,rd)→∀ id,id∈eff.wr→H id≠.dead∧id∈rd:=by
    intro v' e r he heq id hid
    simp only[Option.some.injEq,Prod.mk.injEq] at heq
    obtain ⟨_,rfl,_⟩:=heq
    rw[he] at hid; simp at hid
  have pu:c4 P o T=some (v,eff,rd)→∀ id,id∈eff.wr→H id≠.dead∧id∈rd:=by
    intro h
    unfold c4 at h
    split at h
    · split at h
      · split at h
        · exact nn rfl h
        · simp at h
      · simp at h
    · simp at h
  have up:∀ {id:Nat} {ob:bI} {v':V} {r:List Nat},H id≠.dead→id∈r→some (v',aY.eC id ob,r)=some (v,eff,rd)→∀ i,i∈eff.wr→H i≠.dead∧i∈rd:=by
    intro id ob v' r h1 h2 heq i hi
    simp only[Option.some.injEq,Prod.mk.injEq] at heq
    obtain ⟨_,rfl,rfl⟩:=heq
    simp[aY.wr] at hi; subst hi; exact ⟨h1,h2⟩
  have mv:∀ {id:Nat} {ob:bI} {v':V} {r:List Nat},H id≠.dead→id∈r→some (v',aY.bj id ob,r)=some (v,eff,rd)→∀ i,i∈eff.wr→H i≠.dead∧i∈rd:=by
    intro id ob v' r h1 h2 heq i hi
    simp only[Option.some.injEq,Prod.mk.injEq] at heq
    obtain ⟨_,rfl,rfl⟩:=heq
    simp[aY.wr] at hi; subst hi; exact ⟨h1,h2⟩
  have bx:∀ {cs:List V},j0 cs n=some (v,eff,rd)→∀ id,id∈eff.wr→H id≠.dead∧id∈rd:=by
    intro cs h
    unfold j0 at h
    split at h
    · exact nn rfl h
    · simp at h
  have mp:∀ {α:Type} {x:Option α} {f:α→V} {r:List Nat},(x.map fun a=>(f a,aY.none,r))=some (v,eff,rd)→∀ id,id∈eff.wr→H id≠.dead∧id∈rd:=by
    intro α x f r h
    simp only[Option.map_eq_some_iff] at h
    obtain ⟨a,_,h⟩:=h
    exact nn rfl (congrArg some h)
  unfold bT at h
  split at h
  · exact nn rfl h
  · exact nn rfl h
  · split at h
    · exact nn rfl h
    · simp at h
  · split at h
    · exact bx h
    · simp at h
  · exact bx h
  · unfold rl at h
    split at h
    · split at h
      · exact mp h
      · simp at h
    · simp at h
  · unfold fN at h
    repeat' (split at h)
    all_goals first | exact nn rfl h | (simp at h; done)
  · unfold kh at h
    repeat' (split at h)
    all_goals first | exact mp h | (simp at h; done)
  · unfold nq at h
    split at h
    · split at h
      · rename_i hH
        split at h
        · exact up (by rw[hH]; simp) (by simp) h
        · simp at h
      · simp at h
    · simp at h
  · repeat' (split at h)
    all_goals first | exact nn rfl h | (simp at h; done)
  · unfold jK at h
    repeat' (split at h)
    all_goals first | exact nn rfl h | (simp at h; done)
  · unfold rW at h
    split at h
    · exact mp h
    · simp at h
  · unfold jH at h
    repeat' (split at h)
    all_goals first | exact nn rfl h | (simp at h; done)
  · split at h
    · exact pu h
    · unfold pK at h
      repeat' (split at h)
      all_goals first | exact nn rfl h | (simp at h; done)
  · unfold jB at h
    repeat' (split at h)
    all_goals first | exact nn rfl h | (simp at h; done)
  · repeat' (split at h)
    all_goals first | exact nn rfl h | (simp at h; done)
  · exact nn rfl h
  · unfold eQ at h
    simp only at h
    repeat' (split at h)
    all_goals first | exact nn rfl h | (simp at h; done)
  · unfold fa at h
    split at h
    · split at h
      · rename_i hH
        repeat' (split at h)
        all_goals first | exact up (by rw[hH]; simp) (by simp) h | (simp at h; done)
      · simp at h
    · simp at h
  · unfold fa at h
    split at h
    · split at h
      · rename_i hH
        repeat' (split at h)
        all_goals first | exact up (by rw[hH]; simp) (by simp) h | (simp at h; done)
      · simp at h
    · simp at h
  · unfold dY at h
    split at h
    · split at h
      · rename_i hH
        repeat' (split at h)
        all_goals first | exact up (by rw[hH]; simp) (by simp) h | (simp at h; done)
      · simp at h
    · simp at h
  · unfold j4 at h
    split at h
    · split at h
      · rename_i hH
        repeat' (split at h)
        all_goals first | exact up (by rw[hH]; simp) (by simp) h | (simp at h; done)
      · simp at h
    · simp at h
  · repeat' (split at h)
    all_goals first | exact nn rfl h | (simp at h; done)
  · repeat' (split at h)
    all_goals first | exact nn rfl h | (simp at h; done)
  · unfold yZ at h
    split at h
    · split at h
      · rename_i hH
        split at h
        · exact up (by rw[hH]; simp) (by simp) h
        · exact nn rfl h
      · simp at h
    · simp at h
  · split at h
    · unfold ko at h
      split at h
      · repeat' (split at h)
        all_goals first | exact mp h | exact nn rfl h | (simp at h; done)
      · repeat' (split at h)
        all_goals first | exact mp h | exact nn rfl h | (simp at h; done)
      · split at h
        · split at h
          · split at h
            · rename_i hH
              exact up (by rw[hH]; simp) (by simp) h
            · simp at h
          · simp at h
        · simp at h
      · simp at h
    · exact pu h
  · split at h
    · split at h
      · unfold qV at h
        repeat' (split at h)
        all_goals first | exact mp h | exact nn rfl h | (simp at h; done)
      · simp at h
    · split at h
      · unfold kH at h
        split at h
        · split at h
          · simp at h
          · split at h
            · split at h
              all_goals first | exact nn rfl h | (simp at h; done)
            · split at h
              · simp at h
              · split at h
                · split at h
                  · exact nn rfl h
                  · simp at h
                · split at h
                  · rename_i hH
                    split at h
                    · exact mv (by rw[hH]; simp) (by simp) h
                    · simp at h
                  · simp at h
                · simp at h
        · simp at h
      · split at h
        · unfold sQ at h
          split at h
          · split at h
            · split at h
              · exact nn rfl h
              · split at h
                · exact nn rfl h
                · simp at h
            · simp at h
          · simp at h
        · simp at h
    · split at h
      · unfold DU at h
        split at h
        · exact nn rfl h
        · simp at h
      · simp at h
    · split at h
      · unfold zN at h
        split at h
        · split at h
          · simp at h
          · split at h
            · exact nn rfl h
            · split at h
              · split at h
                · rename_i hH
                  split at h
                  · exact up (by rw[hH]; simp) (by simp) h
                  · simp at h
                · simp at h
              · simp at h
        · simp at h
      · simp at h
    · split at h
      · unfold sk at h
        split at h
        · split at h
          · rename_i hH
            repeat' (split at h)
            all_goals first | exact up (by rw[hH]; simp) (by simp) h | exact nn rfl h | (simp at h; done)
          · simp at h
        · simp at h
      · simp at h
    · split at h
      · unfold sg at h
        split at h
        · split at h
          · exact nn rfl h
          · split at h
            · split at h
              · rename_i hH
                split at h
                · exact up (by rw[hH]; simp) (by simp) h
                · simp at h
              · simp at h
            · simp at h
        · simp at h
      · simp at h
    · exact pu h
    · exact pu h
    · exact pu h
    · exact pu h
    · exact pu h
    · simp at h
  · split at h
    · split at h
      · exact nn rfl h
      · exact nn rfl h
      · simp at h
    · exact pu h
  · exact pu h
  · exact pu h
  · simp at h
section
variable {P:Program} {n:Nat} {all:List Oper} {Z:Nat→Prop} {μ:Mu} {w:World}
theorem fL.congr {H H':View} {hp:Array Obj} (h:fL Z μ hp H) (e:∀ id,μ id≠none→H' id=H id):fL Z μ hp H':=by
  refine ⟨fun id=>?_,fun i j b o s o' s' hij hi hj=>?_,h.lt,h.bZ,h.fq⟩
  · by_cases hm:μ id=none
    · cases hH:H' id with
      | dead=>trivial
      | arr esz es=>intro b o0 s hx; rw[hm] at hx; simp at hx
      | map es c=>intro b o0 s hx; rw[hm] at hx; simp at hx
      | td s p=>intro b o0 t hx; rw[hm] at hx; simp at hx
    · rw[e id hm]; exact h.obj id
  · rw[e i (by rw[hi]; simp),e j (by rw[hj]; simp)]
    exact h.inj i j b o s o' s' hij hi hj
def gO (H:View) (h h':aB) (wr:List Nat):View:=fun id=>if id∈wr∨(h.length≤id∧id < h'.length) then h'.view id else H id
theorem kb.ext {μ':Mu} {w':World} {eff:aY} {m:Nat} (he:kb Z μ μ' w.heap w'.heap m eff) (hs:dC w w') (hn:eff.fresh (μ m=none)) (bZ:∀ b,Z b→b < w.heap.size) (fq:∀ id b o s,μ id=some (b,o,s)→¬ Z b) :
    Ext Z μ w m Z μ' w'∧(∀ id,(∀ (_:¬ (match eff with | .new _ | .bj _ _=>id=m | _=>False)),μ' id=μ id)):=by
  have hm:=he.mono hn bZ fq
  cases eff with
  | none =>
    obtain ⟨rfl,ho⟩:=he
    exact ⟨⟨hs,hm,fun b hb _=>ho b hb (fun x=>x),fun _ h=>.inl h,fun _ _ _ _ h=>.inl h⟩,fun _ _=>rfl⟩
  | new o =>
    obtain ⟨b,o0,s,hb1,hb2,rfl,ho,_⟩:=he
    refine ⟨⟨hs,hm,fun b hb _=>ho b hb (fun x=>x),fun _ h=>.inl h,fun id b' o' s' hx=>?_⟩,fun id hid=>by simp[Mu.set]; intro e; exact absurd e hid⟩
    by_cases e:id=m
    · subst e; simp[Mu.set] at hx; exact .inr ⟨Nat.le_refl _,.inl (by omega)⟩
    · simp[Mu.set,e] at hx; exact .inl hx
  | eC id o =>
    obtain ⟨b,o0,s,hμ,rfl,ho,_,_⟩:=he
    exact ⟨⟨hs,hm,fun b' hb' hn'=>ho b' hb' (fun e=>hn' ⟨id,o0,s,e ▸ hμ⟩),fun _ h=>.inl h,fun _ _ _ _ h=>.inl h⟩,fun _ _=>rfl⟩
  | bj id o =>
    obtain ⟨b,o0,s,rfl,_,hc⟩:=he
    refine ⟨⟨hs,hm,?_,fun _ h=>.inl h,fun id' b' o' s' hx=>?_⟩,fun id hid=>by simp[Mu.set]; intro e; exact absurd e hid⟩
    · rcases hc with h1 | ⟨⟨o1,s1,hμ⟩,ho,_⟩
      · exact fun b' hb' _=>h1.2.2 b' hb' (fun x=>x)
      · exact fun b' hb' hn'=>ho b' hb' (fun e=>hn' ⟨id,o1,s1,e ▸ hμ⟩)
    · by_cases e:id'=m
      · subst e
        simp[Mu.set] at hx
        obtain ⟨rfl,_,_⟩:=hx
        rcases hc with h1 | ⟨⟨o1,s1,hμ⟩,_,_⟩
        · exact .inr ⟨Nat.le_refl _,.inl h1.1⟩
        · exact .inr ⟨Nat.le_refl _,.inr ⟨id,o1,s1,hμ⟩⟩
      · simp[Mu.set,e] at hx; exact .inl hx
theorem Dc {f:FuncId} {args:Array Value} (h:cR P f=true):(callFunc f args).run P w=.ok (.enter f args) w:=by
  unfold cR at h
  split at h
  · rename_i fn hfn
    simp only[Bool.and_eq_true,bne_iff_ne,ne_eq] at h
    have h1:(fn.name == "runtime.NumGoroutine")=false:=by simpa using h.1
    have h2:fn.body.isNone=false:=by cases hb:fn.body <;> simp_all
    have h3:¬ (fn.name = "runtime.NumGoroutine"):=by simpa using h.1
    have h4:¬ (fn.body=none):=by cases hb:fn.body <;> simp_all
    simp[callFunc,hfn,h3,h4]
  · simp at h
theorem ly {ops:Array Oper} (hops:ops=all.toArray) {a:Act} (hsz:a.tmps.size=n) {T:Env} {o:Oper} {t:Bool} (hg:cM n all T o=some t)
    (hguard:∀ j want d,o.guard=some (j,want)→(all[j]?).bind (·.dst)=some d→ay Z μ w.heap (T d) (a.tmps.getD d undef)):Region.wanted o (yielded ops a.tmps)=t:=by
  unfold cM at hg
  unfold Region.wanted
  cases hgd:o.guard with
  | none=>simp[hgd] at hg; subst hg; rfl
  | some p =>
    obtain ⟨j,want⟩:=p
    simp only[hgd] at hg ⊢
    cases hd:(all[j]?).bind (·.dst) with
    | none=>simp[hd] at hg
    | some d =>
      simp only[hd] at hg
      split at hg
      · rename_i hlt
        have hv:=hguard j want d hgd hd
        split at hg
        · rename_i b hb
          rw[hb] at hv
          have hv:=dM hv
          simp only[Option.some.injEq] at hg
          subst hg
          have hlt':d < a.tmps.size:=hsz ▸ hlt
          simp only[Array.getD_eq_getD_getElem?,Array.getElem?_eq_getElem hlt',Option.getD_some] at hv
          have:yielded ops a.tmps j=some b:=by
            unfold yielded
            subst hops
            simp only[List.getElem?_toArray,hd,Option.bind_some,Array.getElem?_eq_getElem hlt',hv]
          rw[this]
          cases b <;> cases want <;> rfl
        · rename_i hb
          rw[hb] at hv
          have hlt':d < a.tmps.size:=hsz ▸ hlt
          generalize hxe:a.tmps.getD d undef=x at hv
          cases hv with
          | bc _ aas h1 h2 =>
            simp only[Option.some.injEq] at hg
            subst hg
            have h3:a.tmps[d]?=some (.tuple aas):=by
              rw[Array.getElem?_eq_getElem hlt']
              simp only[Array.getD_eq_getD_getElem?,Array.getElem?_eq_getElem hlt',Option.getD_some] at hxe
              rw[hxe]
            have:yielded ops a.tmps j=none:=by
              unfold yielded
              subst hops
              simp only[List.getElem?_toArray,hd,Option.bind_some,h3]
            rw[this]
            rfl
        · simp at hg
      · simp at hg
theorem uW {ops:Array Oper} (hops:ops=all.toArray) {i:Nat} {o:Oper} (hi:ops[i]?=some o) {T:Env} {h h':aB} {v:V} {rd wr:List Nat} {call:Bool} (st:c5 P n all o T h v h' rd wr call) {a:Act} {H:View}
    (hsz:a.tmps.size=n) (hguard:∀ j want d,o.guard=some (j,want)→(all[j]?).bind (·.dst)=some d→ay Z μ w.heap (T d) (a.tmps.getD d undef))
    (hT:∀ x∈o.op.operands,ay Z μ w.heap (ev T x) (a.eval x)) (hr:fL Z μ w.heap H) (hrd:∀ id,id∈rd→μ id≠none→H id=h.view id)
    (hcall:call=true→∀ id,id < h.length→μ id≠none→H id=h.view id) (hnew:∀ id,h.length≤id→id < h'.length→μ id=none)
    {K:Act→World→Prop} {Q:Exit→Act→World→Prop}
    (hK:∀ x w' Z' μ',ay Z' μ' w'.heap v x→fL Z' μ' w'.heap (gO H h h' wr)→Ext Z μ w h.length Z' μ' w'→(∀ id,id < h.length∨h'.length≤id→μ' id=μ id)→K (a.put o.dst x) w') :
    wpOp P ops Q i K a w:=by
  unfold wpOp
  rw[hi]
  cases st with
  | skip hg =>
    have:=ly (w:=w) hops hsz hg hguard
    simp only[this,Bool.false_eq_true,if_false]
    refine hK undef w Z μ (.bc _ _ rfl (fun i hi=>by simp at hi)) (hr.congr fun id hid=>?_) (Ext.refl _ _ _ _) (fun _ _=>rfl)
    unfold gO
    rw[if_neg]
    rintro (h1 | h1)
    · simp at h1
    · omega
  | op hg hop =>
    rename_i eff
    have:=ly (w:=w) hops hsz hg hguard
    simp only[this,if_true]
    left
    have hlive:=km hop
    have hav:=jJ (fun id hid=>(hlive id hid).1)
    have hlen:=fh h eff
    have hmn:eff.fresh (μ h.length=none):=by
      cases eff with
      | new o=>exact hnew _ (Nat.le_refl _) (by rw[hlen]; simp)
      | bj k o=>exact hnew _ (Nat.le_refl _) (by rw[hlen]; simp)
      | _=>trivial
    · have hctx:Ctx Z μ w.heap h.view rd h.length eff:=by
        refine ⟨hmn,fun id hid=>?_,hr.lt,hr.bZ,hr.fq⟩
        by_cases hm:μ id=none
        · have:=(fL.congr (H':=fun k=>if k=id then h.view id else H k) hr (fun k hk=>by
            split
            · rename_i e; subst e; exact absurd hm hk
            · rfl)).obj id
          simpa using this
        · rw[← hrd id hid hm]; exact hr.obj id
      obtain ⟨nx,w',μ',hrun,hval,hsame,heff⟩:=NV hop hT hctx
      have hex:=heff.ext hsame hmn hr.bZ hr.fq
      have hview:fL Z μ' w'.heap (gO H h (eff.apply h) eff.wr):=by
        have hdead:∀ id,id∈eff.wr→μ id≠none→H id≠.dead:=fun id hid hm=>by
          rw[hrd id (hlive id hid).2 hm]; exact (hlive id hid).1
        have hmu:∀ id o,(eff=.eC id o∨eff=.bj id o)→H id≠.dead∨μ id=none:=by
          rintro id o (rfl | rfl)
          · by_cases hm:μ id=none
            · exact .inr hm
            · exact .inl (hdead id (by simp[aY.wr]) hm)
          · by_cases hm:μ id=none
            · exact .inr hm
            · exact .inl (hdead id (by simp[aY.wr]) hm)
        have h2:fL Z μ w.heap (fun k=>if μ k=none then .td .empty 0 else H k):=hr.congr (fun k hk=>by simp[hk])
        have h3:=h2.eff hmn hsame.size heff (fun id o e=>by
          split
          · simp
          · rename_i hk; exact (hmu id o (.inl e)).resolve_right hk) (fun id o e=>by
          split
          · simp
          · rename_i hk; exact (hmu id o (.inr e)).resolve_right hk)
        refine h3.congr (fun id hid=>?_)
        unfold gO
        rw[hav]
        cases eff with
        | none =>
          obtain ⟨rfl,_⟩:=heff
          simp only[aY.wr,aY.apply,aY.view,List.not_mem_nil,false_or]
          rw[if_neg (by omega),if_neg hid]
        | new o =>
          obtain ⟨b,o0,s,_,_,rfl,_⟩:=heff
          simp only[aY.wr,aY.view,View.set,List.not_mem_nil,false_or]
          by_cases e:id=h.length
          · subst e; rw[if_pos ⟨Nat.le_refl _,by rw[hlen]; simp⟩,if_pos rfl,if_pos rfl]
          · rw[if_neg (by rw[hlen]; simp only; omega),if_neg e]
            have:μ id≠none:=by simpa [Mu.set,e] using hid
            rw[if_neg this]
        | eC k o =>
          obtain ⟨b,o0,s,_,rfl,_⟩:=heff
          simp only[aY.wr,aY.view,View.set,List.mem_singleton]
          by_cases e:id=k
          · subst e; rw[if_pos (.inl rfl),if_pos rfl,if_pos rfl]
          · rw[if_neg (by rw[hlen]; simp only; omega),if_neg e,if_neg hid]
        | bj k o =>
          obtain ⟨b,o0,s,rfl,_⟩:=heff
          simp only[aY.wr,aY.view,View.set,List.mem_singleton]
          by_cases e:id=h.length
          · subst e; rw[if_pos (.inr ⟨Nat.le_refl _,by rw[hlen]; simp⟩),if_pos rfl,if_pos rfl]
          · by_cases e2:id=k
            · subst e2; rw[if_pos (.inl rfl),if_neg e,if_pos rfl,if_neg e,if_pos rfl]
            · rw[if_neg (by rw[hlen]; simp only; omega),if_neg e,if_neg e2]
              have:μ id≠none:=by simpa [Mu.set,e] using hid
              rw[if_neg this]
      have hfix:∀ id,id < h.length∨(eff.apply h).length≤id→μ' id=μ id:=by
        intro id hid
        refine hex.2 id (fun hc=>?_)
        cases eff with
        | none=>exact hc
        | new o=>simp only at hc; subst hc; rw[hlen] at hid; simp at hid; omega
        | eC k o=>exact hc
        | bj k o=>simp only at hc; subst hc; rw[hlen] at hid; simp at hid; omega
      unfold Oper.wp
      rw[hrun]
      rcases hval with ⟨x,rfl,hv⟩ | ⟨rfl,rfl⟩
      · exact hK x w' Z μ' hv hview hex.1 hfix
      · exact hK undef w' Z μ' (.any _) hview hex.1 hfix
  | gV hg ho hok =>
    rename_i e x
    have:=ly (w:=w) hops hsz hg hguard
    simp only[this,if_true]
    left
    have hx:=hT x (by rw[ho]; simp[Op.operands])
    have hcs:=fg hx hok
    have hrun:(execOp a.eval o).run P w=.ok (.value (.pointer (some ⟨w.heap.size,0,none⟩))) (w.alloc (.cells (a.eval x).cells e)):=by
      unfold execOp
      rw[ho]
      simp[Instr.box,newVar,newRow]
    unfold Oper.wp
    rw[hrun]
    have hob:eO w.heap (w.alloc (.cells (a.eval x).cells e)).heap (fun _=>False):=dF _ _
    have hsz':(w.alloc (.cells (a.eval x).cells e)).heap.size=w.heap.size+1:=by rw[heap_alloc]; simp
    have hm:fj Z (fun b=>Z b∨b=w.heap.size) μ μ w.heap (w.alloc (.cells (a.eval x).cells e)).heap:=⟨fun _ h=>.inl h,fun b hb=>hob b (hr.bZ b hb) (fun x=>x),fun _ _ h=>h,hob.nL⟩
    have hsame:dC w (w.alloc (.cells (a.eval x).cells e)):=gv _ _
    have hst:gO H h h []=H:=by
      funext id
      unfold gO
      rw[if_neg]
      rintro (h1 | h1)
      · simp at h1
      · omega
    refine hK _ _ (fun b=>Z b∨b=w.heap.size) μ ?_ (hst.symm ▸ ⟨fun id=>?_,hr.inj,fun id b o s hx=>Nat.lt_of_lt_of_le (hr.lt _ _ _ _ hx) hsame.size,fun b hb=>?_,fun id b o s hx hzb=>?_⟩)
      ⟨hsame,hm,fun b hb _=>hob b hb (fun x=>x),fun b hb=>?_,fun _ _ _ _ h=>.inl h⟩ (fun _ _=>rfl)
    · have:=ay.aU (Z:=fun b=>Z b∨b=w.heap.size) (μ:=μ) (hp:=(w.alloc (.cells (a.eval x).cells e)).heap) (ev T x).cells 0 w.heap.size 0 (fun k=>(a.eval x).cells.toList.getD k undef) (.inr rfl) (fun k hk=>?_) (fun k hk=>(hcs.2 k hk).mono hm)
      · simpa using this
      · have hk':k < (a.eval x).cells.size:=by have:=hcs.1; simp at this; omega
        simp[cellAt,heap_alloc,List.getD_eq_getElem?_getD,hk']
    · exact (hr.obj id).mono hm rfl (fun b o s hx=>hob b (hr.lt _ _ _ _ hx) (fun x=>x))
    · rcases hb with hb | rfl
      · exact Nat.lt_of_lt_of_le (hr.bZ b hb) hsame.size
      · omega
    · rcases hzb with hb | rfl
      · exact hr.fq _ _ _ _ hx hb
      · have:=hr.lt _ _ _ _ hx; omega
    · rcases hb with hb | rfl
      · exact .inl hb
      · exact .inr (Nat.le_refl _)
  | eS hg ho hs hd he hx0 =>
    rename_i s d e x st
    have:=ly (w:=w) hops hsz hg hguard
    simp only[this,if_true]
    left
    have hx:=hT x (by rw[ho]; simp[Op.operands])
    rw[hx0] at hx
    have hxe:=dM hx
    have hcap:st.size≤grownCap w st.size 0 e:=by unfold grownCap Question.cut; exact Nat.le_add_right _ _
    have hrun:=run_bytes_of_string w s d e st hs hd he
    generalize hcp:grownCap w st.size 0 e=cap at hrun hcap
    have hbs:(bytesRow st cap).size=cap:=by
      simp only[bytesRow,Array.size_append,Array.size_map,Array.size_replicate]
      have:st.data.size=st.size:=rfl
      omega
    have hrun':(execOp a.eval o).run P w=.ok (.value (.slice (some ⟨w.heap.size,0,none⟩) st.size cap)) (w.drew.alloc (.cells (bytesRow st cap) e (cap,cap+1))):=by
      unfold execOp
      rw[ho]
      simp only[hxe,Sem.run_bind,hrun,Result.andThen_ok,Sem.run_pure]
      rw[hbs]
    unfold Oper.wp
    rw[hrun']
    have hheap:(w.drew.alloc (.cells (bytesRow st cap) e (cap,cap+1))).heap=w.heap.push (.cells (bytesRow st cap) e (cap,cap+1)):=by rw[heap_alloc,dL]
    have hob:eO w.heap (w.drew.alloc (.cells (bytesRow st cap) e (cap,cap+1))).heap (fun _=>False):=by rw[hheap]; exact dF _ _
    have hsz':(w.drew.alloc (.cells (bytesRow st cap) e (cap,cap+1))).heap.size=w.heap.size+1:=by rw[hheap]; simp
    have hm:fj Z (fun b=>Z b∨b=w.heap.size) μ μ w.heap (w.drew.alloc (.cells (bytesRow st cap) e (cap,cap+1))).heap:=⟨fun _ h=>.inl h,fun b hb=>hob b (hr.bZ b hb) (fun x=>x),fun _ _ h=>h,hob.nL⟩
    have hsame:dC w (w.drew.alloc (.cells (bytesRow st cap) e (cap,cap+1))):=iQ _ _
    have hst:gO H h h []=H:=by
      funext id
      unfold gO
      rw[if_neg]
      rintro (h1 | h1)
      · simp at h1
      · omega
    refine hK _ _ (fun b=>Z b∨b=w.heap.size) μ ?_ (hst.symm ▸ ⟨fun id=>?_,hr.inj,fun id b o s hx=>Nat.lt_of_lt_of_le (hr.lt _ _ _ _ hx) hsame.size,fun b hb=>?_,fun id b o s hx hzb=>?_⟩)
      ⟨hsame,hm,fun b hb _=>hob b hb (fun x=>x),fun b hb=>?_,fun _ _ _ _ h=>.inl h⟩ (fun _ _=>rfl)
    · have hl:(fi st).length=st.size:=by rw[fi,List.length_map,bsize]
      have:=ay.aK (Z:=fun b=>Z b∨b=w.heap.size) (μ:=μ) (hp:=(w.drew.alloc (.cells (bytesRow st cap) e (cap,cap+1))).heap) (fi st) w.heap.size 0 1 cap (fun i _=>.int .u8 ((st.data.toList.getD i 0).toNat)) (.inr rfl) (by rw[hl]; exact hcap) ?_ ?_ ?_
      · rw[hl] at this; exact this
      · intro i hi
        have hi':i < st.data.toList.length:=by simpa [fi] using hi
        simp only[fi,List.getD_eq_getElem?_getD,List.getElem?_map,List.getElem?_eq_getElem hi',Option.map_some,Option.getD_some,List.length_cons,List.length_nil]
      · intro i j hi hj
        obtain rfl:j=0:=by omega
        have hi':i < st.data.size:=by simpa [fi] using hi
        rw[hheap]
        simp only[cellAt,Array.getElem?_push_size,bytesRow,Nat.mul_one,Nat.add_zero,Nat.zero_add]
        rw[Array.getElem?_append_left (by simpa using hi'),Array.getElem?_map,Array.getElem?_eq_getElem hi']
        simp[List.getD_eq_getElem?_getD,Array.getElem?_eq_getElem hi']
      · intro i j hi hj
        obtain rfl:j=0:=by omega
        have hi':i < st.data.size:=by simpa [fi] using hi
        simp only[fi,List.getD_eq_getElem?_getD,List.getElem?_map,Array.getElem?_toList,Array.getElem?_eq_getElem hi',Option.map_some,Option.getD_some,List.getElem?_cons_zero]
        exact .val _ rfl
    · exact (hr.obj id).mono hm rfl (fun b o s hx=>hob b (hr.lt _ _ _ _ hx) (fun x=>x))
    · rcases hb with hb | rfl
      · exact Nat.lt_of_lt_of_le (hr.bZ b hb) hsame.size
      · omega
    · rcases hzb with hb | rfl
      · exact hr.fq _ _ _ _ hx hb
      · have:=hr.lt _ _ _ _ hx; omega
    · rcases hb with hb | rfl
      · exact .inl hb
      · exact .inr (Nat.le_refl _)
  | call hg ho hf hok hc hw hwl =>
    rename_i f args ats g first cap
    have:=ly (w:=w) hops hsz hg hguard
    simp only[this,if_true]
    left
    have hargs:∀ x∈args.toList,ay Z μ w.heap (ev T x) (a.eval x):=fun x hx=>hT x (by rw[ho]; simp[Op.operands,Call.operands]; right; simpa using hx)
    have hfv:=hT f (by rw[ho]; simp[Op.operands,Call.operands])
    rw[hf] at hfv
    generalize hfe:a.eval f=fx at hfv
    cases hfv with
    | fn _ _ _ aas bs h1 h2 h3 h4 =>
      have hrun:(execOp a.eval o).run P w=.ok (.enter g (aas ++ args.map a.eval ++ bs)) w:=by
        unfold execOp
        rw[ho]
        simp only[resolve,hfe,Deferred.ofValue,Sem.run_bind,Sem.run_pure,Result.andThen_ok,invoke,Dc hok]
      unfold Oper.wp
      rw[hrun]
      show Calls P g (aas ++ args.map a.eval ++ bs) w _
      have hxs:(aas ++ args.map a.eval ++ bs)=(aas.toList ++ args.toList.map a.eval ++ bs.toList).toArray:=by
        apply Array.ext'; simp
      rw[hxs]
      have hrels:dR Z μ w.heap (first ++ args.toList.map (ev T) ++ cap) (aas.toList ++ args.toList.map a.eval ++ bs.toList):=by
        have app:∀ {p q:List V} {x y:List Value},dR Z μ w.heap p x→dR Z μ w.heap q y→dR Z μ w.heap (p ++ q) (x ++ y):=by
          intro p q x y hp hq
          refine ⟨by simp[hp.1,hq.1],fun k hk=>?_⟩
          simp only[List.getD_eq_getElem?_getD]
          by_cases hkl:k < p.length
          · rw[List.getElem?_append_left hkl,List.getElem?_append_left (hp.1 ▸ hkl)]
            simpa only [List.getD_eq_getElem?_getD] using hp.2 k hkl
          · rw[List.getElem?_append_right (by omega),List.getElem?_append_right (by rw[← hp.1]; omega),← hp.1]
            simpa only [List.getD_eq_getElem?_getD] using hq.2 (k - p.length) (by simp at hk; omega)
        refine app (app ⟨by simpa using h1,fun k hk=>?_⟩ ⟨by simp,fun k hk=>?_⟩) ⟨by simpa using h2,fun k hk=>?_⟩
        · simpa [List.getD_eq_getElem?_getD,Array.getD_eq_getD_getElem?] using h3 k hk
        · have hk':k < args.toList.length:=by simpa using hk
          have:=hargs args.toList[k] (List.getElem_mem _)
          simp only[List.getD_eq_getElem?_getD,List.getElem?_map,List.getElem?_eq_getElem hk',Option.map_some,Option.getD_some]
          exact this
        · simpa [List.getD_eq_getElem?_getD,Array.getD_eq_getD_getElem?] using h4 k hk
      have hcat:fL Z μ w.heap (cat h H):=hr.congr (fun id hid=>by
        unfold cat; split
        · rename_i hlt; exact (hcall rfl id hlt hid).symm
        · rfl)
      refine (hc.2 Z μ H w _ hrels hcat hnew).mono ?_
      rintro e w' ⟨x,Z',μ',rfl,hv,hh,hex,hfix⟩
      refine hK x w' Z' μ' hv (hh.congr fun id hid=>?_) hex hfix
      unfold gO cat
      by_cases hwr:id∈wr∨(h.length≤id∧id < h'.length)
      · rw[if_pos hwr]
        rcases hwr with h5 | h5
        · by_cases hl:id < h'.length
          · rw[if_pos hl]
          · exact absurd (Nat.lt_of_lt_of_le (hwl id h5) hc.1) hl
        · rw[if_pos h5.2]
      · rw[if_neg hwr]
        by_cases hl:id < h'.length
        · rw[if_pos hl]
          have hl2:id < h.length:=by
            rcases Nat.lt_or_ge id h.length with h6 | h6
            · exact h6
            · exact absurd (.inr ⟨h6,hl⟩) hwr
          rw[hw id hl2 (fun q=>hwr (.inl q))]
          exact hcall rfl id hl2 (by rw[← hfix id (.inl hl2)]; exact hid)
        · rw[if_neg hl]
end
structure Rec where
  rd:List Nat
  wr:List Nat
  call:Bool
  lo:Nat
  hi:Nat
inductive Tr (P:Program) (n:Nat) (all:List Oper):List Oper→Env→aB→List Rec→Env→aB→Prop
  | nil {T:Env} {h:aB} : Tr P n all [] T h [] T h
  | cons {o:Oper} {rest:List Oper} {T T':Env} {h h1 h':aB} {v:V} {rd wr:List Nat} {call:Bool} {recs:List Rec} : c5 P n all o T h v h1 rd wr call→oQ n o=true →
      Tr P n all rest (T.put o.dst v) h1 recs T' h'→Tr P n all (o :: rest) T h (⟨rd,wr,call,h.length,h1.length⟩ :: recs) T' h'
def mask (o:Oper) (acc:List Nat):Nat:=o.after.toList.foldl (fun s e=>if Region.binds .any e then s ||| 2 ^ e.on ||| acc.getD e.on 0 else s) 0
def er:List Oper→List Nat→List Nat
  | [],acc=>acc
  | o :: r,acc=>er r (acc ++ [mask o acc])
def tmpsOf (o:Oper):List Nat:=o.op.operands.toList.filterMap fun | .tmp t=>some t | _=>none
def lq (all:List Oper) (o:Oper):List Nat:=o.dst.toList ++ tmpsOf o ++ (match o.guard with
  | some (j,_)=>((all[j]?).bind (·.dst)).toList
  | none=>[])
def HR (d:Option Nat) (l:List Nat):Bool:=match d with
  | some t=>!l.contains t
  | none=>true
def ordered (b:List Nat) (i k:Nat):Bool:=(b.getD k 0).testBit i
def j5 (all:List Oper):Bool :=
  let b:=er all []
  all.zipIdx.all fun (ok,k) =>
    (ok.after.toList.all fun e=>!Region.binds .any e || decide (e.on < k)) &&
    all.zipIdx.all fun (oi,i)=>!decide (i < k) || ordered b i k || (HR oi.dst (lq all ok) && HR ok.dst (lq all oi))
structure lE (a b:Rec):Prop where
  Oo:∀ id,id∈a.wr→¬ id∈b.rd
  Nq:∀ id,id∈b.wr→¬ id∈a.rd
  Oc:a.call=true→b.wr=[]
  call2:b.call=true→a.wr=[]
  new:∀ id,id∈b.wr→¬ (a.lo≤id∧id < a.hi)
def qS (all:List Oper) (recs:List Rec):Prop:=∀ i k a b,i < k→recs[i]?=some a→recs[k]?=some b→ordered (er all []) i k=false→lE a b
theorem Bh (l:List Edge) (acc:List Nat) (s j:Nat):(l.foldl (fun s e=>if Region.binds .any e then s ||| 2 ^ e.on ||| acc.getD e.on 0 else s) s).testBit j=true →
    s.testBit j=true∨∃ e∈l,Region.binds .any e=true∧(j=e.on∨(acc.getD e.on 0).testBit j=true):=by
  induction l generalizing s with
  | nil=>intro h; exact .inl h
  | cons e l ih =>
    intro h
    simp only[List.foldl_cons] at h
    rcases ih _ h with h1 | ⟨e',he',h2⟩
    · by_cases hb:Region.binds .any e=true
      · rw[if_pos hb,Nat.testBit_or,Nat.testBit_or,Nat.testBit_two_pow] at h1
        simp only[Bool.or_eq_true,decide_eq_true_eq] at h1
        rcases h1 with (h1 | h1) | h1
        · exact .inl h1
        · exact .inr ⟨e,List.mem_cons_self,hb,.inl h1.symm⟩
        · exact .inr ⟨e,List.mem_cons_self,hb,.inr h1⟩
      · rw[if_neg hb] at h1; exact .inl h1
    · exact .inr ⟨e',List.mem_cons_of_mem _ he',h2⟩
theorem x5:∀ (l:List Oper) (acc:List Nat) (k:Nat),k < acc.length→(er l acc).getD k 0=acc.getD k 0
  | [],acc,k,_=>rfl
  | o :: r,acc,k,h=>by
    rw[er,x5 r _ k (by simp; omega)]
    simp[List.getD_eq_getElem?_getD,List.getElem?_append_left h]
theorem Ac:∀ (l:List Oper) (acc:List Nat) (k:Nat) (o:Oper),l[k]?=some o→∃ acc',(er l acc).getD (acc.length+k) 0=mask o acc'∧acc'.length=acc.length+k∧∀ m,m < acc'.length→acc'.getD m 0=(er l acc).getD m 0
  | [],acc,k,o,h=>by simp at h
  | p :: r,acc,0,o,h=>by
    simp at h; subst h
    refine ⟨acc,?_,by simp,fun m hm=>?_⟩
    · rw[er,x5 r _ _ (by simp)]
      simp[List.getD_eq_getElem?_getD]
    · rw[er,x5 r _ _ (by simp; omega)]
      simp[List.getD_eq_getElem?_getD,List.getElem?_append_left hm]
  | p :: r,acc,k+1,o,h=>by
    have h':r[k]?=some o:=by simpa using h
    obtain ⟨acc',h1,h2,h3⟩:=Ac r (acc ++ [mask p acc]) k o h'
    refine ⟨acc',?_,by simp at h2; omega,fun m hm=>?_⟩
    · rw[er]
      have e:(acc ++ [mask p acc]).length+k=acc.length+(k+1):=by simp; omega
      rw[← e]; exact h1
    · rw[er]; exact h3 m hm
theorem tE {all:List Oper} {L:Nat→Prop} (hb:∀ k o,all[k]?=some o→∀ e∈o.after.toList,Region.binds .any e=true→e.on < k)
    (hL:∀ k o,all[k]?=some o→L k→∀ e∈o.after.toList,Region.binds .any e=true→L e.on):∀ k o j,all[k]?=some o→L k→ordered (er all []) j k=true→L j:=by
  intro k
  induction k using Nat.strongRecOn with
  | _ k ih =>
    intro o j hk hLk ho
    unfold ordered at ho
    obtain ⟨acc',h1,h2,h3⟩:=Ac all [] k o hk
    simp only[List.length_nil,Nat.zero_add] at h1 h2
    rw[h1] at ho
    rcases Bh _ _ _ _ ho with h4 | ⟨e,he,hbe,h4⟩
    · simp at h4
    · have hlt:=hb k o hk e he hbe
      have hLe:=hL k o hk hLk e he hbe
      rcases h4 with h4 | h4
      · rw[h4]; exact hLe
      · have hklt:k < all.length:=by
          rcases Nat.lt_or_ge k all.length with h5 | h5
          · exact h5
          · simp[List.getElem?_eq_none h5] at hk
        refine ih e.on hlt _ j (List.getElem?_eq_getElem (by omega)) hLe ?_
        unfold ordered
        rw[← h3 e.on (by omega)]
        exact h4
theorem DP {all:List Oper} {L:Nat→Prop} (hb:∀ k o,all[k]?=some o→∀ e∈o.after.toList,Region.binds .any e=true→e.on < k)
    (hL:∀ k o,all[k]?=some o→L k→∀ e∈o.after.toList,Region.binds .any e=true→L e.on) {k:Nat} {o:Oper} (hk:all[k]?=some o) (hr:∀ e∈o.after.toList,Region.binds .any e=true→L e.on)
    {j:Nat} (ho:ordered (er all []) j k=true):L j:=by
  unfold ordered at ho
  obtain ⟨acc',h1,h2,h3⟩:=Ac all [] k o hk
  simp only[List.length_nil,Nat.zero_add] at h1 h2
  rw[h1] at ho
  rcases Bh _ _ _ _ ho with h4 | ⟨e,he,hbe,h4⟩
  · simp at h4
  · have hlt:=hb k o hk e he hbe
    have hLe:=hr e he hbe
    rcases h4 with h4 | h4
    · rw[h4]; exact hLe
    · have hklt:k < all.length:=by
        rcases Nat.lt_or_ge k all.length with h5 | h5
        · exact h5
        · simp[List.getElem?_eq_none h5] at hk
      refine tE hb hL e.on _ j (List.getElem?_eq_getElem (by omega)) hLe ?_
      unfold ordered
      rw[← h3 e.on (by omega)]
      exact h4
theorem Fa {all:List Oper} (h:j5 all=true):(∀ k o,all[k]?=some o→∀ e∈o.after.toList,Region.binds .any e=true→e.on < k) ∧
    ∀ i k oi ok,i < k→all[i]?=some oi→all[k]?=some ok→ordered (er all []) i k=false→(∀ t,oi.dst=some t→¬ t∈lq all ok)∧(∀ t,ok.dst=some t→¬ t∈lq all oi):=by
  unfold j5 at h
  have mem:∀ k o,all[k]?=some o→(o,k)∈all.zipIdx:=by
    intro k o hk
    rw[List.mem_zipIdx_iff_getElem?]; exact hk
  refine ⟨fun k o hk e he hb=>?_,fun i k oi ok hik hi hk ho=>?_⟩
  · have:=List.all_eq_true.1 h _ (mem k o hk)
    simp only[Bool.and_eq_true] at this
    have:=List.all_eq_true.1 this.1 e he
    simpa [hb] using this
  · have:=List.all_eq_true.1 h _ (mem k ok hk)
    simp only[Bool.and_eq_true] at this
    have:=List.all_eq_true.1 this.2 _ (mem i oi hi)
    simp only[hik,decide_true,Bool.not_true,Bool.false_or,ho,Bool.and_eq_true] at this
    have dj:∀ (d:Option Nat) (l:List Nat),HR d l=true→∀ t,d=some t→¬ t∈l:=by
      intro d l hd t ht
      subst ht
      simpa [HR] using hd
    exact ⟨dj _ _ this.1,dj _ _ this.2⟩
theorem Bd {P:Program} {n:Nat} {all:List Oper} : ∀ (l:List Oper) (T:Env) (h:aB) (recs:List Rec) (T':Env) (h':aB),Tr P n all l T h recs T' h' →
    recs.length=l.length∧∃ (Ts:Nat→Env) (hs:Nat→aB) (vs:Nat→V),Ts 0=T∧hs 0=h∧Ts l.length=T'∧hs l.length=h' ∧
      ∀ i o r,l[i]?=some o→recs[i]?=some r→c5 P n all o (Ts i) (hs i) (vs i) (hs (i+1)) r.rd r.wr r.call∧oQ n o=true∧Ts (i+1)=(Ts i).put o.dst (vs i)∧r.lo=(hs i).length∧r.hi=(hs (i+1)).length:=by
  intro l T h recs T' h' tr
  induction tr with
  | nil=>exact ⟨rfl,fun _=>_,fun _=>_,fun _=>.any,rfl,rfl,rfl,rfl,fun i o r h=>by simp at h⟩
  | @cons o rest T T' h h1 h' v rd wr call recs hst hd _ ih =>
    obtain ⟨hl,Ts,hs,vs,e1,e2,e3,e4,hi⟩:=ih
    refine ⟨by simp[hl],fun i=>match i with | 0=>T | i+1=>Ts i,fun i=>match i with | 0=>h | i+1=>hs i,fun i=>match i with | 0=>v | i+1=>vs i,rfl,rfl,e3,e4,?_⟩
    intro i o' r ho hr
    cases i with
    | zero =>
      simp at ho hr
      subst ho hr
      exact ⟨by simpa only [e1,e2] using hst,hd,by simp only[e1],rfl,by simp only[e2]⟩
    | succ i =>
      exact hi i o' r (by simpa using ho) (by simpa using hr)
theorem qk {P:Program} {n:Nat} {all:List Oper} {o:Oper} {T:Env} {h h':aB} {v:V} {rd wr:List Nat} {call:Bool} (st:c5 P n all o T h v h' rd wr call):h.length≤h'.length:=by
  cases st with
  | skip=>exact Nat.le_refl _
  | op _ _=>rw[fh]; exact Nat.le_add_right _ _
  | gV _ _ _=>exact Nat.le_refl _
  | eS _ _ _ _ _ _=>exact Nat.le_refl _
  | call _ _ _ _ hc _ _=>exact hc.1
theorem oH {P:Program} {n:Nat} {all:List Oper} {o:Oper} {T:Env} {h h':aB} {v:V} {rd wr:List Nat} {call:Bool} (st:c5 P n all o T h v h' rd wr call) {id:Nat} (hid:id < h.length) (hw:¬ id∈wr):h'.view id=h.view id:=by
  cases st with
  | skip=>rfl
  | op hg hop =>
    rename_i eff
    rw[jJ (fun id hid=>(km hop id hid).1)]
    cases eff with
    | none=>rfl
    | new o=>simp only[aY.view,View.set]; rw[if_neg (by omega)]
    | eC k o=>simp only[aY.view,View.set]; rw[if_neg (fun e=>hw (by simp[aY.wr,e]))]
    | bj k o=>simp only[aY.view,View.set]; rw[if_neg (by omega),if_neg (fun e=>hw (by simp[aY.wr,e]))]
  | gV _ _ _=>rfl
  | eS _ _ _ _ _ _=>rfl
  | call _ _ _ _ _ hv _=>exact hv id hid hw
theorem sX {P:Program} {n:Nat} {all:List Oper} {o:Oper} {T:Env} {h h':aB} {v:V} {rd wr:List Nat} {call:Bool} (st:c5 P n all o T h v h' rd wr call) {id:Nat} (hw:id∈wr):id < h.length∧(call=false→id∈rd):=by
  cases st with
  | skip=>simp at hw
  | op hg hop=>exact ⟨fU (km hop id hw).1,fun _=>(km hop id hw).2⟩
  | gV _ _ _=>simp at hw
  | eS _ _ _ _ _ _=>simp at hw
  | call _ _ _ _ _ _ hl=>exact ⟨hl id hw,fun h=>by simp at h⟩
theorem Ds {H:View} {x:V} {xs:List (List V)} {rd:List Nat} (h:bG H x=some (xs,rd)):∀ id,id∈rd→H id≠.dead:=by
  intro id hid
  unfold bG at h
  split at h
  · simp at h; rw[h.2] at hid; simp at hid
  · simp at h; rw[h.2] at hid; simp at hid
  · simp at h; rw[h.2] at hid; simp at hid
  · simp at h; rw[h.2] at hid; simp at hid
  · split at h
    · rename_i hH
      split at h
      · simp at h; rw[← h.2] at hid; simp at hid; subst hid; rw[hH]; simp
      · simp at h
    · simp at h
  · simp at h; rw[h.2] at hid; simp at hid
  · simp at h
theorem Nj {P:Program} {o:Oper} {T:Env} {H:View} {n:Nat} {v:V} {eff:aY} {rd:List Nat} (h:bT P o T H n=some (v,eff,rd)):∀ id,id∈rd→H id≠.dead:=by
  have nn:∀ {v':V} {e:aY},some (v',e,([]:List Nat))=some (v,eff,rd)→∀ id,id∈rd→H id≠.dead:=by
    intro v' e heq id hid
    simp only[Option.some.injEq,Prod.mk.injEq] at heq
    rw[← heq.2.2] at hid; simp at hid
  have one:∀ {k:Nat} {v':V} {e:aY},H k≠.dead→some (v',e,[k])=some (v,eff,rd)→∀ id,id∈rd→H id≠.dead:=by
    intro k v' e hk heq id hid
    simp only[Option.some.injEq,Prod.mk.injEq] at heq
    rw[← heq.2.2] at hid; simp at hid; subst hid; exact hk
  have mp:∀ {α:Type} {x:Option α} {f:α→V},(x.map fun a=>(f a,aY.none,([]:List Nat)))=some (v,eff,rd)→∀ id,id∈rd→H id≠.dead:=by
    intro α x f h
    simp only[Option.map_eq_some_iff] at h
    obtain ⟨a,_,h⟩:=h
    exact nn (congrArg some h)
  have mp1:∀ {α:Type} {x:Option α} {f:α→V} {k:Nat},H k≠.dead→(x.map fun a=>(f a,aY.none,[k]))=some (v,eff,rd)→∀ id,id∈rd→H id≠.dead:=by
    intro α x f k hk h
    simp only[Option.map_eq_some_iff] at h
    obtain ⟨a,_,h⟩:=h
    exact one hk (congrArg some h)
  have pu:c4 P o T=some (v,eff,rd)→∀ id,id∈rd→H id≠.dead:=by
    intro h
    unfold c4 at h
    repeat' (split at h)
    all_goals first | exact nn h | (simp at h; done)
  have bx:∀ {cs:List V},j0 cs n=some (v,eff,rd)→∀ id,id∈rd→H id≠.dead:=by
    intro cs h
    unfold j0 at h
    split at h
    · exact nn h
    · simp at h
  have ell:∀ {x:V} {xs:List (List V)} {r:List Nat} {v':V} {e:aY},bG H x=some (xs,r)→some (v',e,r)=some (v,eff,rd)→∀ id,id∈rd→H id≠.dead:=by
    intro x xs r v' e he heq id hid
    simp only[Option.some.injEq,Prod.mk.injEq] at heq
    rw[← heq.2.2] at hid
    exact Ds he id hid
  have elc:∀ {x:V} {xs:List (List V)} {r:List Nat} {v':V} {e:aY} {k:Nat},bG H x=some (xs,r)→H k≠.dead→some (v',e,k :: r)=some (v,eff,rd)→∀ id,id∈rd→H id≠.dead:=by
    intro x xs r v' e k he hk heq id hid
    simp only[Option.some.injEq,Prod.mk.injEq] at heq
    rw[← heq.2.2] at hid
    rcases List.mem_cons.1 hid with h1 | h1
    · subst h1; exact hk
    · exact Ds he id h1
  unfold bT at h
  split at h
  · exact nn h
  · exact nn h
  · split at h
    · exact nn h
    · simp at h
  · split at h
    · exact bx h
    · simp at h
  · exact bx h
  · unfold rl at h
    split at h
    · split at h
      · exact mp h
      · simp at h
    · simp at h
  · unfold fN at h
    repeat' (split at h)
    all_goals first | exact nn h | (simp at h; done)
  · unfold kh at h
    split at h
    · split at h
      · rename_i hH
        split at h
        · exact mp1 (by rw[hH]; simp) h
        · simp at h
      · simp at h
    · exact mp h
    · simp at h
  · unfold nq at h
    split at h
    · split at h
      · rename_i hH
        split at h
        · exact one (by rw[hH]; simp) h
        · simp at h
      · simp at h
    · simp at h
  · repeat' (split at h)
    all_goals first | exact nn h | (simp at h; done)
  · unfold jK at h
    repeat' (split at h)
    all_goals first | exact nn h | (simp at h; done)
  · unfold rW at h
    split at h
    · exact mp h
    · simp at h
  · unfold jH at h
    repeat' (split at h)
    all_goals first | exact nn h | (simp at h; done)
  · split at h
    · exact pu h
    · unfold pK at h
      repeat' (split at h)
      all_goals first | exact nn h | (simp at h; done)
  · unfold jB at h
    repeat' (split at h)
    all_goals first | exact nn h | (simp at h; done)
  · repeat' (split at h)
    all_goals first | exact nn h | (simp at h; done)
  · exact nn h
  · unfold eQ at h
    simp only at h
    split at h
    · simp at h
    · split at h
      · simp at h
      · split at h
        · split at h
          · rename_i hH
            repeat' (split at h)
            all_goals first | exact one (by rw[hH]; simp) h | (simp at h; done)
          · simp at h
        · simp at h
  · unfold fa at h
    split at h
    · split at h
      · rename_i hH
        repeat' (split at h)
        all_goals first | exact one (by rw[hH]; simp) h | (simp at h; done)
      · simp at h
    · simp at h
  · unfold fa at h
    split at h
    · split at h
      · rename_i hH
        repeat' (split at h)
        all_goals first | exact one (by rw[hH]; simp) h | (simp at h; done)
      · simp at h
    · simp at h
  · unfold dY at h
    split at h
    · split at h
      · rename_i hH
        repeat' (split at h)
        all_goals first | exact one (by rw[hH]; simp) h | (simp at h; done)
      · simp at h
    · simp at h
  · unfold j4 at h
    split at h
    · split at h
      · rename_i hH
        repeat' (split at h)
        all_goals first | exact one (by rw[hH]; simp) h | (simp at h; done)
      · simp at h
    · simp at h
  · repeat' (split at h)
    all_goals first | exact nn h | (simp at h; done)
  · repeat' (split at h)
    all_goals first | exact nn h | (simp at h; done)
  · unfold yZ at h
    split at h
    · split at h
      · rename_i hH
        split at h
        · exact one (by rw[hH]; simp) h
        · exact one (by rw[hH]; simp) h
      · simp at h
    · simp at h
  · split at h
    · unfold ko at h
      split at h
      · split at h
        · split at h
          · rename_i he _
            simp only[Option.map_eq_some_iff] at h
            obtain ⟨a,_,h⟩:=h
            exact ell he (congrArg some h)
          · simp at h
        · simp at h
      · repeat' (split at h)
        all_goals first | exact nn h | (simp at h; done)
      · split at h
        · split at h
          · split at h
            · rename_i hH
              exact one (by rw[hH]; simp) h
            · simp at h
          · simp at h
        · simp at h
      · simp at h
    · exact pu h
  · split at h
    · split at h
      · unfold qV at h
        split at h
        · exact mp h
        · split at h
          · split at h
            · rename_i hH
              exact one (by rw[hH]; simp) h
            · simp at h
          · exact nn h
          · simp at h
        · repeat' (split at h)
          all_goals first | exact nn h | (simp at h; done)
        · exact nn h
        · simp at h
      · simp at h
    · split at h
      · unfold kH at h
        split at h
        · rename_i hel
          split at h
          · simp at h
          · split at h
            · split at h
              all_goals first | exact nn h | (simp at h; done)
            · split at h
              · simp at h
              · split at h
                · split at h
                  · exact ell hel h
                  · simp at h
                · split at h
                  · rename_i hH
                    split at h
                    · exact elc hel (by rw[hH]; simp) h
                    · simp at h
                  · simp at h
                · simp at h
        · simp at h
      · split at h
        · unfold sQ at h
          split at h
          · split at h
            · split at h
              · exact nn h
              · split at h
                · exact nn h
                · simp at h
            · simp at h
          · simp at h
        · simp at h
    · split at h
      · unfold DU at h
        split at h
        · exact nn h
        · simp at h
      · simp at h
    · split at h
      · unfold zN at h
        split at h
        · rename_i hel _
          split at h
          · simp at h
          · split at h
            · exact nn h
            · split at h
              · split at h
                · rename_i hH
                  split at h
                  · exact elc hel (by rw[hH]; simp) h
                  · simp at h
                · simp at h
              · simp at h
        · simp at h
      · simp at h
    · split at h
      · unfold sk at h
        split at h
        · split at h
          · rename_i hH
            repeat' (split at h)
            all_goals first | exact one (by rw[hH]; simp) h | (simp at h; done)
          · simp at h
        · simp at h
      · simp at h
    · split at h
      · unfold sg at h
        split at h
        · split at h
          · exact nn h
          · split at h
            · split at h
              · rename_i hH
                split at h
                · exact one (by rw[hH]; simp) h
                · simp at h
              · simp at h
            · simp at h
        · simp at h
      · simp at h
    · exact pu h
    · exact pu h
    · exact pu h
    · exact pu h
    · exact pu h
    · simp at h
  · split at h
    · split at h
      · exact nn h
      · exact nn h
      · simp at h
    · exact pu h
  · exact pu h
  · exact pu h
  · simp at h
theorem xJ {P:Program} {n:Nat} {all:List Oper} {o:Oper} {T:Env} {h h':aB} {v:V} {rd wr:List Nat} {call:Bool} (st:c5 P n all o T h v h' rd wr call) {id:Nat} (hw:id∈rd):id < h.length:=by
  cases st with
  | skip=>simp at hw
  | op hg hop=>exact fU (Nj hop id hw)
  | gV _ _ _=>simp at hw
  | eS _ _ _ _ _ _=>simp at hw
  | call _ _ _ _ _ _ hl=>simp at hw
structure nF (n:Nat) (Z:Nat→Prop) (μ:Mu) (F:View) (T:Env) (h:aB) (a:Act) (w:World):Prop where
  defers:a.defers=[]
  size:a.tmps.size=n
  tm:∀ t,ay Z μ w.heap (T t) (a.tmps.getD t undef)
  hr:fL Z μ w.heap (cat h F)
def cq (P:Program) (n:Nat) (c:Code) (T:Env) (h:aB) (e:Exit) (T':Env) (h':aB):Prop :=
  h.length≤h'.length∧∀ Z μ F a w,(∀ id,h.length≤id→id < h'.length→μ id=none)→nF n Z μ F T h a w →
    c.wp P (fun e' a' w'=>e'=e∧∃ Z' μ',nF n Z' μ' F T' h' a' w'∧Ext Z μ w h.length Z' μ' w'∧(∀ id,id < h.length∨h'.length≤id→μ' id=μ id)) a w
section
variable {P:Program} {n:Nat} {all:List Oper}
theorem Fc {Z:Nat→Prop} {μ:Mu} {w:World} {T:Env} {a:Act} {o:Oper} (h:∀ t,t∈tmpsOf o→ay Z μ w.heap (T t) (a.tmps.getD t undef)):∀ x∈o.op.operands,ay Z μ w.heap (ev T x) (a.eval x):=by
  intro x hx
  cases x with
  | tmp t=>exact h t (by simp only[tmpsOf,List.mem_filterMap]; exact ⟨.tmp t,by simpa using hx,rfl⟩)
  | const v=>exact fe v
  | global g=>exact .any _
  | func f=>exact .fn f [] [] #[] #[] rfl rfl (fun i hi=>by simp at hi) (fun i hi=>by simp at hi)
theorem Fo {hs:Nat→aB} {N:Nat} (h:∀ i,i < N→(hs i).length≤(hs (i+1)).length):∀ i j,i≤j→j≤N→(hs i).length≤(hs j).length:=by
  intro i j hij
  induction hij with
  | refl=>intro _; exact Nat.le_refl _
  | step _ ih=>intro hj; exact Nat.le_trans (ih (by omega)) (h _ (by omega))
theorem vX {Ts:Nat→Env} {vs:Nat→V} {N t:Nat} (hT:∀ i o,all[i]?=some o→Ts (i+1)=(Ts i).put o.dst (vs i)) (hN:N=all.length):∀ i j,i≤j→j≤N→(∀ k o,i≤k→k < j→all[k]?=some o→o.dst≠some t)→Ts j t=Ts i t:=by
  intro i j hij
  induction hij with
  | refl=>intro _ _; rfl
  | step hle ih =>
    rename_i m
    intro hj hno
    have hm:m < all.length:=by omega
    rw[hT m all[m] (List.getElem?_eq_getElem hm)]
    have hd:=hno m all[m] hle (by omega) (List.getElem?_eq_getElem hm)
    have:(Env.put (Ts m) (all[m]).dst (vs m)) t=Ts m t:=by
      cases hdd:(all[m]).dst with
      | none=>rfl
      | some d =>
        simp only[Env.put]
        rw[if_neg (fun e=>hd (by rw[hdd,e]))]
    rw[this]
    exact ih (by omega) (fun k o h1 h2 h3=>hno k o h1 (by omega) h3)
def x7 (P:Program) (n:Nat) (all:List Oper) (recs:List Rec) (Ts:Nat→Env) (hs:Nat→aB) (vs:Nat→V):Prop:=∀ i o r,all[i]?=some o→recs[i]?=some r →
  c5 P n all o (Ts i) (hs i) (vs i) (hs (i+1)) r.rd r.wr r.call∧oQ n o=true∧Ts (i+1)=(Ts i).put o.dst (vs i)∧r.lo=(hs i).length∧r.hi=(hs (i+1)).length
structure Bears (P:Program) (n:Nat) (all:List Oper) (Ts:Nat→Env) (hs:Nat→aB) (vs:Nat→V) (i k:Nat) (o:Oper) (a b:Rec):Prop where
  wr:a.wr=[]
  call:a.call=false
  len:a.lo=a.hi
  step:∀ g:aB,g.length=(hs i).length→(∀ id,id < (hs i).length→g.view id=if id∈b.wr then (hs (k+1)).view id else (hs i).view id)→c5 P n all o (Ts i) g (vs i) g a.rd [] false
def Ht (P:Program) (n:Nat) (all:List Oper) (recs:List Rec) (T T':Env) (h:aB):Prop:=∀ Ts hs vs,Ts 0=T→hs 0=h→Ts all.length=T'→recs.length=all.length→x7 P n all recs Ts hs vs→∀ i,∃ tol:Option Nat,
  (∀ k a b,i < k→recs[i]?=some a→recs[k]?=some b→ordered (er all []) i k=false→tol≠some k→lE a b) ∧
  ∀ k a b o,tol=some k→recs[i]?=some a→recs[k]?=some b→all[i]?=some o→i < k∧Bears P n all Ts hs vs i k o a b
theorem qS.Ow {recs:List Rec} {T T':Env} {hp:aB} (h:qS all recs):Ht P n all recs T T' hp:=fun _ _ _ _ _ _ _ _ i=>⟨none,fun k a b h1 h2 h3 h4 _=>h i k a b h1 h2 h3 h4,fun k a b o h1=>by simp at h1⟩
theorem sV (hm:P.follows .mixedOrders=true) {id:Nat} {T T':Env} {h h':aB} {recs:List Rec} (tr:Tr P n all all T h recs T' h') (ht:j5 all=true) (hcT:Ht P n all recs T T' h) :
    cq P n (.region id all.toArray true) T h .normal T' h':=by
  obtain ⟨hrl,Ts,hs,vs,eT0,eh0,eTN,ehN,hstep⟩:=Bd all T h recs T' h' tr
  obtain ⟨hedge,htmps⟩:=Fa ht
  have hc:=hcT Ts hs vs eT0 eh0 eTN hrl hstep
  have hget:∀ i,i < all.length→∃ o r,all[i]?=some o∧recs[i]?=some r:=fun i hi=>⟨all[i],recs[i]'(by omega),List.getElem?_eq_getElem hi,List.getElem?_eq_getElem (by omega)⟩
  have hlt:∀ i o,all[i]?=some o→i < all.length:=fun i o hi=>jw hi
  have hT:∀ i o,all[i]?=some o→Ts (i+1)=(Ts i).put o.dst (vs i):=fun i o hi=>by
    obtain ⟨o',r,h1,h2⟩:=hget i (hlt i o hi)
    rw[hi] at h1; simp at h1; subst h1
    exact (hstep i o r hi h2).2.2.1
  have hlen1:∀ i,i < all.length→(hs i).length≤(hs (i+1)).length:=fun i hi=>by
    obtain ⟨o,r,h1,h2⟩:=hget i hi
    exact qk (hstep i o r h1 h2).1
  have hmono:=Fo hlen1
  have hle:h.length≤h'.length:=by rw[← eh0,← ehN]; exact hmono _ _ (Nat.zero_le _) (Nat.le_refl _)
  have hsame:∀ i j id,i≤j→j≤all.length→id < (hs i).length→(∀ k r,i≤k→k < j→recs[k]?=some r→¬ id∈r.wr)→(hs j).view id=(hs i).view id:=by
    intro i j id hij
    induction hij with
    | refl=>intro _ _ _; rfl
    | step hle ih =>
      rename_i m
      intro hj hid hno
      obtain ⟨o,r,h1,h2⟩:=hget m (by omega)
      rw[oH (hstep m o r h1 h2).1 (Nat.lt_of_lt_of_le hid (hmono _ _ hle (by omega))) (hno m r hle (by omega) h2)]
      exact ih (by omega) hid (fun k r h1 h2 h3=>hno k r h1 (by omega) h3)
  refine ⟨hle,fun Z μ F a w hfree hsim=>wp_region_any hm ?_⟩
  let Inv (listed:Array Bool) (a':Act) (w':World):Prop:=∃ Z' μ' H,a'.defers=[]∧a'.tmps.size=n ∧
    (∀ t,∃ τ,τ≤all.length∧ay Z' μ' w'.heap (Ts τ t) (a'.tmps.getD t undef)∧∀ k o,all[k]?=some o→o.dst=some t→(listed.getD k false=true↔k < τ)) ∧
    fL Z' μ' w'.heap H ∧
    (∀ id,μ' id≠none→(∃ τ,τ≤all.length∧id < (hs τ).length∧H id=(hs τ).view id∧∀ k r,recs[k]?=some r→id∈r.wr→(listed.getD k false=true↔k < τ))∨(h'.length≤id∧H id=F id)) ∧
    (∀ k id,k < all.length→(hs k).length≤id→id < (hs (k+1)).length→μ' id≠none→listed.getD k false=true) ∧
    (∀ k o,all[k]?=some o→listed.getD k false=true→∀ e∈o.after.toList,Region.binds .any e=true→listed.getD e.on false=true) ∧
    Ext Z μ w h.length Z' μ' w'∧(∀ id,id < h.length∨h'.length≤id→μ' id=μ id)∧listed.size=all.length
  have key:∀ fuel listed a' w',Inv listed a' w'→((List.range all.length).countP fun i=>!listed.getD i false)≤fuel →
      wpAny P .any all.toArray (fun e' a' w'=>e'=.normal∧∃ Z' μ',nF n Z' μ' F T' h' a' w'∧Ext Z μ w h.length Z' μ' w'∧(∀ id,id < h.length∨h'.length≤id→μ' id=μ id)) fuel listed a' w':=by
    have ready_iff:∀ (listed:Array Bool),listed.size=all.length→∀ i,i∈Region.ready .any all.toArray listed↔(∃ o,all[i]?=some o∧listed.getD i false=false∧∀ e∈o.after.toList,Region.binds .any e=true→listed.getD e.on false=true):=by
      intro listed hsz i
      simp only[Region.ready,List.size_toArray,List.mem_filter,List.mem_range,List.getElem?_toArray,Bool.and_eq_true,Bool.not_eq_true']
      constructor
      · rintro ⟨hi,h1,h2⟩
        rw[List.getElem?_eq_getElem hi] at h2
        simp only[Option.map_some,Option.getD_some] at h2
        refine ⟨all[i],List.getElem?_eq_getElem hi,?_,fun e he hb=>?_⟩
        · have:i < listed.size:=by omega
          simp only[Array.getD_eq_getD_getElem?,Array.getElem?_eq_getElem this,Option.getD_some] at h1 ⊢
          exact h1
        · have:=Array.all_eq_true_iff_forall_mem.1 h2 e (by simpa using he)
          simpa [hb] using this
      · rintro ⟨o,ho,h1,h2⟩
        have hi:=hlt i o ho
        refine ⟨hi,?_,?_⟩
        · have:i < listed.size:=by omega
          simp only[Array.getD_eq_getD_getElem?,Array.getElem?_eq_getElem this,Option.getD_some] at h1 ⊢
          exact h1
        · rw[ho]
          simp only[Option.map_some,Option.getD_some]
          rw[Array.all_eq_true_iff_forall_mem]
          intro e he
          cases hb:Region.binds .any e with
          | false=>rfl
          | true=>simpa using h2 e (by simpa using he) hb
    have alldone:∀ (listed:Array Bool),listed.size=all.length→Region.ready .any all.toArray listed=[]→∀ i,i < all.length→listed.getD i false=true:=by
      intro listed hsz hnil i
      induction i using Nat.strongRecOn with
      | _ i ih =>
        intro hi
        cases hl:listed.getD i false with
        | true=>rfl
        | false =>
          exfalso
          have:i∈Region.ready .any all.toArray listed:=(ready_iff listed hsz i).2 ⟨all[i],List.getElem?_eq_getElem hi,hl,fun e he hb=>ih e.on (hedge i all[i] (List.getElem?_eq_getElem hi) e he hb) (by have:=hedge i all[i] (List.getElem?_eq_getElem hi) e he hb; omega)⟩
          rw[hnil] at this; simp at this
    have finish:∀ listed a' w',Inv listed a' w'→(∀ i,i < all.length→listed.getD i false=true) →
        ∃ Z' μ',nF n Z' μ' F T' h' a' w'∧Ext Z μ w h.length Z' μ' w'∧(∀ id,id < h.length∨h'.length≤id→μ' id=μ id):=by
      rintro listed a' w' ⟨Z',μ',H,hd,hsz,htm,hr,hob,hdom,hcl,hex,hfix,hls⟩ hall
      refine ⟨Z',μ',⟨hd,hsz,fun t=>?_,hr.congr fun id hid=>?_⟩,hex,hfix⟩
      · obtain ⟨τ,hτ,hv,hw⟩:=htm t
        have:=vX (t:=t) hT rfl τ all.length hτ (Nat.le_refl _) (fun k o h1 h2 h3 h4=>by
          have:=(hw k o h3 h4).1 (hall k h2); omega)
        rw[← eTN,this]; exact hv
      · unfold cat
        rcases hob id hid with ⟨τ,hτ,hl,hH,hw⟩ | ⟨hl,hH⟩
        · have:=hsame τ all.length id hτ (Nat.le_refl _) hl (fun k r h1 h2 h3 h4=>by
            have:=(hw k r h3 h4).1 (hall k h2); omega)
          have hl2:id < h'.length:=by rw[← ehN]; exact Nat.lt_of_lt_of_le hl (hmono _ _ hτ (Nat.le_refl _))
          rw[if_pos hl2,hH,← this,ehN]
        · rw[if_neg (by omega),hH]
    intro fuel
    induction fuel with
    | zero =>
      intro listed a' w' hinv hcnt
      have hls:listed.size=all.length:=by obtain ⟨_,_,_,_,_,_,_,_,_,_,_,_,hls⟩:=hinv; exact hls
      have hall:∀ i,i < all.length→listed.getD i false=true:=by
        intro i hi
        have h0:(List.range all.length).countP (fun i=>!listed.getD i false)=0:=by omega
        rw[List.countP_eq_zero] at h0
        have:=h0 i (by simpa using hi)
        simpa using this
      refine ⟨?_,rfl,finish listed a' w' hinv hall⟩
      apply List.eq_nil_iff_forall_not_mem.2
      intro i hi
      obtain ⟨o,ho,h1,_⟩:=(ready_iff listed hls i).1 hi
      rw[hall i (hlt i o ho)] at h1; simp at h1
    | succ fuel ih =>
      intro listed a' w' hinv hcnt
      have hls:listed.size=all.length:=by obtain ⟨_,_,_,_,_,_,_,_,_,_,_,_,hls⟩:=hinv; exact hls
      refine ⟨fun hnil=>⟨rfl,finish listed a' w' hinv (alldone listed hls hnil)⟩,fun i hi=>?_⟩
      obtain ⟨o,ho,hil,hdeps⟩:=(ready_iff listed hls i).1 hi
      have hilt:=hlt i o ho
      obtain ⟨_,r,_,hrec⟩:=hget i hilt
      obtain ⟨hst,hdst,_,hlo,hhi⟩:=hstep i o r ho hrec
      obtain ⟨Z',μ',H,hd,hsz,htm,hr,hob,hdom,hcl,hex,hfix,_⟩:=hinv
      have notL:¬ (listed.getD i false=true):=by rw[hil]; simp
      have before:∀ j,ordered (er all []) j i=true→listed.getD j false=true:=fun j hj=>DP hedge hcl ho hdeps hj
      have behind:∀ k ok,all[k]?=some ok→ordered (er all []) i k=true→listed.getD k false=true→False:=fun k ok hk hord hL=>notL (tE (L:=fun k=>listed.getD k false=true) hedge hcl k ok i hk hL hord)
      have slot:∀ t,t∈lq all o→ay Z' μ' w'.heap (Ts i t) (a'.tmps.getD t undef):=by
        intro t htu
        obtain ⟨τ,hτ,hv,hw⟩:=htm t
        rcases Nat.le_total τ i with hti | hti
        · have:=vX (t:=t) hT rfl τ i hti (by omega) (fun k ok h1 h2 h3 h4=>by
            have hkl:=(hw k ok h3 h4).1
            cases hord:ordered (er all []) k i with
            | true=>have:=hkl (before k hord); omega
            | false=>exact (htmps k i ok o h2 h3 ho hord).1 t h4 htu)
          rw[this]; exact hv
        · have:=vX (t:=t) hT rfl i τ hti hτ (fun k ok h1 h2 h3 h4=>by
            have hkl:=(hw k ok h3 h4).2 h2
            rcases Nat.eq_or_lt_of_le h1 with h5 | h5
            · subst h5; exact notL hkl
            · cases hord:ordered (er all []) i k with
              | true=>exact behind k ok h3 hord hkl
              | false=>exact (htmps i k o ok h5 ho h3 hord).2 t h4 htu)
          rw[← this]; exact hv
      obtain ⟨tol,hnc,hbr⟩:=hc i
      have objs:∀ id,id < (hs i).length→μ' id≠none→(∀ k rk,recs[k]?=some rk→k≠i→id∈rk.wr→(listed.getD k false=true↔k < i))→H id=(hs i).view id:=by
        intro id hid hm hk
        rcases hob id hm with ⟨τ,hτ,hl,hH,hw⟩ | ⟨hl,_⟩
        · rw[hH]
          rcases Nat.le_total τ i with hti | hti
          · exact (hsame τ i id hti (by omega) hl (fun k rk h1 h2 h3 h4=>by
              have:=(hw k rk h3 h4).1 ((hk k rk h3 (by omega) h4).2 h2); omega)).symm
          · exact hsame i τ id hti hτ hid (fun k rk h1 h2 h3 h4=>by
              have hkl:=(hw k rk h3 h4).2 h2
              rcases Nat.eq_or_lt_of_le h1 with h5 | h5
              · subst h5; exact notL hkl
              · have:=(hk k rk h3 (by omega) h4).1 hkl; omega)
        · have:(hs i).length≤h'.length:=by rw[← ehN]; exact hmono _ _ (by omega) (Nat.le_refl _)
          omega
      have place:∀ id,(id∈r.rd∨id∈r.wr∨r.call=true)→∀ k rk,recs[k]?=some rk→k≠i→id∈rk.wr→(tol=some k→listed.getD k false=false)→(listed.getD k false=true↔k < i):=by
        intro id hid k rk hk hne hw htol
        have hwr:id∈r.wr→r.call=false→id∈r.rd:=fun h1 h2=>(sX hst h1).2 h2
        have hcase:id∈r.rd∨r.call=true:=by
          rcases hid with h1 | h1 | h1
          · exact .inl h1
          · cases hcl':r.call with
            | true=>exact .inr rfl
            | false=>exact .inl (hwr h1 hcl')
          · exact .inr h1
        have hne':rk.wr≠[]:=fun e=>by rw[e] at hw; simp at hw
        obtain ⟨ok,_,hok,_⟩:=hget k (by have:=jw hk; omega)
        rcases Nat.lt_or_gt_of_ne hne with hlt' | hlt'
        · refine ⟨fun _=>hlt',fun _=>?_⟩
          cases hord:ordered (er all []) k i with
          | true=>exact before k hord
          | false =>
            obtain ⟨tk,hnk,hbk⟩:=hc k
            by_cases etk:tk=some i
            · exact absurd (hbk i rk r ok etk hk hrec hok).2.wr hne'
            · have nc:=hnk i rk r hlt' hk hrec hord etk
              rcases hcase with h1 | h1
              · exact absurd h1 (nc.Oo id hw)
              · exact absurd (nc.call2 h1) hne'
        · refine ⟨fun hL=>?_,fun h6=>by omega⟩
          exfalso
          cases hord:ordered (er all []) i k with
          | true=>exact behind k ok hok hord hL
          | false =>
            by_cases et:tol=some k
            · rw[htol et] at hL; simp at hL
            · have nc:=hnc k r rk hlt' hrec hk hord et
              rcases hcase with h1 | h1
              · exact absurd h1 (nc.Nq id hw)
              · exact absurd (nc.Oc h1) hne'
      have closing:∀ x w1 Z1 μ1,ay Z1 μ1 w1.heap (vs i) x→fL Z1 μ1 w1.heap (gO H (hs i) (hs (i+1)) r.wr)→Ext Z' μ' w' (hs i).length Z1 μ1 w1→(∀ id,id < (hs i).length∨(hs (i+1)).length≤id→μ1 id=μ' id) →
          wpAny P .any all.toArray (fun e' a' w'=>e'=.normal∧∃ Z' μ',nF n Z' μ' F T' h' a' w'∧Ext Z μ w h.length Z' μ' w'∧(∀ id,id < h.length∨h'.length≤id→μ' id=μ id)) fuel (listed.setIfInBounds i true) (a'.put o.dst x) w1:=by
        intro x w1 Z1 μ1 hv1 hr1 hex1 hfix1
        have hL':∀ k,(listed.setIfInBounds i true).getD k false=if k=i then true else listed.getD k false:=by
          intro k
          simp only[Array.getD_eq_getD_getElem?,Array.getElem?_setIfInBounds]
          by_cases e:i=k
          · subst e; rw[if_pos rfl,if_pos rfl,if_pos (by omega)]; rfl
          · rw[if_neg e,if_neg (fun q=>e q.symm)]
        have hls':(listed.setIfInBounds i true).size=all.length:=by simpa using hls
        refine ih _ _ _ ⟨Z1,μ1,gO H (hs i) (hs (i+1)) r.wr,?_,?_,?_,hr1,?_,?_,?_,?_,?_,hls'⟩ ?_
        · unfold Act.put; split <;> exact hd
        · unfold Act.put; split <;> simp[hsz]
        · intro t
          by_cases hdt:o.dst=some t
          · refine ⟨i+1,hilt,?_,fun k ok hk hkd=>?_⟩
            · rw[hT i o ho,hdt]
              have hlt2:t < a'.tmps.size:=by unfold oQ at hdst; rw[hdt] at hdst; rw[hsz]; simpa using hdst
              simp only[Env.put,Act.put,if_true,Array.getD_eq_getD_getElem?,Array.getElem?_setIfInBounds,hlt2,Option.getD_some]
              exact hv1
            · rw[hL']
              by_cases e:k=i
              · subst e; simp
              · rw[if_neg e]
                have htu:t∈lq all o:=by simp[lq,hdt]
                rcases Nat.lt_or_gt_of_ne e with h5 | h5
                · cases hord:ordered (er all []) k i with
                  | true=>exact ⟨fun _=>by omega,fun _=>before k hord⟩
                  | false=>exact absurd htu ((htmps k i ok o h5 hk ho hord).1 t hkd)
                · cases hord:ordered (er all []) i k with
                  | true=>exact ⟨fun hL=>(behind k ok hk hord hL).elim,fun h6=>by omega⟩
                  | false=>exact absurd htu ((htmps i k o ok h5 ho hk hord).2 t hkd)
          · obtain ⟨τ,hτ,hv,hw⟩:=htm t
            refine ⟨τ,hτ,?_,fun k ok hk hkd=>?_⟩
            · have:(a'.put o.dst x).tmps.getD t undef=a'.tmps.getD t undef:=by
                unfold Act.put
                split
                · rename_i d hdd
                  simp only[Array.getD_eq_getD_getElem?,Array.getElem?_setIfInBounds]
                  rw[if_neg (fun e=>hdt (by rw[hdd,e]))]
                · rfl
              rw[this]; exact hv.mono hex1.mono
            · rw[hL',if_neg (fun e=>by subst e; rw[ho] at hk; simp at hk; subst hk; exact hdt hkd)]
              exact hw k ok hk hkd
        · intro id hm1
          unfold gO
          by_cases hwn:id∈r.wr∨((hs i).length≤id∧id < (hs (i+1)).length)
          · left
            have hidl:id < (hs (i+1)).length:=by
              rcases hwn with h5 | h5
              · exact Nat.lt_of_lt_of_le (sX hst h5).1 (hlen1 i hilt)
              · exact h5.2
            refine ⟨i+1,hilt,hidl,by rw[if_pos hwn],fun k rk hk hkw=>?_⟩
            rw[hL']
            by_cases e:k=i
            · subst e; simp
            · rw[if_neg e]
              obtain ⟨ok,_,hok,_⟩:=hget k (by have:=jw hk; omega)
              rcases hwn with h5 | h5
              · have hp:=place id (.inr (.inl h5)) k rk hk e hkw (fun et=>by
                  have:=(hbr k r rk o et hrec hk ho).2.wr
                  rw[this] at h5; simp at h5)
                exact ⟨fun hL=>by have:=hp.1 hL; omega,fun h7=>hp.2 (by omega)⟩
              · obtain ⟨hst',_⟩:=hstep k ok rk hok hk
                have hkl:=(sX hst' hkw).1
                have hik:i < k:=by
                  rcases Nat.lt_or_ge i k with h6 | h6
                  · exact h6
                  · have:=hmono k i h6 (by omega); omega
                refine ⟨fun hL=>?_,fun h7=>by omega⟩
                exfalso
                cases hord:ordered (er all []) i k with
                | true=>exact behind k ok hok hord hL
                | false =>
                  by_cases et:tol=some k
                  · have:=(hbr k r rk o et hrec hk ho).2.len
                    omega
                  · exact (hnc k r rk hik hrec hk hord et).new id hkw (by rw[hlo,hhi]; exact h5)
          · rw[if_neg hwn]
            have hmm:μ' id≠none:=by
              rw[← hfix1 id ?_]
              · exact hm1
              · rcases Nat.lt_or_ge id (hs i).length with h6 | h6
                · exact .inl h6
                · right
                  rcases Nat.lt_or_ge id (hs (i+1)).length with h7 | h7
                  · exact absurd (.inr ⟨h6,h7⟩) hwn
                  · exact h7
            rcases hob id hmm with ⟨τ,hτ,hl,hH,hw⟩ | h5
            · refine .inl ⟨τ,hτ,hl,hH,fun k rk hk hkw=>?_⟩
              rw[hL',if_neg (fun e=>by subst e; rw[hrec] at hk; simp at hk; subst hk; exact hwn (.inl hkw))]
              exact hw k rk hk hkw
            · exact .inr h5
        · intro k id hk h1 h2 hm1
          rw[hL']
          by_cases e:k=i
          · rw[if_pos e]
          · rw[if_neg e]
            refine hdom k id hk h1 h2 ?_
            rw[← hfix1 id ?_]
            · exact hm1
            · rcases Nat.lt_or_gt_of_ne e with h6 | h6
              · left; exact Nat.lt_of_lt_of_le h2 (hmono _ _ h6 (by omega))
              · right; exact Nat.le_trans (hmono _ _ h6 (by omega)) h1
        · intro k ok hk hL e he hb
          rw[hL'] at hL ⊢
          by_cases ek:k=i
          · subst ek
            rw[ho] at hk; simp at hk; subst hk
            split
            · rfl
            · exact hdeps e he hb
          · rw[if_neg ek] at hL
            split
            · rfl
            · exact hcl k ok hk hL e he hb
        · refine hex.trans hex1 ?_ hsim.hr.lt
          rw[← eh0]; exact hmono _ _ (Nat.zero_le _) (by omega)
        · intro id hid
          rw[hfix1 id,hfix id hid]
          rcases hid with h5 | h5
          · left; rw[← eh0] at h5; exact Nat.lt_of_lt_of_le h5 (hmono _ _ (Nat.zero_le _) (by omega))
          · right; rw[← ehN] at h5; exact Nat.le_trans (hmono _ _ hilt (Nat.le_refl _)) h5
        · have:(List.range all.length).countP (fun k=>!(listed.setIfInBounds i true).getD k false) < (List.range all.length).countP (fun k=>!listed.getD k false):=by
            have gen:∀ (l:List Nat),i∈l→l.Nodup→l.countP (fun k=>!(listed.setIfInBounds i true).getD k false) < l.countP (fun k=>!listed.getD k false):=by
              intro l
              induction l with
              | nil=>intro h; simp at h
              | cons x l ihl =>
                intro hmem hnd
                simp only[List.nodup_cons] at hnd
                by_cases e:x=i
                · subst e
                  have hrest:l.countP (fun k=>!(listed.setIfInBounds x true).getD k false)=l.countP (fun k=>!listed.getD k false):=by
                    apply List.countP_congr
                    intro k hk
                    have hkx:k≠x:=fun q=>hnd.1 (by rw[← q]; exact hk)
                    rw[hL',if_neg hkx]
                  have h1:(listed.setIfInBounds x true).getD x false=true:=by rw[hL',if_pos rfl]
                  rw[List.countP_cons,List.countP_cons,hrest,h1,hil]
                  simp
                · have hmem':i∈l:=by
                    rcases List.mem_cons.1 hmem with h5 | h5
                    · exact absurd h5.symm e
                    · exact h5
                  have:=ihl hmem' hnd.2
                  simp only[List.countP_cons,hL',if_neg e]
                  simp only[hL'] at this
                  omega
            exact gen _ (by simpa using hilt) List.nodup_range
          omega
      have hguard:∀ j want d,o.guard=some (j,want)→(all[j]?).bind (·.dst)=some d→ay Z' μ' w'.heap (Ts i d) (a'.tmps.getD d undef):=fun j want d hg hdd=>slot d (by
        simp only[lq,List.mem_append]; right; rw[hg]; simp[hdd])
      have hopd:=Fc (o:=o) fun t htt=>slot t (by
        simp only[lq,List.mem_append]; left; right; exact htt)
      by_cases htl:∃ k0,tol=some k0∧listed.getD k0 false=true
      · obtain ⟨k0,ht0,hl0⟩:=htl
        have hk0:k0 < all.length:=by
          rcases Nat.lt_or_ge k0 all.length with h5 | h5
          · exact h5
          · simp[Array.getD_eq_getD_getElem?,Array.getElem?_eq_none (show listed.size≤k0 by omega)] at hl0
        obtain ⟨_,b,_,hb⟩:=hget k0 hk0
        obtain ⟨hik0,hB⟩:=hbr k0 r b o ht0 hrec hb ho
        let g:aB:=(List.range (hs i).length).map fun id=>if id∈b.wr then (hs (k0+1)).view id else (hs i).view id
        have hgv:∀ id,id < (hs i).length→aB.view g id=if id∈b.wr then (hs (k0+1)).view id else (hs i).view id:=by
          intro id hid
          simp only[g,aB.view,List.getD_eq_getElem?_getD,List.getElem?_map,List.getElem?_range hid,Option.map_some,Option.getD_some]
        have hlen:(hs (i+1)).length=(hs i).length:=by rw[← hhi,← hlo,hB.len]
        have hgl':List.length g=(hs i).length:=by simp only[g,List.length_map,List.length_range]
        have hst':=hB.step g hgl' hgv
        have hHe:gO H g g []=gO H (hs i) (hs (i+1)) r.wr:=by
          funext id
          unfold gO
          rw[if_neg (by
                         rintro (h1 | h1); · simp at h1
                         · omega),if_neg (by
                                              rw[hB.wr]; rintro (h1 | h1); · simp at h1
                                              · omega)]
        refine uW rfl (by simpa using ho) hst' hsz hguard hopd hr (fun id hid hm=>?_) (fun h1=>by simp at h1) (fun id h1 h2=>by omega) (fun x w1 Z1 μ1 hv1 hr1 hex1 hfix1=>closing x w1 Z1 μ1 hv1 (by rw[← hHe]; exact hr1) (by rw[← hgl']; exact hex1) (fun id hid=>hfix1 id (by
          rw[hgl']; omega)))
        have hidl:=xJ hst hid
        rw[hgv id hidl]
        by_cases hbw:id∈b.wr
        · rw[if_pos hbw]
          rcases hob id hm with ⟨τ,hτ,hl,hH,hw⟩ | ⟨hl,_⟩
          · have hkt:=(hw k0 b hb hbw).1 hl0
            rw[hH]
            refine hsame (k0+1) τ id hkt hτ (Nat.lt_of_lt_of_le hidl (hmono _ _ (by omega) (by omega))) (fun k rk h1 h2 h3 h4=>?_)
            have hL:=(hw k rk h3 h4).2 h2
            have:=(place id (.inl hid) k rk h3 (by omega) h4 (fun e=>by rw[ht0] at e; simp at e; omega)).1 hL
            omega
          · have:(hs i).length≤h'.length:=by rw[← ehN]; exact hmono _ _ (by omega) (Nat.le_refl _)
            omega
        · rw[if_neg hbw]
          refine objs id hidl hm fun k rk hk hne hkw=>place id (.inl hid) k rk hk hne hkw fun e=>?_
          rw[ht0] at e; simp at e; subst e
          rw[hb] at hk; simp at hk; subst hk
          exact absurd hkw hbw
      · have hno:∀ k,tol=some k→listed.getD k false=false:=fun k e=>by
          cases hl:listed.getD k false with
          | false=>rfl
          | true=>exact absurd ⟨k,e,hl⟩ htl
        refine uW rfl (by simpa using ho) hst hsz hguard hopd hr (fun id hid hm=>objs id (xJ hst hid) hm fun k rk hk hne hkw=>place id (.inl hid) k rk hk hne hkw (hno k))
          (fun hcall id hid hm=>objs id hid hm fun k rk hk hne hkw=>place id (.inr (.inr hcall)) k rk hk hne hkw (hno k)) (fun id h1 h2=>?_) closing
        apply Classical.byContradiction
        intro hmm
        exact notL (hdom i id hilt h1 h2 hmm)
  have hinit:Inv (Array.replicate all.length false) a { w with drawn:=w.drawn+1 }:=by
    refine ⟨Z,μ,cat h F,hsim.defers,hsim.size,fun t=>⟨0,Nat.zero_le _,by rw[eT0]; exact hsim.tm t,fun k o hk hkd=>?_⟩,hsim.hr,fun id hm'=>?_,fun k id hk h1 h2 hm'=>?_,fun k o hk hL=>?_,?_,fun _ _=>rfl,by simp⟩
    · have:(Array.replicate all.length false).getD k false=false:=by
        simp only[Array.getD_eq_getD_getElem?,Array.getElem?_replicate]; split <;> rfl
      rw[this]; simp
    · unfold cat
      by_cases hl:id < h.length
      · left
        refine ⟨0,Nat.zero_le _,by rw[eh0]; exact hl,by rw[if_pos hl,eh0],fun k r hk hkw=>?_⟩
        have:(Array.replicate all.length false).getD k false=false:=by
          simp only[Array.getD_eq_getD_getElem?,Array.getElem?_replicate]; split <;> rfl
        rw[this]; simp
      · rw[if_neg hl]
        rcases Nat.lt_or_ge id h'.length with h5 | h5
        · exact absurd (hfree id (by omega) h5) hm'
        · exact .inr ⟨h5,rfl⟩
    · exfalso
      refine hm' (hfree id ?_ ?_)
      · rw[← eh0]; exact Nat.le_trans (hmono _ _ (Nat.zero_le _) (by omega)) h1
      · rw[← ehN]; exact Nat.lt_of_lt_of_le h2 (hmono _ _ hk (Nat.le_refl _))
    · have:(Array.replicate all.length false).getD k false=false:=by
        simp only[Array.getD_eq_getD_getElem?,Array.getElem?_replicate]; split <;> rfl
      rw[this] at hL; simp at hL
    · exact ⟨⟨rfl,rfl,rfl,Nat.le_refl _⟩,fj.refl _ _ _,fun _ _ _=>rfl,fun _ h=>.inl h,fun _ _ _ _ h=>.inl h⟩
  have:=key all.length _ _ _ hinit (by
    have:=List.countP_le_length (p:=fun i=>!(Array.replicate all.length false).getD i false) (l:=List.range all.length)
    simpa using this)
  simpa using this
theorem uE (hm:P.follows .mixedOrders=true) {id:Nat} {T T':Env} {h h':aB} {recs:List Rec} (tr:Tr P n all all T h recs T' h') (ht:j5 all=true) (hc:qS all recs) :
    cq P n (.region id all.toArray true) T h .normal T' h':=sV hm tr ht hc.Ow
end
section
variable {P:Program} {n:Nat}
theorem nF.eval {Z:Nat→Prop} {μ:Mu} {F:View} {T:Env} {h:aB} {a:Act} {w:World} (s:nF n Z μ F T h a w) (x:Operand):ay Z μ w.heap (ev T x) (a.eval x):=by
  cases x with
  | tmp t=>exact s.tm t
  | const v=>exact fe v
  | global g=>exact .any _
  | func f=>exact .fn f [] [] #[] #[] rfl rfl (fun i hi=>by simp at hi) (fun i hi=>by simp at hi)
theorem Ez {all:List Oper} {id:Nat} {T T':Env} {h h':aB} {recs:List Rec} (tr:Tr P n all all T h recs T' h'):cq P n (.region id all.toArray false) T h .normal T' h':=by
  obtain ⟨hrl,Ts,hs,vs,eT0,eh0,eTN,ehN,hstep⟩:=Bd all T h recs T' h' tr
  have hget:∀ i,i < all.length→∃ o r,all[i]?=some o∧recs[i]?=some r:=fun i hi=>⟨all[i],recs[i]'(by omega),List.getElem?_eq_getElem hi,List.getElem?_eq_getElem (by omega)⟩
  have hlen1:∀ i,i < all.length→(hs i).length≤(hs (i+1)).length:=fun i hi=>by
    obtain ⟨o,r,h1,h2⟩:=hget i hi
    exact qk (hstep i o r h1 h2).1
  have hmono:=Fo hlen1
  refine ⟨by rw[← eh0,← ehN]; exact hmono _ _ (Nat.zero_le _) (Nat.le_refl _),fun Z μ F a w hfree hsim=>wp_region ?_⟩
  have key:∀ k i,i+k=all.length→∀ Z' μ' a' w',nF n Z' μ' F (Ts i) (hs i) a' w'→Ext Z μ w h.length Z' μ' w'→(∀ id,id < h.length∨h'.length≤id→μ' id=μ id)→(∀ id,(hs i).length≤id→id < h'.length→μ' id=none) →
      wpOps P all.toArray (fun e' a' w'=>e'=.normal∧∃ Z' μ',nF n Z' μ' F T' h' a' w'∧Ext Z μ w h.length Z' μ' w'∧(∀ id,id < h.length∨h'.length≤id→μ' id=μ id)) (List.range' i k) a' w':=by
    intro k
    induction k with
    | zero =>
      intro i hi Z' μ' a' w' hs' hex hfix _
      obtain rfl:i=all.length:=by omega
      simp only[List.range'_zero,wpOps]
      rw[eTN,ehN] at hs'
      exact ⟨trivial,Z',μ',hs',hex,hfix⟩
    | succ k ih =>
      intro i hi Z' μ' a' w' hs' hex hfix hfr
      obtain ⟨o,r,ho,hr⟩:=hget i (by omega)
      obtain ⟨hst,hdst,hT,hlo,hhi⟩:=hstep i o r ho hr
      have hl1:=hlen1 i (by omega)
      have hl2:(hs (i+1)).length≤h'.length:=by rw[← ehN]; exact hmono _ _ (by omega) (Nat.le_refl _)
      have hl0:h.length≤(hs i).length:=by rw[← eh0]; exact hmono _ _ (Nat.zero_le _) (by omega)
      rw[List.range'_succ,wpOps_cons]
      refine uW rfl (by simpa using ho) hst hs'.size (fun j want d _ _=>hs'.tm d) (fun x _=>hs'.eval x) hs'.hr (fun id hid _=>?_) (fun _ id hid _=>?_) (fun id h1 h2=>hfr id h1 (by omega)) ?_
      · unfold cat; rw[if_pos (xJ hst hid)]
      · unfold cat; rw[if_pos hid]
      · intro x w1 Z1 μ1 hv1 hr1 hex1 hfix1
        refine ih (i+1) (by omega) Z1 μ1 _ w1 ⟨?_,?_,fun t=>?_,hr1.congr fun id _=>?_⟩ (hex.trans hex1 hl0 hsim.hr.lt) (fun id hid=>?_) (fun id h1 h2=>?_)
        · unfold Act.put; split <;> exact hs'.defers
        · unfold Act.put; split <;> simp[hs'.size]
        · rw[hT]
          cases hdd:o.dst with
          | none =>
            simp only[Env.put,Act.put]
            exact (hs'.tm t).mono hex1.mono
          | some d =>
            have hlt2:d < a'.tmps.size:=by unfold oQ at hdst; rw[hdd] at hdst; rw[hs'.size]; simpa using hdst
            simp only[Env.put,Act.put,Array.getD_eq_getD_getElem?,Array.getElem?_setIfInBounds]
            by_cases e:t=d
            · subst e; rw[if_pos rfl,if_pos rfl,if_pos hlt2]; exact hv1
            · rw[if_neg e,if_neg (fun q=>e q.symm)]
              have:=(hs'.tm t).mono hex1.mono
              simpa only [Array.getD_eq_getD_getElem?] using this
        · simp only[cat,gO]
          by_cases h5:id < (hs (i+1)).length
          · rw[if_pos h5]
            split
            · rfl
            · rename_i hn
              have h6:id < (hs i).length:=by
                rcases Nat.lt_or_ge id (hs i).length with h7 | h7
                · exact h7
                · exact absurd (.inr ⟨h7,h5⟩) hn
              rw[if_pos h6,oH hst h6 (fun q=>hn (.inl q))]
          · rw[if_neg h5,if_neg,if_neg (by omega)]
            rintro (h6 | h6)
            · have:=(sX hst h6).1; omega
            · omega
        · rw[hfix1 id (by omega),hfix id hid]
        · rw[hfix1 id (by omega)]; exact hfr id (by omega) h2
  have:=key all.length 0 (by omega) Z μ a w (by rw[eT0,eh0]; exact hsim) (Ext.refl _ _ _ _) (fun _ _=>rfl) (fun id h1 h2=>hfree id (by rw[← eh0]; exact h1) h2)
  rw[List.size_toArray,List.range_eq_range']
  exact this
theorem cq.weaken {c:Code} {T T':Env} {h h':aB} {e:Exit} (x:cq P n c T h e T' h') {Z:Nat→Prop} {μ:Mu} {F:View} {a:Act} {w:World} {Z0:Nat→Prop} {μ0:Mu} {w0:World} {m:Nat}
    (hfree:∀ id,h.length≤id→id < h'.length→μ id=none) (s:nF n Z μ F T h a w) (hex:Ext Z0 μ0 w0 m Z μ w) (hm:m≤h.length) (hlt:∀ id b o s,μ0 id=some (b,o,s)→b < w0.heap.size) :
    c.wp P (fun e' a' w'=>e'=e∧∃ Z' μ',nF n Z' μ' F T' h' a' w'∧Ext Z0 μ0 w0 m Z' μ' w'∧(∀ id,id < h.length∨h'.length≤id→μ' id=μ id)) a w :=
  wp_mono (x.2 Z μ F a w hfree s) fun _ _ _ ⟨he,Z',μ',s',hex',hfix⟩=>⟨he,Z',μ',s',hex.trans hex' hm hlt,hfix⟩
theorem cq.seq {x y:Code} {T T1 T2:Env} {h h1 h2:aB} {e:Exit} (hx:cq P n x T h .normal T1 h1) (hy:cq P n y T1 h1 e T2 h2):cq P n (.seq x y) T h e T2 h2:=by
  refine ⟨Nat.le_trans hx.1 hy.1,fun Z μ F a w hfree s=>wp_seq (wp_mono (hx.2 Z μ F a w (fun id h1 h2=>hfree id h1 (Nat.lt_of_lt_of_le h2 hy.1)) s) ?_)⟩
  rintro e' a' w' ⟨rfl,Z',μ',s',hex,hfix⟩
  refine wp_mono (hy.weaken (fun id h1 h2=>?_) s' hex hx.1 s.hr.lt) ?_
  · rw[hfix id (.inr h1)]; exact hfree id (Nat.le_trans hx.1 h1) h2
  · rintro e' a' w' ⟨he,Z',μ',s',hex,hfix'⟩
    refine ⟨he,Z',μ',s',hex,fun id hid=>?_⟩
    have:=hx.1
    have:=hy.1
    rw[hfix' id (by omega),hfix id (by omega)]
theorem cq.FK {x y:Code} {T T1:Env} {h h1:aB} {e:Exit} (hx:cq P n x T h e T1 h1) (he:e≠.normal):cq P n (.seq x y) T h e T1 h1:=by
  refine ⟨hx.1,fun Z μ F a w hfree s=>wp_seq (wp_mono (hx.2 Z μ F a w hfree s) ?_)⟩
  rintro e' a' w' ⟨rfl,h⟩
  cases e' <;> first | exact absurd rfl he | exact ⟨rfl,h⟩
theorem cq.here {c:Code} {T:Env} {h:aB} {e:Exit} (hc:∀ (Q:Exit→Act→World→Prop) a w,Q e a w→c.wp P Q a w):cq P n c T h e T h :=
  ⟨Nat.le_refl _,fun Z μ _ a w _ s=>hc _ a w ⟨rfl,Z,μ,s,Ext.refl _ _ _ _,fun _ _=>rfl⟩⟩
theorem cq.skip {T:Env} {h:aB} : cq P n .skip T h .normal T h:=.here fun _ _ _ h=>wp_skip h
theorem cq.label {T:Env} {h:aB} {l:Nat} : cq P n (.label l) T h .normal T h:=.here fun _ _ _ h=>wp_label h
theorem cq.exit {T:Env} {h:aB} {id:Nat} : cq P n (.exit id) T h (.exit id) T h:=.here fun _ _ _ h=>wp_exit h
theorem cq.goto {T:Env} {h:aB} {l:Nat} : cq P n (.goto l) T h (.goto l) T h:=.here fun _ _ _ h=>wp_goto h
theorem cq.ret {T:Env} {h:aB} : cq P n .ret T h .ret T h:=.here fun _ _ _ h=>wp_ret h
theorem cq.cond {c:Operand} {x y:Code} {T T':Env} {h h':aB} {e:Exit} {t:Bool} (hc:ev T c=.val (.bool t)) (hx:cq P n (if t then x else y) T h e T' h'):cq P n (.cond c x y) T h e T' h':=by
  refine ⟨hx.1,fun Z μ F a w hfree s=>wp_cond (t:=t) ?_ (hx.2 Z μ F a w hfree s)⟩
  have:=s.eval c
  rw[hc] at this
  exact dM this
def mR (id:Nat):Exit→Exit
  | .exit id'=>if id'=id then .normal else .exit id'
  | e=>e
theorem cq.block {id:Nat} {c:Code} {T T':Env} {h h':aB} {e:Exit} (hx:cq P n c T h e T' h'):cq P n (.block id c) T h (mR id e) T' h':=by
  refine ⟨hx.1,fun Z μ F a w hfree s=>wp_block (wp_mono (hx.2 Z μ F a w hfree s) ?_)⟩
  rintro e' a' w' ⟨rfl,h⟩
  cases e' with
  | exit id' =>
    simp only[Exit.inBlock,mR]
    split
    · exact ⟨rfl,h⟩
    · exact ⟨rfl,h⟩
  | _=>exact ⟨rfl,h⟩
theorem wy {c:Code} {Q Q':Exit→Act→World→Prop} (hq:∀ e a w,Q e a w→Q' e a w):∀ (k:Nat) (a:Act) (w:World),Code.rounds P c Q k a w→Code.rounds P c Q' k a w
  | 0,_,_,h=>h
  | k+1,a,w,h=>by
    rw[rounds_succ] at h ⊢
    refine wp_mono h fun e a w h=>?_
    cases e with
    | normal=>exact wy hq k a w h
    | _=>exact hq _ _ _ h
def mV (P:Program) (n:Nat) (c:Code) (T:Env) (h:aB) (e:Exit) (T':Env) (h':aB):Prop :=
  h.length≤h'.length∧∃ k,∀ Z μ F a w,(∀ id,h.length≤id→id < h'.length→μ id=none)→nF n Z μ F T h a w →
    Code.rounds P c (fun e' a' w'=>e'=e∧∃ Z' μ',nF n Z' μ' F T' h' a' w'∧Ext Z μ w h.length Z' μ' w'∧(∀ id,id < h.length∨h'.length≤id→μ' id=μ id)) k a w
theorem mV.out {c:Code} {T T1:Env} {h h1:aB} {e:Exit} (hx:cq P n c T h e T1 h1) (he:e≠.normal):mV P n c T h e T1 h1:=by
  refine ⟨hx.1,1,fun Z μ F a w hfree s=>?_⟩
  rw[rounds_succ]
  refine wp_mono (hx.2 Z μ F a w hfree s) ?_
  rintro e' a' w' ⟨rfl,h⟩
  cases e' <;> first | exact absurd rfl he | exact ⟨rfl,h⟩
theorem mV.step {c:Code} {T T1 T2:Env} {h h1 h2:aB} {e:Exit} (hx:cq P n c T h .normal T1 h1) (hy:mV P n c T1 h1 e T2 h2):mV P n c T h e T2 h2:=by
  obtain ⟨hy1,k,hy⟩:=hy
  refine ⟨Nat.le_trans hx.1 hy1,k+1,fun Z μ F a w hfree s=>?_⟩
  rw[rounds_succ]
  refine wp_mono (hx.2 Z μ F a w (fun id h1 h2=>hfree id h1 (Nat.lt_of_lt_of_le h2 hy1)) s) ?_
  rintro e' a' w' ⟨rfl,Z',μ',s',hex,hfix⟩
  refine wy ?_ k a' w' (hy Z' μ' F a' w' (fun id h1 h2=>?_) s')
  · rintro e' a' w' ⟨he,Z',μ',s',hex',hfix'⟩
    refine ⟨he,Z',μ',s',hex.trans hex' hx.1 s.hr.lt,fun id hid=>?_⟩
    have:=hx.1
    rw[hfix' id (by omega),hfix id (by omega)]
  · rw[hfix id (.inr h1)]; exact hfree id (Nat.le_trans hx.1 h1) h2
theorem cq.loop {c:Code} {T T':Env} {h h':aB} {e:Exit} (hx:mV P n c T h e T' h'):cq P n (.loop c) T h e T' h':=by
  obtain ⟨h1,k,h2⟩:=hx
  exact ⟨h1,fun Z μ F a w hfree s=>wp_loop_rounds k (h2 Z μ F a w hfree s)⟩
def jumps (P:Program) (c:Code) (Q:Exit→Act→World→Prop):Nat→Code→Act→World→Prop
  | 0,_,_,_=>False
  | k+1,x,a,w=>x.wp P (fun e a w=>match e with
    | .goto l=>(match findLabel c l with
      | some rest=>jumps P c Q k rest a w
      | none=>Q (.goto l) a w)
    | e=>Q e a w) a w
theorem Lu {c:Code} {Q:Exit→Act→World→Prop} {a:Act} {w:World} (k:Nat) (h:jumps P c Q k c a w):(Code.scope c).wp P Q a w:=by
  intro b K cs
  have key:∀ k x a w,jumps P c Q k x a w→∃ e a' w',Q e a' w'∧Arrives P (lone (b.at a (.code x :: .inScope c :: K)) cs w) b K cs e a' w':=by
    intro k
    induction k with
    | zero=>intro x a w h; exact h.elim
    | succ k ih =>
      intro x a w h
      obtain ⟨e,a₁,w₁,hq,harr⟩:=h b (.inScope c :: K) cs
      cases e with
      | normal=>exact ⟨.normal,a₁,w₁,hq,Steps.trans harr (.one step_inScope)⟩
      | exit id=>exact ⟨.exit id,a₁,w₁,hq,fun k' hk=>harr k' (by simp[exitTo,hk])⟩
      | goto l =>
        simp only at hq
        cases hf:findLabel c l with
        | some rest =>
          rw[hf] at hq
          obtain ⟨e₂,a₂,w₂,hq₂,harr₂⟩:=ih rest a₁ w₁ hq
          exact ⟨e₂,a₂,w₂,hq₂,.of_steps (harr _ (by simp[gotoIn,hf])) harr₂⟩
        | none =>
          rw[hf] at hq
          exact ⟨.goto l,a₁,w₁,hq,fun k' hk=>harr k' (by simp[gotoIn,hf,hk])⟩
      | ret=>exact ⟨_,a₁,w₁,hq,harr⟩
      | panic ch=>exact ⟨_,a₁,w₁,hq,harr⟩
      | outgrown=>exact ⟨_,a₁,w₁,hq,harr⟩
  obtain ⟨e,a',w',hq,harr⟩:=key k c a w h
  exact ⟨e,a',w',hq,.of_steps (.one step_scope) harr⟩
theorem yc {c:Code} {Q Q':Exit→Act→World→Prop} (hq:∀ e a w,Q e a w→Q' e a w):∀ (k:Nat) (x:Code) (a:Act) (w:World),jumps P c Q k x a w→jumps P c Q' k x a w
  | 0,_,_,_,h=>h
  | k+1,x,a,w,h=>by
    refine wp_mono h fun e a w h=>?_
    cases e with
    | goto l =>
      simp only at h ⊢
      split
      · rename_i rest hf; rw[hf] at h; exact yc hq k rest a w h
      · rename_i hf; rw[hf] at h; exact hq _ _ _ h
    | _=>exact hq _ _ _ h
def oK (P:Program) (n:Nat) (c x:Code) (T:Env) (h:aB) (e:Exit) (T':Env) (h':aB):Prop :=
  h.length≤h'.length∧∃ k,∀ Z μ F a w,(∀ id,h.length≤id→id < h'.length→μ id=none)→nF n Z μ F T h a w →
    jumps P c (fun e' a' w'=>e'=e∧∃ Z' μ',nF n Z' μ' F T' h' a' w'∧Ext Z μ w h.length Z' μ' w'∧(∀ id,id < h.length∨h'.length≤id→μ' id=μ id)) k x a w
def Gl (c:Code):Exit→Bool
  | .goto l=>(findLabel c l).isNone
  | _=>true
theorem oK.out {c x:Code} {T T1:Env} {h h1:aB} {e:Exit} (hx:cq P n x T h e T1 h1) (he:Gl c e=true):oK P n c x T h e T1 h1:=by
  refine ⟨hx.1,1,fun Z μ F a w hfree s=>?_⟩
  refine wp_mono (hx.2 Z μ F a w hfree s) ?_
  rintro e' a' w' ⟨rfl,h⟩
  cases e' with
  | goto l =>
    simp only[Gl,Option.isNone_iff_eq_none] at he
    simp only[he]; exact ⟨trivial,h⟩
  | _=>exact ⟨rfl,h⟩
theorem oK.jump {c x rest:Code} {T T1 T2:Env} {h h1 h2:aB} {e:Exit} {l:Nat} (hx:cq P n x T h (.goto l) T1 h1) (hf:findLabel c l=some rest) (hy:oK P n c rest T1 h1 e T2 h2):oK P n c x T h e T2 h2:=by
  obtain ⟨hy1,k,hy⟩:=hy
  refine ⟨Nat.le_trans hx.1 hy1,k+1,fun Z μ F a w hfree s=>?_⟩
  refine wp_mono (hx.2 Z μ F a w (fun id h1 h2=>hfree id h1 (Nat.lt_of_lt_of_le h2 hy1)) s) ?_
  rintro e' a' w' ⟨rfl,Z',μ',s',hex,hfix⟩
  simp only[hf]
  refine yc ?_ k rest a' w' (hy Z' μ' F a' w' (fun id h1 h2=>?_) s')
  · rintro e' a' w' ⟨he,Z',μ',s',hex',hfix'⟩
    refine ⟨he,Z',μ',s',hex.trans hex' hx.1 s.hr.lt,fun id hid=>?_⟩
    have:=hx.1
    rw[hfix' id (by omega),hfix id (by omega)]
  · rw[hfix id (.inr h1)]; exact hfree id (Nat.le_trans hx.1 h1) h2
theorem cq.scope {c:Code} {T T':Env} {h h':aB} {e:Exit} (hx:oK P n c c T h e T' h'):cq P n (.scope c) T h e T' h':=by
  obtain ⟨h1,k,h2⟩:=hx
  exact ⟨h1,fun Z μ F a w hfree s=>Lu k (h2 Z μ F a w hfree s)⟩
def jI (vs:List V):Env:=fun t=>vs.getD t .any
def pa (P:Program) (T:Env) (h:aB):ResultVar→Option V
  | .tmp t=>some (T t)
  | .cell a t=>(kh P t (T a) h.view).map (·.1)
def ka (P:Program) (T:Env) (h:aB):List ResultVar→Option (List V)
  | []=>some []
  | r :: rest=>match pa P T h r,ka P T h rest with
    | some v,some vs=>some (v :: vs)
    | _,_=>none
def Hg (P:Program) (fn:Func) (T:Env) (h:aB):Option V:=match ka P T h fn.results.toList with
  | some [v]=>some v
  | some vs=>some (.bc vs)
  | none=>none
theorem FL {Z:Nat→Prop} {μ:Mu} {F:View} {T:Env} {h:aB} {a:Act} {w:World} (s:nF n Z μ F T h a w) (f:ResultVar→Sem Value) (hf1:∀ t,f (.tmp t)=pure (a.tmps.getD t undef))
    (hf2:∀ p t,f (.cell p t)=(do loadVar t (← asAddr (a.tmps.getD p undef)))):∀ (l:List ResultVar) (vs:List V),ka P T h l=some vs →
    ∃ xs:List Value,(l.mapM f).run P w=.ok xs w∧dR Z μ w.heap vs xs
  | [],vs,hv=>by
    simp only[ka,Option.some.injEq] at hv; subst hv
    exact ⟨[],rfl,rfl,fun i hi=>by simp at hi⟩
  | r :: l,vs,hv=>by
    simp only[ka] at hv
    split at hv
    · rename_i v vs' h1 h2
      simp only[Option.some.injEq] at hv; subst hv
      obtain ⟨xs,hx,hr⟩:=FL s f hf1 hf2 l vs' h2
      have one:∃ x,(f r).run P w=.ok x w∧ay Z μ w.heap v x:=by
        cases r with
        | tmp t =>
          simp only[pa,Option.some.injEq] at h1; subst h1
          rw[hf1]
          exact ⟨_,rfl,s.tm t⟩
        | cell p t =>
          simp only[pa,Option.map_eq_some_iff] at h1
          obtain ⟨⟨v',eff,rd⟩,h3,rfl⟩:=h1
          have hp:=s.tm p
          rw[hf2]
          unfold kh at h3
          split at h3
          · rename_i id i j hT
            rw[hT] at hp
            obtain ⟨b,o0,sz,hm,hpe⟩:=kT hp
            split at h3
            · rename_i esz es hH
              split at h3
              · rename_i hi
                simp only[Option.map_eq_some_iff,Prod.mk.injEq] at h3
                obtain ⟨v'',hv',rfl,_,_⟩:=h3
                have hor:=s.hr.obj id
                have hcat:cat h F id=.arr esz es:=by
                  simp only[cat]; rw[if_pos (fU (by rw[hH]; simp)),hH]
                rw[hcat] at hor
                obtain ⟨y,hy,hvy⟩:=qi (P:=P) (rowOf hor hm hi).2 hv'
                exact ⟨y,by rw[hpe]; simp[asAddr,hy],hvy⟩
              · simp at h3
            · simp at h3
          · rename_i e j hT
            rw[hT] at hp
            obtain ⟨b,off,hz,hrow,hpe⟩:=pC hp
            simp only[Option.map_eq_some_iff,Prod.mk.injEq] at h3
            obtain ⟨v'',hv',rfl,_,_⟩:=h3
            obtain ⟨y,hy,hvy⟩:=qi (P:=P) hrow hv'
            exact ⟨y,by rw[hpe]; simp[asAddr,hy],hvy⟩
          · simp at h3
      obtain ⟨x,hx1,hv1⟩:=one
      refine ⟨x :: xs,?_,⟨by simp[hr.1],fun i hi=>?_⟩⟩
      · simp only[List.mapM_cons,Sem.run_bind]
        rw[hx1]
        simp only[Result.andThen_ok,Sem.run_bind]
        rw[hx]
        rfl
      · cases i with
        | zero=>exact hv1
        | succ i=>simpa using hr.2 i (by simpa using hi)
    · simp at hv
theorem bw.Fp {f:FuncId} {fn:Func} {c:Code} {vs:List V} {T':Env} {h h':aB} {e:Exit} {r:V} (hf:P.funcs[f]?=some fn) (hb:fn.body=some c) (hn:vs.length≤fn.ntmps)
    (hx:cq P fn.ntmps c (jI vs) h e T' h') (he:e=.ret∨e=.normal) (hr:Hg P fn T' h'=some r):bw P f vs h r h':=by
  refine ⟨hx.1,fun Z μ F w xs hrel hhr hfree=>calls_of_wp hf hb ?_⟩
  have hsize:(xs.toArray ++ Array.replicate (fn.ntmps - xs.toArray.size) undef).size=fn.ntmps:=by
    have:=hrel.1; simp; omega
  have hsim:nF fn.ntmps Z μ F (jI vs) h { tmps:=xs.toArray ++ Array.replicate (fn.ntmps - xs.toArray.size) undef,defers:=[] } w:=by
    refine ⟨rfl,hsize,fun t=>?_,hhr⟩
    unfold jI
    by_cases ht:t < vs.length
    · have:=hrel.2 t ht
      have ht':t < xs.length:=hrel.1 ▸ ht
      have h2:(xs.toArray ++ Array.replicate (fn.ntmps - xs.toArray.size) undef).getD t undef=xs.getD t undef:=by
        rw[Array.getD_eq_getD_getElem?,Array.getElem?_append_left (by simpa using ht')]
        simp[List.getD_eq_getElem?_getD]
      show ay Z μ w.heap (vs.getD t .any) ((xs.toArray ++ Array.replicate (fn.ntmps - xs.toArray.size) undef).getD t undef)
      rw[h2]; exact this
    · have:vs.getD t .any=.any:=by simp[List.getD_eq_getElem?_getD,List.getElem?_eq_none (Nat.le_of_not_lt ht)]
      rw[this]; exact .any _
  refine wp_mono (hx.2 Z μ F _ w hfree hsim) ?_
  rintro e' a' w' ⟨rfl,Z',μ',s',hex,hfix⟩
  have hres:∃ x,(results fn a'.tmps).run P w'=.ok x w'∧ay Z' μ' w'.heap r x:=by
    unfold Hg at hr
    have go:∀ vs',ka P T' h' fn.results.toList=some vs'→(match vs' with | [v]=>some v | vs=>some (.bc vs))=some r→∃ x,(results fn a'.tmps).run P w'=.ok x w'∧ay Z' μ' w'.heap r x:=by
      intro vs' h1 h2
      unfold results
      obtain ⟨xs',hx',hr'⟩:=FL s' (fun
          | .tmp t=>pure (a'.tmps.getD t undef)
          | .cell p t=>do loadVar t (← asAddr (a'.tmps.getD p undef))) (fun _=>rfl) (fun _ _=>rfl) _ _ h1
      rw[Array.mapM_eq_mapM_toList]
      simp only[Sem.run_bind,Sem.run_map]
      show ∃ x,(((((fn.results.toList.mapM (fun
          | .tmp t=>pure (a'.tmps.getD t undef)
          | .cell p t=>do loadVar t (← asAddr (a'.tmps.getD p undef)):ResultVar→Sem Value)).run P w').andThen fun a w'=>.ok a.toArray w').andThen fun a w'=>(pure (if h:a.size=1 then a[0] else Value.tuple a):Sem Value).run P w')=.ok x w')∧_
      rw[hx']
      simp only[Result.andThen_ok,Sem.run_pure]
      match vs',xs',hr',h2 with
      | [v],[x],hr',h2 =>
        simp only[Option.some.injEq] at h2
        subst h2
        exact ⟨x,rfl,hr'.2 0 (by simp)⟩
      | [],[],hr',h2 =>
        simp only[Option.some.injEq] at h2
        subst h2
        exact ⟨.tuple #[],rfl,.bc _ _ rfl (fun i hi=>by simp at hi)⟩
      | v1 :: v2 :: vs',x1 :: x2 :: xs',hr',h2 =>
        simp only[Option.some.injEq] at h2
        subst h2
        refine ⟨.tuple (x1 :: x2 :: xs').toArray,by simp,.bc _ _ (by simpa using hr'.1) (fun i hi=>?_)⟩
        have:=hr'.2 i hi
        simpa [Array.getD_eq_getD_getElem?,List.getD_eq_getElem?_getD] using this
      | [_],[],hr',_=>exact absurd hr'.1 (by simp)
      | [_],_ :: _ :: _,hr',_=>exact absurd hr'.1 (by simp)
      | [],_ :: _,hr',_=>exact absurd hr'.1 (by simp)
      | _ :: _ :: _,[],hr',_=>exact absurd hr'.1 (by simp)
      | _ :: _ :: _,[_],hr',_=>exact absurd hr'.1 (by simp)
    split at hr
    · rename_i v hv; exact go _ hv hr
    · rename_i vs' hne hv
      refine go _ hv ?_
      split
      · rename_i v; exact absurd rfl (hne v)
      · exact hr
    · simp at hr
  obtain ⟨x,hx1,hv1⟩:=hres
  rcases he with rfl | rfl
  · exact ⟨s'.defers,x,hx1,x,Z',μ',rfl,hv1,s'.hr,hex,hfix⟩
  · exact ⟨s'.defers,x,hx1,x,Z',μ',rfl,hv1,s'.hr,hex,hfix⟩
end
end Gv
