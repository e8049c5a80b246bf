/-
  Part 16 of the proof: what the machine does and what the functions answer.
  Conditions: those that each lemma names.
-/
import Derived.Test.YtkkdjpnkhhlnpaaGreatSGzYO
set_option linter.unusedSimpArgs false
set_option linter.unusedVariables false
set_option maxRecDepth 100000
namespace Gv
open Go Go.Proofs
def cw:Nat→List Cell→List ej
  | _,[]=>[]
  | i,c :: l=>if c=⟨0,0⟩ then cw (i+1) l else ⟨i,c⟩ :: cw (i+1) l
def cy:Nat→List Int→List de
  | _,[]=>[]
  | i,x :: l=>if x = -1 then cy (i+1) l else ⟨i,x⟩ :: cy (i+1) l
def du {β:Type} [DecidableEq β]:List β→β→Nat
  | [],_=>0
  | y :: l,x=>if y=x then 0 else du l x+1
theorem zr {β:Type} [DecidableEq β]:∀ (l:List β) (x:β),du l x≤l.length
  | [],_=>Nat.le_refl _
  | y :: l,x=>by
    have:=zr l x
    rw[du]; split <;> simp; omega
theorem zw {β:Type} [DecidableEq β]:∀ (l:List β) (x:β),du l x < l.length→l[du l x]?=some x
  | [],_,h=>by simp at h
  | y :: l,x,h=>by
    rw[du] at h ⊢
    split
    · rename_i e; simp[e]
    · rename_i e
      rw[if_neg e] at h
      simp only[List.length_cons] at h
      simpa using zw l x (by omega)
theorem CZ {β:Type} [DecidableEq β]:∀ (l:List β) (x:β) (i:Nat) (y:β),i < du l x→l[i]?=some y→y≠x
  | [],_,_,_,h,_=>by simp[du] at h
  | z :: l,x,i,y,h,hy=>by
    rw[du] at h
    split at h
    · omega
    · rename_i e
      cases i with
      | zero=>simp at hy; subst hy; exact e
      | succ i=>exact CZ l x i y (by omega) (by simpa using hy)
def ef {β:Type} [DecidableEq β] (p:List β × List Int) (x:β):List β × List Int:=(if du p.1 x=p.1.length then p.1 ++ [x] else p.1,p.2 ++ [(du p.1 x:Int)])
def fu {β:Type} [DecidableEq β] (l:List β):List β × List Int:=l.foldl ef ([],[])
structure yn {β:Type} (l:List β) (p:List β × List Int):Prop where
  len:p.2.length=l.length
  le:p.1.length≤l.length
  mem:∀ x∈p.1,x∈l
  at_:∀ (i:Nat) (x:β),l[i]?=some x→∃ n:Nat,p.2[i]?=some (n:Int)∧p.1[n]?=some x
theorem MG {β:Type} [DecidableEq β] {l:List β} {p:List β × List Int} (h:yn l p) (x:β):yn (l ++ [x]) (ef p x):=by
  have hle:=zr p.1 x
  refine ⟨by simp[ef,h.len],?_,fun y hy=>?_,fun i y hy=>?_⟩
  · unfold ef
    have:=h.le
    simp only
    split <;> simp <;> omega
  · unfold ef at hy
    simp only at hy
    split at hy
    · rcases List.mem_append.1 hy with hy | hy
      · simp[h.mem y hy]
      · simp at hy; simp[hy]
    · simp[h.mem y hy]
  · unfold ef
    simp only
    rcases Nat.lt_or_ge i l.length with hi | hi
    · rw[List.getElem?_append_left hi] at hy
      obtain ⟨n,h1,h2⟩:=h.at_ i y hy
      refine ⟨n,by rw[List.getElem?_append_left (by rw[h.len]; exact hi)]; exact h1,?_⟩
      split
      · rw[List.getElem?_append_left (List.getElem?_eq_some_iff.1 h2).1]; exact h2
      · exact h2
    · rw[List.getElem?_append_right hi] at hy
      have hq:i - l.length=0:=by
        cases hq:i - l.length with
        | zero=>rfl
        | succ q=>rw[hq] at hy; simp at hy
      rw[hq] at hy
      simp at hy
      subst hy
      refine ⟨du p.1 x,by rw[List.getElem?_append_right (by rw[h.len]; exact hi),h.len,hq]; rfl,?_⟩
      split
      · rename_i e
        rw[e,List.getElem?_append_right (Nat.le_refl _),Nat.sub_self]; rfl
      · exact zw _ _ (by omega)
theorem Ap {β:Type} [DecidableEq β]:∀ (r l:List β) (p:List β × List Int),yn l p→yn (l ++ r) (r.foldl ef p)
  | [],l,p,h=>by simpa using h
  | x :: r,l,p,h=>by
    have:=Ap r (l ++ [x]) (ef p x) (MG h x)
    simpa using this
theorem gZ {β:Type} [DecidableEq β] (l:List β):yn l (fu l):=by
  have:=Ap l [] ([],[]) ⟨rfl,Nat.le_refl _,fun x hx=>by simp at hx,fun i x h=>by simp at h⟩
  rw[List.nil_append] at this
  exact this
def fS (t:dx):ju:=⟨((t.aK.getD 0 []).length:Int) - 1,(t.gotos.getD 0 []).length,(fu (t.aK.map (cw 0))).1,(fu (t.aK.map (cw 0))).2,(fu (t.gotos.map (cy 0))).1,(fu (t.gotos.map (cy 0))).2⟩
structure lC (t:dx) (n m:Nat):Prop where
  F0:n≤24
  aA:m≤16
  qQ:1≤t.aK.length
  len:t.aK.length≤300
  gf:t.gotos.length=t.aK.length
  row:∀ r∈t.aK,r.length=n+1
  go:∀ r∈t.gotos,r.length=m
theorem B4:∀ (l:List Cell) (pre:List Cell),ix (cw pre.length l) (pre ++ List.replicate l.length ⟨0,0⟩)=pre ++ l
  | [],pre=>by simp[cw,ix]
  | c :: l,pre=>by
    have ih:=B4 l (pre ++ [c])
    simp only[List.length_append,List.length_cons,List.length_nil,Nat.zero_add,List.append_assoc,List.cons_append,List.nil_append] at ih
    rw[cw]
    split
    · rename_i e; subst e
      simpa [List.replicate_succ] using ih
    · simp only[ix,List.foldl_cons,Int.toNat_natCast,List.length_cons,List.replicate_succ]
      rw[List.set_append_right _ _ (Nat.le_refl _),Nat.sub_self,List.set_cons_zero]
      exact ih
theorem B7:∀ (l:List Int) (pre:List Int),jH (cy pre.length l) (pre ++ List.replicate l.length (-1))=pre ++ l
  | [],pre=>by simp[cy,jH]
  | c :: l,pre=>by
    have ih:=B7 l (pre ++ [c])
    simp only[List.length_append,List.length_cons,List.length_nil,Nat.zero_add,List.append_assoc,List.cons_append,List.nil_append] at ih
    rw[cy]
    split
    · rename_i e; subst e
      simpa [List.replicate_succ] using ih
    · simp only[jH,List.foldl_cons,Int.toNat_natCast,List.length_cons,List.replicate_succ]
      rw[List.set_append_right _ _ (Nat.le_refl _),Nat.sub_self,List.set_cons_zero]
      exact ih
theorem uJ {t:Int} : ∀ (l:List Cell) (i:Nat) (last:Int),last < i→(i:Int)+l.length≤t+1→lK t last (cw i l)=true
  | [],_,_,_,_=>by simp[cw,lK]
  | c :: l,i,last,h1,h2=>by
    simp only[List.length_cons] at h2
    rw[cw]
    split
    · exact uJ l (i+1) last (by omega) (by omega)
    · rename_i hc
      simp only[lK,Bool.and_eq_true,decide_eq_true_eq]
      exact ⟨⟨⟨h1,by omega⟩,hc⟩,uJ l (i+1) i (by omega) (by omega)⟩
theorem uN {t:Int} : ∀ (l:List Int) (i:Nat) (last:Int),last < i→(i:Int)+l.length≤t→lP t last (cy i l)=true
  | [],_,_,_,_=>by simp[cy,lP]
  | c :: l,i,last,h1,h2=>by
    simp only[List.length_cons] at h2
    rw[cy]
    split
    · exact uN l (i+1) last (by omega) (by omega)
    · rename_i hc
      simp only[lP,Bool.and_eq_true,decide_eq_true_eq]
      exact ⟨⟨⟨h1,by omega⟩,hc⟩,uN l (i+1) i (by omega) (by omega)⟩
theorem qE:∀ (l:List Cell) (i:Nat),(cw i l).length≤l.length
  | [],_=>Nat.le_refl _
  | c :: l,i=>by
    have:=qE l (i+1)
    rw[cw]; split <;> simp <;> omega
theorem qI:∀ (l:List Int) (i:Nat),(cy i l).length≤l.length
  | [],_=>Nat.le_refl _
  | c :: l,i=>by
    have:=qI l (i+1)
    rw[cy]; split <;> simp <;> omega
theorem zg:∀ (l:List Cell) (i:Nat),∀ x∈cw i l,x.cell∈l∧(i:Int)≤x.eP∧x.eP < i+l.length
  | [],_,x,h=>by simp[cw] at h
  | c :: l,i,x,h=>by
    rw[cw] at h
    simp only[List.length_cons]
    split at h
    · have:=zg l (i+1) x h
      exact ⟨by simp[this.1],by omega,by omega⟩
    · rcases List.mem_cons.1 h with rfl | h
      · exact ⟨by simp,by simp,by simp only; omega⟩
      · have:=zg l (i+1) x h
        exact ⟨by simp[this.1],by omega,by omega⟩
theorem yF:∀ (l:List Int) (i:Nat),∀ x∈cy i l,x.to∈l∧(i:Int)≤x.sym∧x.sym < i+l.length
  | [],_,x,h=>by simp[cy] at h
  | c :: l,i,x,h=>by
    rw[cy] at h
    simp only[List.length_cons]
    split at h
    · have:=yF l (i+1) x h
      exact ⟨by simp[this.1],by omega,by omega⟩
    · rcases List.mem_cons.1 h with rfl | h
      · exact ⟨by simp,by simp,by simp only; omega⟩
      · have:=yF l (i+1) x h
        exact ⟨by simp[this.1],by omega,by omega⟩
theorem lC.first {t:dx} {n m:Nat} (h:lC t n m):(t.aK.getD 0 []).length=n+1∧(t.gotos.getD 0 []).length=m:=by
  have h1:=h.qQ
  have h2:=h.gf
  exact ⟨h.row _ (List.mem_of_getElem? (getD_some (d:=[]) (by omega))),h.go _ (List.mem_of_getElem? (getD_some (d:=[]) (by omega)))⟩
theorem Ar {t:dx} {n m:Nat} (h:lC t n m):ec (fS t)=t:=by
  have s1:=gZ (t.aK.map (cw 0))
  have s2:=gZ (t.gotos.map (cy 0))
  obtain ⟨f1,f2⟩:=h.first
  obtain ⟨A,G⟩:=t
  simp only[ec,fS,f1,f2] at s1 s2 ⊢
  have l1:=s1.len
  have l2:=s2.len
  simp only[List.length_map] at l1 l2
  congr 1
  · refine List.ext_getElem (by simp[l1]) fun i h1 h2=>?_
    obtain ⟨k,k1,k2⟩:=s1.at_ i (cw 0 A[i]) (by rw[List.getElem?_map,List.getElem?_eq_getElem h2]; rfl)
    simp only[List.getElem_map]
    have e:(fu (A.map (cw 0))).2[i]'(by omega)=(k:Int):=by
      rw[List.getElem?_eq_getElem (by omega)] at k1; simpa using k1
    rw[e,Int.toNat_natCast,List.getD_eq_getElem?_getD,k2]
    have hr:=h.row A[i] (List.getElem_mem _)
    have:=B4 A[i] []
    simp only[List.length_nil,List.nil_append,hr] at this
    rw[show ((((n+1:Nat):Int) - 1).toNat+1)=n+1 by omega]
    exact this
  · refine List.ext_getElem (by simp[l2]) fun i h1 h2=>?_
    obtain ⟨k,k1,k2⟩:=s2.at_ i (cy 0 G[i]) (by rw[List.getElem?_map,List.getElem?_eq_getElem h2]; rfl)
    simp only[List.getElem_map]
    have e:(fu (G.map (cy 0))).2[i]'(by omega)=(k:Int):=by
      rw[List.getElem?_eq_getElem (by omega)] at k1; simpa using k1
    rw[e,Int.toNat_natCast,List.getD_eq_getElem?_getD,k2]
    have hr:=h.go G[i] (List.getElem_mem _)
    have:=B7 G[i] []
    simp only[List.length_nil,List.nil_append,hr] at this
    rw[Int.toNat_natCast]
    exact this
theorem wj {β:Type} [DecidableEq β] {l:List β} : ∀ x∈(fu l).2,0≤x∧x < ((fu l).1.length:Int):=by
  intro x hx
  have s:=gZ l
  obtain ⟨i,hi,e⟩:=List.mem_iff_getElem.1 hx
  have hl:i < l.length:=by have:=s.len; omega
  obtain ⟨n,h1,h2⟩:=s.at_ i l[i] (List.getElem?_eq_getElem hl)
  rw[List.getElem?_eq_getElem hi,e] at h1
  simp only[Option.some.injEq] at h1
  have:=(List.getElem?_eq_some_iff.1 h2).1
  omega
theorem CB {t:dx} {n m:Nat} (h:lC t n m):iF (fS t)=true:=by
  obtain ⟨f1,f2⟩:=h.first
  have s1:=gZ (t.aK.map (cw 0))
  have s2:=gZ (t.gotos.map (cy 0))
  have l1:=s1.len
  have l2:=s2.len
  have l3:=s1.le
  have l4:=s2.le
  have hg:=h.gf; have h1:=h.qQ; have h2:=h.len; have hn:=h.F0; have hm:=h.aA
  simp only[List.length_map] at l1 l2 l3 l4
  unfold iF
  simp only[Bool.and_eq_true,decide_eq_true_eq,List.all_eq_true,fS,f1,f2]
  refine ⟨⟨⟨⟨by omega,wj⟩,wj⟩,fun r hr=>?_⟩,fun r hr=>?_⟩
  · obtain ⟨x,hx,rfl⟩:=List.mem_map.1 (s1.mem r hr)
    have:=h.row x hx
    exact uJ x 0 (-1) (by omega) (by omega)
  · obtain ⟨x,hx,rfl⟩:=List.mem_map.1 (s2.mem r hr)
    have:=h.go x hx
    exact uN x 0 (-1) (by omega) (by omega)
theorem Iu {t:dx} (ht:t.Ok) {n m:Nat} (h:lC t n m):(fS t).Ok:=by
  obtain ⟨f1,f2⟩:=h.first
  have s1:=gZ (t.aK.map (cw 0))
  have s2:=gZ (t.gotos.map (cy 0))
  have l1:=s1.len
  have l2:=s2.len
  have l3:=s1.le
  have l4:=s2.le
  have hg:=h.gf; have h1:=h.qQ; have h2:=h.len; have hn:=h.F0; have hm:=h.aA
  simp only[List.length_map] at l1 l2 l3 l4
  refine ⟨?_,?_,?_,⟨?_,fun x hx=>?_⟩,?_,⟨?_,fun x hx=>?_⟩,fun r hr=>?_,fun r hr=>?_⟩
  · simp only[fS,f1,bJ]; omega
  · simp only[fS,f2,bJ]; omega
  · simp only[fS,aL]; omega
  · simp only[fS,aL]; omega
  · have:=wj x hx; simp only[bJ]; omega
  · simp only[fS,aL]; omega
  · simp only[fS,aL]; omega
  · have:=wj x hx; simp only[bJ]; omega
  · obtain ⟨x,hx,rfl⟩:=List.mem_map.1 (s1.mem r hr)
    have hx2:=h.row x hx
    have hl:=qE x 0
    refine ⟨by simp only[aL]; omega,fun c hc=>?_⟩
    obtain ⟨c1,c2,c3⟩:=zg x 0 c hc
    have:=(ht.row x hx).2 _ c1
    exact ⟨by simp only[bJ]; omega,this.1,this.2⟩
  · obtain ⟨x,hx,rfl⟩:=List.mem_map.1 (s2.mem r hr)
    have hx2:=h.go x hx
    have hl:=qI x 0
    refine ⟨by simp only[aL]; omega,fun c hc=>?_⟩
    obtain ⟨c1,c2,c3⟩:=yF x 0 c hc
    exact ⟨by simp only[bJ]; omega,(ht.go x hx).2 _ c1⟩
inductive gY (P:Program) (d:Nat) (xs ys:Array Value):List Field→Bool→Prop
  | nil:gY P d xs ys [] true
  | any (f:Field) (l:List Field) (c e:Bool) (a b:Value):(f.name≠ "_")→bj P (part f.type xs f.offset)=some a→bj P (part f.type ys f.offset)=some b→bj P (Op.equalIn (d+1) f.type a b)=some e→gY P d xs ys l c→gY P d xs ys (f :: l) (e && c)
theorem gY.forIn {P:Program} {d e:Nat} {xs ys:Array Value} {l:List Field} {c:Bool} (h:gY P d xs ys l c) (hd:e=d+1) :
    bj P (forIn l ((none:Option Bool),()) fun f _ =>
        if f.name≠ "_" then do
          let a ← part f.type xs f.offset
          let b ← part f.type ys f.offset
          let e ← Op.equalIn e f.type a b
          if (!e)=true then pure (ForInStep.done (some false,())) else pure (ForInStep.yield (none,()))
        else pure (ForInStep.yield (none,())))=some (if c=true then (none,()) else (some false,())):=by
  subst hd
  induction h with
  | nil=>rfl
  | any f l c e a b hn hx hy he _ ih =>
    rw[List.forIn_cons,bb,if_pos hn,bb,hx,Option.bind_some,bb,hy,Option.bind_some,bb,he,Option.bind_some]
    cases e with
    | false=>rfl
    | true=>exact ih
theorem vh {P:Program} {d:Nat} {t:TypeId} {fs:Array Field} {xs ys:Array Value} {c:Bool} (hu:P.underlying t=some (.struct fs)) (hs:P.stoodInHeld t=false) (h:gY P d xs ys fs.toList c) :
    bj P (Op.equalIn (d+1+1) t (.agg xs) (.agg ys))=some c:=by
  rw[Op.equalIn,bb,dD hu,Option.bind_some]
  have hst:(bj P program)=some P:=rfl
  rw[bb,hst,Option.bind_some,hs]
  simp only[← Array.forIn_toList,Bool.false_eq_true,if_false]
  rw[bb,h.forIn (e:=d+1) rfl,Option.bind_some]
  cases c <;> rfl
theorem uO {P:Program} {d:Nat} {t:TypeId} {k:IntKind} (hu:P.underlying t=some (.int k)) (a b:Int):bj P (Op.equalIn (d+1) t (.int k a) (.int k b))=some (a == b):=by
  simp only[Op.equalIn,bb,dD hu,Option.bind_some]; rfl
theorem Bi {P:Program} {o:Oper} {T:Env} {op:BinOp} {t u:TypeId} {x y:Operand} {xs ys:Array Value} {c r:Bool} (ho:o.op=.binOp op t x y u) (he:bj P (Op.equal t (.agg xs) (.agg ys))=some c) (hg:P.eqGuardType P.depth t=false)
    (hx:cx (ev T x)=some (.agg xs)) (hy:cx (ev T y)=some (.agg ys)) (hr:(op=.eql∧r=c)∨(op=.neq∧r = !c)) :
    df P o T=some (.val (.bool r),.none,[]):=by
  have hst:(bj P program)=some P:=rfl
  unfold df
  simp only[ho,Op.operands]
  rcases hr with ⟨rfl,rfl⟩ | ⟨rfl,rfl⟩
  · simp[execOp,ho,hx,hy,eqGuard,binOp,fD,bb,hst,hg,he,plain]
    try simp[bj,pure]
  · simp[execOp,ho,hx,hy,eqGuard,binOp,fD,bb,hst,hg,he,plain]
    try simp[bj,pure]
theorem GD {P:Program} {T:Env} {H:View} {K:V→View→Prop} {w:cI (T,H,K)} {op:BinOp} {t u ty:TypeId} {x y:Operand} {fs:Array Field} {xs ys:Array Value} {c r:Bool} (hu:P.underlying t=some (.struct fs)) (hs:P.stoodInHeld t=false) (hg:P.eqGuardType P.depth t=false)
    (hx:cx (ev T x)=some (.agg xs)) (hy:cx (ev T y)=some (.agg ys)) (h:gY P 9998 xs ys fs.toList c) (hr:(op=.eql∧r=c)∨(op=.neq∧r = !c)) (hk:K (.val (.bool r)) H):pz P (.binOp op t x y u) ty T H K w:=by
  intro n _
  refine ⟨.val (.bool r),.none,[],?_,hk⟩
  have hn:gF P t=none:=by simp[gF,hu]
  simp only[sI,bT,oper,hn]
  simp only[Option.isSome_none,Bool.false_eq_true,if_false]
  have he:bj P (Op.equal t (.agg xs) (.agg ys))=some c:=by
    rw[iX]
    exact vh hu hs h
  exact Bi rfl he hg hx hy hr
theorem Qx (x y:Cell):gY Tryz.prog 9997 #[.int .i64 x.kind,.int .i64 x.n] #[.int .i64 y.kind,.int .i64 y.n]
    [{ name:= "Kind",type:=3,offset:=0,embedded:=false,tag:= "",pkgPath:= "",byteOffset:=0 },{ name:= "N",type:=3,offset:=1,embedded:=false,tag:= "",pkgPath:= "",byteOffset:=8 }] ((x.kind == y.kind) && ((x.n == y.n) && true)) :=
  .any _ _ _ _ _ _ (by decide) (ed Tryz.underlying3 (.inr ⟨_,rfl⟩) _ _ rfl) (ed Tryz.underlying3 (.inr ⟨_,rfl⟩) _ _ rfl) (uO Tryz.underlying3 _ _)
    (.any _ _ _ _ _ _ (by decide) (ed Tryz.underlying3 (.inr ⟨_,rfl⟩) _ _ rfl) (ed Tryz.underlying3 (.inr ⟨_,rfl⟩) _ _ rfl) (uO Tryz.underlying3 _ _) .nil)
theorem DP (a b c:Int):bj Tryz.prog (part 89 #[.int .i64 a,.int .i64 b,.int .i64 c] 1)=some (.agg #[.int .i64 b,.int .i64 c]):=by kernel_rfl
theorem Ov (x y:ej):gY Tryz.prog 9998 #[.int .i64 x.eP,.int .i64 x.cell.kind,.int .i64 x.cell.n] #[.int .i64 y.eP,.int .i64 y.cell.kind,.int .i64 y.cell.n]
    [{ name:= "Col",type:=3,offset:=0,embedded:=false,tag:= "",pkgPath:= "",byteOffset:=0 },{ name:= "Cell",type:=89,offset:=1,embedded:=false,tag:= "",pkgPath:= "",byteOffset:=8 }] ((x.eP == y.eP) && (((x.cell.kind == y.cell.kind) && ((x.cell.n == y.cell.n) && true)) && true)) :=
  .any _ _ _ _ _ _ (by decide) (ed Tryz.underlying3 (.inr ⟨_,rfl⟩) _ _ rfl) (ed Tryz.underlying3 (.inr ⟨_,rfl⟩) _ _ rfl) (uO Tryz.underlying3 _ _)
    (.any _ _ _ _ _ _ (by decide) (DP _ _ _) (DP _ _ _) (vh Tryz.underlying89 (by kernel_rfl) (Qx x.cell y.cell)) .nil)
theorem Mi (x y:ej):((x.eP == y.eP) && (((x.cell.kind == y.cell.kind) && ((x.cell.n == y.cell.n) && true)) && true))=decide (x=y):=by
  obtain ⟨a,b,c⟩:=x
  obtain ⟨d,e,f⟩:=y
  rw [Bool.eq_iff_iff]; simp
theorem Nt (x y:de):eX Tryz.prog 9998 #[.int .i64 x.sym,.int .i64 x.to] #[.int .i64 y.sym,.int .i64 y.to]
    [{ name:= "Sym",type:=3,offset:=0,embedded:=false,tag:= "",pkgPath:= "",byteOffset:=0 },{ name:= "To",type:=3,offset:=1,embedded:=false,tag:= "",pkgPath:= "",byteOffset:=8 }] ((x.sym == y.sym) && ((x.to == y.to) && true)) :=
  .int _ _ _ .i64 _ _ (by decide) Tryz.underlying3 rfl rfl (.int _ _ _ .i64 _ _ (by decide) Tryz.underlying3 rfl rfl .nil)
theorem Q2 (x y:de):((x.sym == y.sym) && ((x.to == y.to) && true))=decide (x=y):=by
  cases x; cases y; rw [Bool.eq_iff_iff]; simp
theorem GM (l:List ej):Tree (eR l):=cL _ _ fun x _ v hv=>by simp[en] at hv; rcases hv with rfl | rfl | rfl <;> exact .val _
theorem FO (l:List de):Tree (eE l):=cL _ _ fun x _ v hv=>by simp[dn] at hv; rcases hv with rfl | rfl <;> exact .val _
def kT:SC :=
  .seq (.seq (ak [aa 11 5,aa 12 0,aM 13 12,aR 14 .lss 11 13]) <|
  .cond (.tmp 14) (.skip) (.exit 0)) <|
  .seq (.block 1 (.seq (ak [aa 17 0,aa 18 5,aS 19 3 17 18,aO 20 3 19,aa 21 1,aa 22 5,aS 23 3 21 22,aO 24 3 23,((some 25),.op (.old (.binOp .neq 164 (.tmp 20) (.tmp 24) 164) 4))]) <|
  .cond (.tmp 25) (.seq (ak [aZ 4 false]) <|
  .ret) (.skip))) <|
  ak [aa 15 5,az 16 .add 15 1,aa 5 16]
def my:SF:=⟨.seq (ak [aZ 4 false]) <|
  .seq (.seq (ak [aa 6 0,aM 7 6,aa 8 1,aM 9 8,aR 10 .neq 7 9]) <|
  .cond (.tmp 10) (.seq (ak [aZ 4 false]) <|
  .ret) (.skip)) <|
  .seq (.seq (ak [aI 5 0]) <|
  .block 0 (.loop kT)) <|
  .seq (ak [aZ 4 true]) <|
  .ret,
  [.tmp 4],26⟩
theorem sS:aY Tryz.prog 58 []=some my:=by kernel_rfl
def mO:SC :=
  .seq (.seq (ak [aa 11 5,aa 12 0,aM 13 12,aR 14 .lss 11 13]) <|
  .cond (.tmp 14) (.skip) (.exit 0)) <|
  .seq (.block 1 (.seq (ak [aa 17 0,aa 18 5,aS 19 2 17 18,aO 20 2 19,aa 21 1,aa 22 5,aS 23 2 21 22,aO 24 2 23,((some 25),.op (.old (.binOp .neq 72 (.tmp 20) (.tmp 24) 72) 4))]) <|
  .cond (.tmp 25) (.seq (ak [aZ 4 false]) <|
  .ret) (.skip))) <|
  ak [aa 15 5,az 16 .add 15 1,aa 5 16]
def oq:SF:=⟨.seq (ak [aZ 4 false]) <|
  .seq (.seq (ak [aa 6 0,aM 7 6,aa 8 1,aM 9 8,aR 10 .neq 7 9]) <|
  .cond (.tmp 10) (.seq (ak [aZ 4 false]) <|
  .ret) (.skip)) <|
  .seq (.seq (ak [aI 5 0]) <|
  .block 0 (.loop mO)) <|
  .seq (ak [aZ 4 true]) <|
  .ret,
  [.tmp 4],26⟩
theorem uG:aY Tryz.prog 59 []=some oq:=by kernel_rfl
def oo:SC :=
  .seq (.seq (ak [aa 5 4,aa 6 0,aM 7 6,aR 8 .lss 5 7]) <|
  .cond (.tmp 8) (.skip) (.exit 0)) <|
  .seq (.block 1 (.seq (ak [aa 11 0,aa 12 4,aS 13 2 11 12,aO 14 2 13,((some 15),.op (.build [(.val (.int .i64 0)),(.val (.int .i64 0))] [])),((some 16),.op (.old (.binOp .neq 89 (.tmp 14) (.tmp 15) 89) 4))]) <|
  .cond (.tmp 16) (ak [aa 17 3,aa 18 4,aa 19 0,aa 20 4,aS 21 2 19 20,aO 22 2 21,((some 23),.op (.build [(.val (.int .i64 0)),(.val (.int .i64 0)),(.val (.int .i64 0))] [(0,1,(.tmp 18)),(1,2,(.tmp 22))])),((some 24),.op (.bh 1 3 [(.val (.int .i64 0)),(.val (.int .i64 0)),(.val (.int .i64 0))] [(0,(.tmp 23))])),((some 25),.op (.app 3 24 (.tmp 17) (.tmp 24))),aa 3 25]) (.skip))) <|
  ak [aa 9 4,az 10 .add 9 1,aa 4 10]
def rz:SF:=⟨.seq (ak [((some 2),.op (.bo (.val (.emp 1))))]) <|
  .seq (ak [((some 3),.op (.bo (.val (.emp 1))))]) <|
  .seq (.seq (ak [aI 4 0]) <|
  .block 0 (.loop oo)) <|
  .seq (ak [aa 26 3,aa 2 26]) <|
  .ret,
  [.tmp 2],27⟩
theorem wY:aY Tryz.prog 56 []=some rz:=by kernel_rfl
def mJ:SC :=
  .seq (.seq (ak [aa 5 4,aa 6 0,aM 7 6,aR 8 .lss 5 7]) <|
  .cond (.tmp 8) (.skip) (.exit 0)) <|
  .seq (.block 1 (.seq (ak [aa 11 0,aa 12 4,aS 13 1 11 12,ao 14 13,az 15 .neq 14 (-1)]) <|
  .cond (.tmp 15) (ak [aa 16 3,aa 17 4,aa 18 0,aa 19 4,aS 20 1 18 19,ao 21 20,((some 22),.op (.build [(.val (.int .i64 0)),(.val (.int .i64 0))] [(0,1,(.tmp 17)),(1,1,(.tmp 21))])),((some 23),.op (.bh 1 2 [(.val (.int .i64 0)),(.val (.int .i64 0))] [(0,(.tmp 22))])),((some 24),.op (.app 2 16 (.tmp 16) (.tmp 23))),aa 3 24]) (.skip))) <|
  ak [aa 9 4,az 10 .add 9 1,aa 4 10]
def ou:SF:=⟨.seq (ak [((some 2),.op (.bo (.val (.emp 1))))]) <|
  .seq (ak [((some 3),.op (.bo (.val (.emp 1))))]) <|
  .seq (.seq (ak [aI 4 0]) <|
  .block 0 (.loop mJ)) <|
  .seq (ak [aa 25 3,aa 2 25]) <|
  .ret,
  [.tmp 2],26⟩
theorem uf:aY Tryz.prog 57 []=some ou:=by kernel_rfl
def lD:SC :=
  .seq (.seq (ak [aa 35 5,au 36 0 1,ao 37 36,aM 38 37,aR 39 .lss 35 38]) <|
  .cond (.tmp 39) (.skip) (.exit 0)) <|
  .seq (.block 1 (.seq (.region false [⟨none,[au 42 0 1,ao 43 42,aa 44 5,aS 45 1 43 44,ao 46 45,aM 47 46,aa 48 3,aR 49 .neq 47 48,aa 50 49]⟩,⟨(some (50,false)),[au 51 1 1,ao 52 51,aa 53 5,aS 54 1 52 53,ao 55 54,aM 56 55,aa 57 4,aR 58 .neq 56 57]⟩,⟨none,[bB 59 50 58]⟩]) <|
  .cond (.tmp 59) (.seq (ak [aZ 2 false]) <|
  .ret) (.skip))) <|
  ak [aa 40 5,az 41 .add 40 1,aa 5 41]
def nK:SF:=⟨.seq (ak [bW 1 0,aZ 2 false]) <|
  .seq (.seq (.region false [⟨none,[au 6 0 1,ao 7 6,aM 8 7,az 9 .lss 8 1,aa 10 9]⟩,⟨(some (10,false)),[au 11 0 1,ao 12 11,aM 13 12,az 14 .gtr 13 300]⟩,⟨none,[bB 15 10 14,aa 16 15]⟩,⟨(some (16,false)),[au 17 1 1,ao 18 17,aM 19 18,au 20 0 1,ao 21 20,aM 22 21,aR 23 .neq 19 22]⟩,⟨none,[bB 24 16 23]⟩]) <|
  .cond (.tmp 24) (.seq (ak [aZ 2 false]) <|
  .ret) (.skip)) <|
  .seq (ak [au 25 0 1,ao 26 25,((some 27),.op (.idx 1 (.tmp 26) (.val (.val (.int .i64 0))))),ao 28 27,aM 29 28,au 30 1 1,ao 31 30,((some 32),.op (.idx 1 (.tmp 31) (.val (.val (.int .i64 0))))),ao 33 32,aM 34 33,aa 3 29,aa 4 34]) <|
  .seq (.seq (ak [aI 5 0]) <|
  .block 0 (.loop lD)) <|
  .seq (.region false [⟨none,[aa 60 3,az 61 .geq 60 1,aa 62 61]⟩,⟨(some (62,true)),[aa 63 3,az 64 .leq 63 25]⟩,⟨none,[bF 65 62 64,aa 66 65]⟩,⟨(some (66,true)),[aa 67 4,az 68 .leq 67 16]⟩,⟨none,[bF 69 66 68,aa 2 69]⟩]) <|
  .ret,
  [.tmp 2],70⟩
theorem tb:aY Tryz.prog 55 [1]=some nK:=by kernel_rfl
theorem Fy (a b:List ej) (ha:aL a) (hb:aL b):aD Tryz.prog 58 [eR a,eR b] (gb (a == b)):=by
  unfold aL at ha hb
  refine aD.val (by
    intro v hv; simp at hv
    rcases hv with rfl | rfl <;> exact GM _) fun H=>?_
  refine aC.of mixed sS ?_
  simp (disch:=omega) only [↓wr,↓reduceIte,wq,ah,ag,aj,Nat.reduceEqDiff,Nat.reduceAdd,Nat.reduceLeDiff,reduceCtorEq,my]
  refine av.ne (fun h=>?_) (fun h=>?_)
  · simp (disch:=omega) only [↓wr,↓reduceIte,wq,reduceCtorEq]
    have:(a == b)=false:=by simp; rintro rfl; exact h rfl
    rw[this]
  · simp (disch:=omega) only [↓wr,wq]
    refine ba.up a.length (fun i T H'=>a.take i=b.take i∧T 0=eR a∧T 1=eR b∧T 5=gi i) ⟨rfl,rfl,rfl,rfl⟩ ?_
    rintro i k T H' hk ⟨he,t0,t1,t5⟩
    simp (disch:=omega) only [↓wr,↓reduceIte,wq,ag,aj,Nat.reduceEqDiff,reduceCtorEq,kT,t0,t5]
    refine av.dec (fun hc=>?_) (fun hc=>?_)
    · have hx:a[i]?=some (a[i]'(by omega)):=List.getElem?_eq_getElem (by omega)
      have hy:b[i]?=some (b[i]'(by omega)):=List.getElem?_eq_getElem (by omega)
      generalize a[i]'(by omega)=x at hx
      generalize b[i]'(by omega)=y at hy
      simp (disch:=omega) only [↓wr,↓reduceIte,wq,Nat.reduceEqDiff,Nat.reduceAdd,Nat.reduceLeDiff,reduceCtorEq,t0,t1,t5,List.getElem?_map,hx,hy,en]
      refine GD (xs:=#[.int .i64 x.eP,.int .i64 x.cell.kind,.int .i64 x.cell.n]) (ys:=#[.int .i64 y.eP,.int .i64 y.cell.kind,.int .i64 y.cell.n]) Tryz.underlying164 (by kernel_rfl) (by kernel_rfl) ?_ ?_ (Ov x y) (.inr ⟨rfl,rfl⟩) ?_
      · rfl
      · rfl
      rw[Mi]
      simp (disch:=omega) only [↓wr,↓reduceIte,wq]
      refine av.dec (fun e2=>?_) (fun e2=>?_)
      · simp (disch:=omega) only [↓wr,↓reduceIte,wq,ag,Nat.reduceEqDiff,reduceCtorEq,t5]
        exact aV hk (by omega) ⟨by rw[List.take_add_one,List.take_add_one,he,hx,hy,e2],t0,t1,rfl⟩
      · simp (disch:=omega) only [↓wr,↓reduceIte,wq,ag,Nat.reduceEqDiff,reduceCtorEq]
        have:(a == b)=false:=by
          simp; rintro rfl
          rw[hx] at hy; simp at hy; exact e2 hy
        rw[this]
    · simp (disch:=omega) only [↓wr,↓reduceIte,wq,Nat.reduceEqDiff,reduceCtorEq]
      rw[List.take_of_length_le (by omega),List.take_of_length_le (by omega)] at he
      rw[he,beq_self_eq_true]
theorem J2 (a b:List de) (ha:aL a) (hb:aL b):aD Tryz.prog 59 [eE a,eE b] (gb (a == b)):=by
  unfold aL at ha hb
  refine aD.val (by
    intro v hv; simp at hv
    rcases hv with rfl | rfl <;> exact FO _) fun H=>?_
  refine aC.of mixed uG ?_
  simp (disch:=omega) only [↓wr,↓reduceIte,wq,ah,ag,aj,Nat.reduceEqDiff,Nat.reduceAdd,Nat.reduceLeDiff,reduceCtorEq,oq]
  refine av.ne (fun h=>?_) (fun h=>?_)
  · simp (disch:=omega) only [↓wr,↓reduceIte,wq,reduceCtorEq]
    have:(a == b)=false:=by simp; rintro rfl; exact h rfl
    rw[this]
  · simp (disch:=omega) only [↓wr,wq]
    refine ba.up a.length (fun i T H'=>a.take i=b.take i∧T 0=eE a∧T 1=eE b∧T 5=gi i) ⟨rfl,rfl,rfl,rfl⟩ ?_
    rintro i k T H' hk ⟨he,t0,t1,t5⟩
    simp (disch:=omega) only [↓wr,↓reduceIte,wq,ag,aj,Nat.reduceEqDiff,reduceCtorEq,mO,t0,t5]
    refine av.dec (fun hc=>?_) (fun hc=>?_)
    · have hx:a[i]?=some (a[i]'(by omega)):=List.getElem?_eq_getElem (by omega)
      have hy:b[i]?=some (b[i]'(by omega)):=List.getElem?_eq_getElem (by omega)
      generalize a[i]'(by omega)=x at hx
      generalize b[i]'(by omega)=y at hy
      simp (disch:=omega) only [↓wr,↓reduceIte,wq,Nat.reduceEqDiff,Nat.reduceAdd,Nat.reduceLeDiff,reduceCtorEq,t0,t1,t5,List.getElem?_map,hx,hy,dn]
      refine gB (xs:=#[.int .i64 x.sym,.int .i64 x.to]) (ys:=#[.int .i64 y.sym,.int .i64 y.to]) Tryz.underlying72 (by kernel_rfl) (by kernel_rfl) ?_ ?_ (Nt x y) (.inr ⟨rfl,rfl⟩) ?_
      · rfl
      · rfl
      rw[Q2]
      simp (disch:=omega) only [↓wr,↓reduceIte,wq]
      refine av.dec (fun e2=>?_) (fun e2=>?_)
      · simp (disch:=omega) only [↓wr,↓reduceIte,wq,ag,Nat.reduceEqDiff,reduceCtorEq,t5]
        exact aV hk (by omega) ⟨by rw[List.take_add_one,List.take_add_one,he,hx,hy,e2],t0,t1,rfl⟩
      · simp (disch:=omega) only [↓wr,↓reduceIte,wq,ag,Nat.reduceEqDiff,reduceCtorEq]
        have:(a == b)=false:=by
          simp; rintro rfl
          rw[hx] at hy; simp at hy; exact e2 hy
        rw[this]
    · simp (disch:=omega) only [↓wr,↓reduceIte,wq,Nat.reduceEqDiff,reduceCtorEq]
      rw[List.take_of_length_le (by omega),List.take_of_length_le (by omega)] at he
      rw[he,beq_self_eq_true]
theorem Eo:∀ (a b:List Cell) (i:Nat),cw i (a ++ b)=cw i a ++ cw (i+a.length) b
  | [],b,i=>by simp[cw]
  | c :: a,b,i=>by
    rw[List.cons_append,cw,cw,Eo a b (i+1),List.length_cons,show i+1+a.length=i+(a.length+1) by omega]
    split <;> rfl
theorem Ea:∀ (a b:List Int) (i:Nat),cy i (a ++ b)=cy i a ++ cy (i+a.length) b
  | [],b,i=>by simp[cy]
  | c :: a,b,i=>by
    rw[List.cons_append,cy,cy,Ea a b (i+1),List.length_cons,show i+1+a.length=i+(a.length+1) by omega]
    split <;> rfl
theorem QB {h:aH} {u:V} {l:List ej} (ho:bc h.view u 3 (l.map en)):bZ h u (eR l):=by
  refine bZ.own ho rfl (fun i _=>rfl) (fun i j hi hj=>?_)
  rw[List.length_map] at hi
  have e:(l.map en).getD i []=en l[i]:=by simp[List.getD_eq_getElem?_getD,hi]
  rw[e] at hj ⊢
  match j,hj with
  | 0,_=>exact .val _
  | 1,_=>exact .val _
  | 2,_=>exact .val _
theorem Qa {h:aH} {u:V} {l:List de} (ho:bc h.view u 2 (l.map dn)):bZ h u (eE l):=by
  refine bZ.own ho rfl (fun i _=>rfl) (fun i j hi hj=>?_)
  rw[List.length_map] at hi
  have e:(l.map dn).getD i []=dn l[i]:=by simp[List.getD_eq_getElem?_getD,hi]
  rw[e] at hj ⊢
  match j,hj with
  | 0,_=>exact .val _
  | 1,_=>exact .val _
theorem Ou (l:List Cell) (hl:l.length≤100000):cH Tryz.prog 56 [.aX (l.map bC)] (eR (cw 0 l)):=by
  refine cH.of (by
    intro v hv; simp at hv; subst hv
    exact cL _ _ fun x _=>m0 x) ?_
  refine aC.of mixed wY ?_
  simp (disch:=omega) only [↓wr,wq,ah,Nat.reduceLeDiff,rz]
  refine ba.up l.length (fun i T H'=>∃ u:V,bc H' u 3 ((cw 0 (l.take i)).map en)∧T 0=.aX (l.map bC)∧T 3=u∧T 4=gi i) ⟨.emp 1,.nil,rfl,rfl,rfl⟩ ?_
  rintro i k T H hk ⟨u,ho,t0,t3,t4⟩
  simp (disch:=omega) only [↓wr,↓reduceIte,wq,ag,aj,Nat.reduceEqDiff,reduceCtorEq,oo,t0,t4]
  refine av.dec (fun hc=>?_) (fun hc=>?_)
  · have hx:l[i]?=some (l[i]'(by omega)):=List.getElem?_eq_getElem (by omega)
    generalize l[i]'(by omega)=x at hx
    have htk:cw 0 (l.take (i+1))=cw 0 (l.take i) ++ (if x=⟨0,0⟩ then [] else [⟨i,x⟩]):=by
      rw[List.take_add_one,hx,Eo,Nat.zero_add,List.length_take,Nat.min_eq_left (by omega)]
      simp[cw]
    have hpl:=qE (l.take i) 0
    rw[List.length_take] at hpl
    simp (disch:=omega) only [↓wr,↓reduceIte,wq,ae,Nat.reduceEqDiff,Nat.reduceAdd,Nat.reduceLeDiff,reduceCtorEq,t0,t4,List.getElem?_map,hx,bC]
    refine gB (xs:=#[.int .i64 x.kind,.int .i64 x.n]) (ys:=#[.int .i64 0,.int .i64 0]) Tryz.underlying89 (by kernel_rfl) (by kernel_rfl) ?_ ?_ (Ao x ⟨0,0⟩) (.inr ⟨rfl,rfl⟩) ?_
    · rfl
    · rfl
    rw[Gm]
    simp (disch:=omega) only [↓wr,↓reduceIte,wq]
    refine av.dec (fun he=>?_) (fun he=>?_)
    · simp (disch:=omega) only [↓wr,↓reduceIte,wq,ag,Nat.reduceEqDiff,reduceCtorEq,t3,t4]
      rw[if_pos he,List.append_nil] at htk
      exact aV hk (by omega) ⟨u,by rw[htk]; exact ho,t0,t3,rfl⟩
    · rw[if_neg he] at htk
      simp (disch:=omega) only [↓wr,↓reduceIte,wq,ab,ae,af,Nat.reduceEqDiff,Nat.reduceAdd,Nat.reduceLT,Nat.reduceLeDiff,reduceCtorEq,t0,t3,t4,List.getElem?_map,hx,bC]
      intro q hq
      simp (disch:=omega) only [↓wr,↓reduceIte,wq,Nat.reduceEqDiff,bp]
      refine gz (ho.fresh hq) (by simp[aU]) (by unfold aJ; rw[List.length_map]; simp only[List.length_cons,List.length_nil]; omega) (by unfold aJ; rw[List.length_map]; simp only[List.length_cons,List.length_nil]; omega) ?_
      intro u2 H2 o2 _
      simp (disch:=omega) only [↓wr,↓reduceIte,wq,ag,Nat.reduceEqDiff,reduceCtorEq,t4]
      exact aV hk (by omega) ⟨u2,by rw[htk,List.map_append]; exact o2,t0,rfl,rfl⟩
  · rw[List.take_of_length_le (by omega)] at ho
    simp (disch:=omega) only [↓wr,↓reduceIte,wq,Nat.reduceEqDiff,reduceCtorEq,t3]
    rintro h' rfl
    exact QB ho
theorem Kc (l:List Int) (hl:l.length≤100000):cH Tryz.prog 57 [encI l] (eE (cy 0 l)):=by
  refine cH.of (by
    intro v hv; simp at hv; subst hv
    exact cF _) ?_
  refine aC.of mixed uf ?_
  simp (disch:=omega) only [↓wr,wq,ah,Nat.reduceLeDiff,ou,encI]
  refine ba.up l.length (fun i T H'=>∃ u:V,bc H' u 2 ((cy 0 (l.take i)).map dn)∧T 0=encI l∧T 3=u∧T 4=gi i) ⟨.emp 1,.nil,rfl,rfl,rfl⟩ ?_
  rintro i k T H hk ⟨u,ho,t0,t3,t4⟩
  simp (disch:=omega) only [↓wr,↓reduceIte,wq,ag,aj,Nat.reduceEqDiff,Int.reduceNeg,reduceCtorEq,mJ,t0,t4,encI]
  refine av.dec (fun hc=>?_) (fun hc=>?_)
  · have hx:l[i]?=some (l[i]'(by omega)):=List.getElem?_eq_getElem (by omega)
    generalize l[i]'(by omega)=x at hx
    have htk:cy 0 (l.take (i+1))=cy 0 (l.take i) ++ (if x = -1 then [] else [⟨i,x⟩]):=by
      rw[List.take_add_one,hx,Ea,Nat.zero_add,List.length_take,Nat.min_eq_left (by omega)]
      simp[cy]
    have hpl:=qI (l.take i) 0
    rw[List.length_take] at hpl
    simp (disch:=omega) only [↓wr,↓reduceIte,wq,ag,Nat.reduceEqDiff,Nat.reduceLT,Int.reduceNeg,reduceCtorEq,t0,t4,encI,List.getElem?_map,hx]
    refine av.ne (fun he=>?_) (fun he=>?_)
    · rw[if_neg he] at htk
      simp (disch:=omega) only [↓wr,↓reduceIte,wq,ab,ae,af,Nat.reduceEqDiff,Nat.reduceAdd,Nat.reduceLT,Nat.reduceLeDiff,Int.reduceNeg,reduceCtorEq,t0,t3,t4,encI,List.getElem?_map,hx]
      intro q hq
      simp (disch:=omega) only [↓wr,↓reduceIte,wq,Nat.reduceEqDiff,Int.reduceNeg,bp]
      refine gz (ho.fresh hq) (by simp[aU]) (by unfold aJ; rw[List.length_map]; simp only[List.length_cons,List.length_nil]; omega) (by unfold aJ; rw[List.length_map]; simp only[List.length_cons,List.length_nil]; omega) ?_
      intro u2 H2 o2 _
      simp (disch:=omega) only [↓wr,↓reduceIte,wq,ag,Nat.reduceEqDiff,Int.reduceNeg,reduceCtorEq,t4]
      exact aV hk (by omega) ⟨u2,by rw[htk,List.map_append]; exact o2,t0,rfl,rfl⟩
    · simp (disch:=omega) only [↓wr,↓reduceIte,wq,ag,Nat.reduceEqDiff,Int.reduceNeg,reduceCtorEq,t3,t4]
      rw[if_pos he,List.append_nil] at htk
      exact aV hk (by omega) ⟨u,by rw[htk]; exact ho,t0,t3,rfl⟩
  · rw[List.take_of_length_le (by omega)] at ho
    simp (disch:=omega) only [↓wr,↓reduceIte,wq,Nat.reduceEqDiff,reduceCtorEq,t3]
    rintro h' rfl
    exact Qa ho
set_option maxHeartbeats 4000000 in
theorem HW (t:dx) {n m:Nat} (h:lC t n m):aD Tryz.prog 55 [.agg (bu t)] (gb true):=by
  obtain ⟨f1,f2⟩:=h.first
  have hn:=h.F0; have hm:=h.aA; have h1:=h.qQ; have h3:=h.len; have hg:=h.gf
  have e1:t.aK[0]?=some (t.aK.getD 0 []):=getD_some (by omega)
  have e2:t.gotos[0]?=some (t.gotos.getD 0 []):=getD_some (by omega)
  refine aD.val (Fj t) fun H=>?_
  refine aC.of mixed tb ?_
  generalize t.aK.getD 0 []=r1 at f1 e1
  generalize t.gotos.getD 0 []=r2 at f2 e2
  simp (disch:=omega) only [↓wr,↓reduceIte,wq,ah,ag,aj,Nat.reduceEqDiff,Nat.reduceAdd,Nat.reduceLT,Nat.reduceLeDiff,nK,bu]
  refine av.dec (fun h=>absurd h (by omega)) (fun _=>?_)
  simp (disch:=omega) only [↓wr,↓reduceIte,wq,ag,aj,Nat.reduceEqDiff,Nat.reduceAdd,Nat.reduceLT]
  refine av.dec (fun h=>absurd h (by omega)) (fun _=>?_)
  simp (disch:=omega) only [↓wr,↓reduceIte,wq,ag,aj,Nat.reduceEqDiff,Nat.reduceAdd,Nat.reduceLT]
  refine av.ne (fun h=>absurd (by omega) h) (fun _=>?_)
  simp (disch:=omega) only [↓wr,↓reduceIte,wq,aj,Nat.reduceEqDiff,Nat.reduceAdd,Nat.reduceLT,Int.reduceToNat,List.getElem?_map,e1,e2,encI,j3,f1,f2]
  refine ba.up t.aK.length (fun i T H'=>T 1=.aT (bu t) 0∧T 3=gi ((n:Int)+1)∧T 4=gi m∧T 5=gi i) ⟨rfl,rfl,rfl,rfl⟩ ?_
  rintro i k T H' hk ⟨t1,t3,t4,t5⟩
  simp (disch:=omega) only [↓wr,↓reduceIte,wq,ag,aj,Nat.reduceEqDiff,Nat.reduceAdd,Nat.reduceLT,lD,t1,t5,bu]
  refine av.dec (fun hc=>?_) (fun hc=>?_)
  · have q1:t.aK[i]?=some (t.aK.getD i []):=getD_some (by omega)
    have q2:t.gotos[i]?=some (t.gotos.getD i []):=getD_some (by omega)
    have q3:=h.row _ (List.mem_of_getElem? q1)
    have q4:=h.go _ (List.mem_of_getElem? q2)
    simp (disch:=omega) only [↓wr,↓reduceIte,wq,ag,aj,Nat.reduceEqDiff,Nat.reduceAdd,Nat.reduceLT,t1,t3,t5,bu,List.getElem?_map,q1,encI,j3,q3]
    refine av.ne (fun h=>absurd (by omega) h) (fun _=>?_)
    simp (disch:=omega) only [↓wr,↓reduceIte,wq,ag,aj,Nat.reduceEqDiff,Nat.reduceAdd,Nat.reduceLT,t1,t4,t5,bu,List.getElem?_map,q2,encI,j3,q4]
    refine av.ne (fun h=>absurd (by omega) h) (fun _=>?_)
    simp (disch:=omega) only [↓wr,↓reduceIte,wq,ag,Nat.reduceEqDiff,reduceCtorEq,t3,t5]
    exact aV hk (by omega) ⟨t1,t3,t4,rfl⟩
  · simp (disch:=omega) only [↓wr,↓reduceIte,wq,Nat.reduceEqDiff,reduceCtorEq,t3]
    refine av.dec (fun _=>?_) (fun h=>absurd (by omega) h)
    simp (disch:=omega) only [↓wr,↓reduceIte,wq,ag,Nat.reduceEqDiff,t3]
    refine av.dec (fun _=>?_) (fun h=>absurd (by omega) h)
    simp (disch:=omega) only [↓wr,↓reduceIte,wq,ag,Nat.reduceEqDiff,reduceCtorEq,t4]
    rw[decide_eq_true (by omega)]
def mZ:SC :=
  .seq (.seq (.region false [⟨none,[aa 45 8,au 46 2 4,ao 47 46,aM 48 47,aR 49 .lss 45 48,aa 50 49]⟩,⟨(some (50,true)),[au 51 2 4,ao 52 51,aa 53 8,aS 54 1 52 53,ao 55 54,aa 56 6,aQ 57 58 [55,56],bX 58 57]⟩,⟨none,[bF 59 50 58]⟩]) <|
  .cond (.tmp 59) (.skip) (.exit 2)) <|
  .block 3 (ak [aa 60 8,az 61 .add 60 1,aa 8 61])
def nM:SC :=
  .seq (.seq (.region false [⟨none,[aa 62 9,au 63 4 4,ao 64 63,aM 65 64,aR 66 .lss 62 65,aa 67 66]⟩,⟨(some (67,true)),[au 68 4 4,ao 69 68,aa 70 9,aS 71 1 69 70,ao 72 71,aa 73 7,aQ 74 59 [72,73],bX 75 74]⟩,⟨none,[bF 76 67 75]⟩]) <|
  .cond (.tmp 76) (.skip) (.exit 4)) <|
  .block 5 (ak [aa 77 9,az 78 .add 77 1,aa 9 78])
def nU:SC :=
  .seq (.seq (ak [aa 26 5,au 27 0 1,ao 28 27,aM 29 28,aR 30 .lss 26 29]) <|
  .cond (.tmp 30) (.skip) (.exit 0)) <|
  .seq (.block 1 (.seq (.region true [⟨none,[au 33 0 1,ao 34 33,aa 35 5,aS 36 1 34 35,ao 37 36,aQ 38 56 [37],au 39 1 1,ao 40 39,aa 41 5,aS 42 1 40 41,ao 43 42,aQ 44 57 [43],aa 6 38,aa 7 44]⟩]) <|
  .seq (ak [aI 8 0,aI 9 0]) <|
  .seq (.block 2 (.loop mZ)) <|
  .seq (.block 4 (.loop nM)) <|
  .seq (.seq (ak [aa 79 8,au 80 2 4,ao 81 80,aM 82 81,aR 83 .eql 79 82]) <|
  .cond (.tmp 83) (ak [au 84 2 4,ao 85 84,aa 86 6,((some 87),.op (.bh 1 1 [(.emp 1)] [(0,(.tmp 86))])),((some 88),.op (.app 1 24 (.tmp 85) (.tmp 87))),au 89 2 4,(none,.op (.store 1 (.tmp 89) (.tmp 88)))]) (.skip)) <|
  .seq (.seq (ak [aa 90 9,au 91 4 4,ao 92 91,aM 93 92,aR 94 .eql 90 93]) <|
  .cond (.tmp 94) (ak [au 95 4 4,ao 96 95,aa 97 7,((some 98),.op (.bh 1 1 [(.emp 1)] [(0,(.tmp 97))])),((some 99),.op (.app 1 24 (.tmp 96) (.tmp 98))),au 100 4 4,(none,.op (.store 1 (.tmp 100) (.tmp 99)))]) (.skip)) <|
  .kH [(106,102)] [⟨none,[au 101 3 4,ao 102 101,aa 103 8,((some 104),.op (.bh 1 1 [(.val (.int .i64 0))] [(0,(.tmp 103))])),((some 105),.op (.app 1 8 (.tmp 102) (.tmp 104))),au 106 5 4,ao 107 106,aa 108 9,((some 109),.op (.bh 1 1 [(.val (.int .i64 0))] [(0,(.tmp 108))])),((some 110),.op (.app 1 8 (.tmp 107) (.tmp 109))),au 111 3 4,(none,.op (.store 1 (.tmp 111) (.tmp 105))),au 112 5 4,(none,.op (.store 1 (.tmp 112) (.tmp 110)))]⟩])) <|
  ak [aa 31 5,az 32 .add 31 1,aa 5 32]
def pL:SF:=⟨.seq (ak [bW 1 0,((some 2),.op (.alloc [(.val (.int .i64 0)),(.val (.int .i64 0)),(.emp 1),(.emp 1),(.emp 1),(.emp 1)])),aI 3 0]) <|
  .seq (.seq (ak [aO 10 2 1,aQ 11 55 [10],bX 12 11]) <|
  .cond (.tmp 12) (.seq (ak [((some 13),.op (.build [(.val (.int .i64 0)),(.val (.int .i64 0)),(.emp 1),(.emp 1),(.emp 1),(.emp 1)] [])),(none,.op (.store 6 (.tmp 2) (.tmp 13))),aI 3 1]) <|
  .ret) (.skip)) <|
  .seq (ak [au 14 0 1,ao 15 14,((some 16),.op (.idx 1 (.tmp 15) (.val (.val (.int .i64 0))))),ao 17 16,aM 18 17,az 19 .sub 18 1,au 20 1 1,ao 21 20,((some 22),.op (.idx 1 (.tmp 21) (.val (.val (.int .i64 0))))),ao 23 22,aM 24 23,((some 25),.op (.build [(.val (.int .i64 0)),(.val (.int .i64 0)),(.emp 1),(.emp 1),(.emp 1),(.emp 1)] [(0,1,(.tmp 19)),(1,1,(.tmp 24))])),((some 4),.op (.alloc [(.val (.int .i64 0)),(.val (.int .i64 0)),(.emp 1),(.emp 1),(.emp 1),(.emp 1)])),(none,.op (.store 6 (.tmp 4) (.tmp 25)))]) <|
  .seq (.seq (ak [aI 5 0]) <|
  .block 0 (.loop nU)) <|
  .seq (ak [aO 113 6 4,(none,.op (.store 6 (.tmp 2) (.tmp 113))),aI 3 0]) <|
  .ret,
  [.cell 2 (some 6),.tmp 3],114⟩
theorem vL:aY Tryz.prog 18 [1,100000]=some pL:=by kernel_rfl
theorem ba.R9 {P:Program} {T:Env} {H:View} {c:SC} {Q:Exit→Env→View→Prop} {v:cI (T,H,Q)} (l:Nat) (n:Nat) (J:Nat→Env→View→Prop) (X:Env→View→Prop) (h0:J 0 T H)
    (hs:∀ (Q':Exit→Env→View→Prop),(∀ T H,X T H→Q' (.exit l) T H)→∀ i k T H,i+k=n→J i T H→wS P c T H fun e T' H'=>y0 e (∃ k',k' < k∧Ez n k' J T' H') (Q' e T' H')) (hQ:∀ T H,X T H→Q (.exit l) T H):ba P c T H Q v :=
  ba.up n J h0 (hs Q hQ)
def xD (l:List (List ej)):List (List V):=l.map fun r=>[eR r]
def xA (l:List (List de)):List (List V):=l.map fun r=>[eE r]
theorem sd (l:List (List ej)):(xD l).length=l.length:=by simp[xD]
theorem rZ (l:List (List de)):(xA l).length=l.length:=by simp[xA]
theorem QT {l:List (List ej)} {i:Nat} {x:List ej} (h:l[i]?=some x):(xD l).getD i []=[eR x]:=by simp[xD,List.getD_eq_getElem?_getD,h]
theorem Qn {l:List (List de)} {i:Nat} {x:List de} (h:l[i]?=some x):(xA l).getD i []=[eE x]:=by simp[xA,List.getD_eq_getElem?_getD,h]
theorem zX {β:Type} [DecidableEq β] {l:List β} {i:Nat} {x:β} (h:l[i]?=some x):fu (l.take (i+1))=ef (fu (l.take i)) x:=by
  unfold fu
  rw[List.take_add_one,h,List.foldl_append]; rfl
theorem Fr.trees {h:aH} {u:V} {sz:Nat} {es:List (List V)} (ho:bc h.view u sz es) (ht:∀ e∈es,∀ v∈e,Tree v):Fr h u (.aX es):=by
  have:=eL.own (H:=h.view) ho ht
  exact this h rfl
theorem Lt (l:List (List ej)):∀ e∈xD l,∀ v∈e,Tree v:=fun e he v hv=>by
  obtain ⟨r,_,rfl⟩:=List.mem_map.1 he
  simp at hv; subst hv; exact GM r
theorem Nz (l:List (List de)):∀ e∈xA l,∀ v∈e,Tree v:=fun e he v hv=>by
  obtain ⟨r,_,rfl⟩:=List.mem_map.1 he
  simp at hv; subst hv; exact FO r
theorem Ba (l:List Int):∀ e∈bA l,∀ v∈e,Tree v:=fun e he v hv=>by
  obtain ⟨r,_,rfl⟩:=List.mem_map.1 he
  simp at hv; subst hv; exact .val _
theorem RZ {h:aH} {p:ju} {ur uo ug ut:V} (h1:Fr h ur (.aX (xD p.rows))) (h2:Fr h uo (encI p.of)) (h3:Fr h ug (.aX (xA p.gotos))) (h4:Fr h ut (encI p.to)):Fr h (.bf [.agg [gi p.ax,gi p.aA,ur,uo,ug,ut],gi 0]) (.bf [.agg (cP p),gi 0]):=.bf _ _ rfl fun i hi=>by
  match i,hi with
  | 0,_ =>
    refine .agg _ _ rfl fun j hj=>?_
    match j,hj with
    | 0,_=>exact .tree _ (.val _)
    | 1,_=>exact .tree _ (.val _)
    | 2,_=>exact h1
    | 3,_=>exact h2
    | 4,_=>exact h3
    | 5,_=>exact h4
  | 1,_=>exact .tree _ (.val _)
theorem LG {t:dx} {n m:Nat} (h:lC t n m):(∀ r∈t.aK.map (cw 0),r.length≤100)∧∀ r∈t.gotos.map (cy 0),r.length≤100:=by
  have hn:=h.F0; have hm:=h.aA
  refine ⟨fun r hr=>?_,fun r hr=>?_⟩
  · obtain ⟨x,hx,rfl⟩:=List.mem_map.1 hr
    have:=qE x 0; have:=h.row x hx; omega
  · obtain ⟨x,hx,rfl⟩:=List.mem_map.1 hr
    have:=qI x 0; have:=h.go x hx; omega
set_option maxHeartbeats 16000000 in
theorem DN (t:dx) {n m:Nat} (h:lC t n m):aD Tryz.prog 18 [.agg (bu t)] (.bf [.agg (cP (fS t)),gi 0]):=by
  refine aD.of (Fj t) ?_
  have hsh:=HW t h
  obtain ⟨f1,f2⟩:=h.first
  have hn:=h.F0; have hm:=h.aA; have h1:=h.qQ; have h3:=h.len; have hg:=h.gf
  obtain ⟨ms1,ms2⟩:=LG h
  have e1:t.aK[0]?=some (t.aK.getD 0 []):=getD_some (by omega)
  have e2:t.gotos[0]?=some (t.gotos.getD 0 []):=getD_some (by omega)
  have hpt:fS t=⟨n,m,(fu (t.aK.map (cw 0))).1,(fu (t.aK.map (cw 0))).2,(fu (t.gotos.map (cy 0))).1,(fu (t.gotos.map (cy 0))).2⟩:=by
    unfold fS
    rw[f1,f2]
    simp only[ju.mk.injEq,and_true]
    omega
  rw[hpt]
  generalize t.aK.getD 0 []=r1 at f1 e1
  generalize t.gotos.getD 0 []=r2 at f2 e2
  refine aC.of mixed vL ?_
  simp only[bu] at hsh
  simp (disch:=omega) only [↓wr,↓reduceIte,wq,ah,Nat.reduceEqDiff,Nat.reduceAdd,Nat.reduceLeDiff,pL,bu]
  intro b2
  refine aE.pure hsh (by kernel_rfl) ?_
  simp (disch:=omega) only [↓wr,↓reduceIte,wq,ag,aj,ab,ae,Nat.reduceEqDiff,Nat.reduceAdd,Nat.reduceLT,Nat.reduceLeDiff,Int.reduceToNat,List.getElem?_map,e1,e2,encI,j3,f1,f2]
  intro b4 hb4
  rw[set_set]
  have n42:=(dz hb4 cT).1
  rw[show (((n+1:Nat):Int) - 1)=(n:Int) by omega]
  have o0:=(bK.nil.new (n:=b2) (H:=fun _=>cU.dead) rfl 6 [[gi 0,gi 0,.emp 1,.emp 1,.emp 1,.emp 1]]).new (n:=b4) (by simpa [View.set] using hb4) 6 [[gi n,gi m,.emp 1,.emp 1,.emp 1,.emp 1]]
  have o1:=((((o0.emp (k:=1) (sz:=1)).emp (k:=1) (sz:=1)).emp (k:=1) (sz:=1)).emp (k:=1) (sz:=1))
  clear o0
  generalize (View.set (fun _=>cU.dead) b2 (.arr 6 [[gi 0,gi 0,.emp 1,.emp 1,.emp 1,.emp 1]])).set b4 (.arr 6 [[gi n,gi m,.emp 1,.emp 1,.emp 1,.emp 1]])=H0 at o1 ⊢
  refine ba.up t.aK.length (fun i T H'=>∃ (ur uo ug ut:V) (p:List (List ej) × List Int) (q:List (List de) × List Int),p=fu ((t.aK.map (cw 0)).take i)∧q=fu ((t.gotos.map (cy 0)).take i) ∧
    bK H' ((ur,1,xD p.1) :: (uo,1,bA p.2) :: (ug,1,xA q.1) :: (ut,1,bA q.2) :: (.sl b4 0 1 6,6,[[gi n,gi m,ur,uo,ug,ut]]) :: [(.sl b2 0 1 6,6,[[gi 0,gi 0,.emp 1,.emp 1,.emp 1,.emp 1]])])∧T 1=.aT (bu t) 0∧T 2=.ptr b2 0 0∧T 4=.ptr b4 0 0∧T 5=gi i)
    ⟨.emp 1,.emp 1,.emp 1,.emp 1,([],[]),([],[]),rfl,rfl,o1,rfl,rfl,rfl,rfl⟩ ?_
  clear o1 hb4
  rintro i k T H hk ⟨ur,uo,ug,ut,p,q,hp,hq,ho,t1,t2,t4,t5⟩
  simp (disch:=omega) only [↓wr,↓reduceIte,wq,ag,aj,Nat.reduceEqDiff,Nat.reduceAdd,Nat.reduceLT,nU,t1,t5,bu]
  refine av.dec (fun hc=>?_) (fun hc=>?_)
  · have q1:t.aK[i]?=some (t.aK.getD i []):=getD_some (by omega)
    have q2:t.gotos[i]?=some (t.gotos.getD i []):=getD_some (by omega)
    have q3:=h.row _ (List.mem_of_getElem? q1)
    have q4:=h.go _ (List.mem_of_getElem? q2)
    generalize t.aK.getD i []=row at q1 q3
    generalize t.gotos.getD i []=gor at q2 q4
    have hrp:=(Ou row (by omega)).pure
    have hgp:=(Kc gor (by omega)).pure
    have htp:=zX (l:=t.aK.map (cw 0)) (i:=i) (x:=cw 0 row) (by rw[List.getElem?_map,q1]; rfl)
    have htq:=zX (l:=t.gotos.map (cy 0)) (i:=i) (x:=cy 0 gor) (by rw[List.getElem?_map,q2]; rfl)
    rw[← hp] at htp
    rw[← hq] at htq
    have sp:=gZ ((t.aK.map (cw 0)).take i)
    have sq:=gZ ((t.gotos.map (cy 0)).take i)
    rw[← hp] at sp
    rw[← hq] at sq
    have hpl:=sp.le
    have hql:=sq.le
    have hpl2:=sp.len
    have hql2:=sq.len
    simp only[List.length_take,List.length_map] at hpl hql hpl2 hql2
    have hx1:(cw 0 row).length≤100:=by have:=qE row 0; omega
    have hy1:(cy 0 gor).length≤100:=by have:=qI gor 0; omega
    have hpm:∀ r∈p.1,r.length≤100:=fun r hr=>ms1 r (List.mem_of_mem_take (sp.mem r hr))
    have hqm:∀ r∈q.1,r.length≤100:=fun r hr=>ms2 r (List.mem_of_mem_take (sq.mem r hr))
    generalize cw 0 row=x at *
    generalize cy 0 gor=y at *
    clear sp sq hp hq
    obtain ⟨rows,of⟩:=p
    obtain ⟨gf,to⟩:=q
    simp only at *
    have hb4:=ho.is 4 rfl (by simp)
    simp only[encI] at hgp
    simp (disch:=omega) only [↓wr,↓reduceIte,wq,Nat.reduceEqDiff,Nat.reduceAdd,Nat.reduceLT,t1,t5,bu,List.getElem?_map,q1,encI]
    refine aE.pure hrp (by kernel_rfl) ?_
    simp (disch:=omega) only [↓wr,↓reduceIte,wq,Nat.reduceEqDiff,Nat.reduceAdd,Nat.reduceLT,t1,t5,bu,List.getElem?_map,q2,encI]
    refine aE.pure hgp (by kernel_rfl) ?_
    simp (disch:=omega) only [↓wr,↓reduceIte,wq,Nat.reduceEqDiff]
    have hlr:dq ur=some rows.length:=by rw[(ho.own 0 rfl).len,sd]
    have hlg:dq ug=some gf.length:=by rw[(ho.own 2 rfl).len,rZ]
    have hile:=zr rows x
    have hgle:=zr gf y
    refine ba.R9 2 (du rows x) (fun j T H'=>H'=H∧j≤du rows x∧T 1=.aT (bu t) 0∧T 2=.ptr b2 0 0∧T 4=.ptr b4 0 0∧T 5=gi i∧T 6=eR x∧T 7=eE y∧T 8=gi j∧T 9=gi 0)
      (fun T H'=>H'=H∧T 1=.aT (bu t) 0∧T 2=.ptr b2 0 0∧T 4=.ptr b4 0 0∧T 5=gi i∧T 6=eR x∧T 7=eE y∧T 8=gi (du rows x)∧T 9=gi 0) ⟨rfl,by omega,t1,t2,t4,t5,rfl,rfl,rfl,rfl⟩ ?_ ?_
    · clear t1 t2 t4 t5
      rintro Q' hQ' j k2 T2 H2 hk2 ⟨eH,hj,t1,t2,t4,t5,t6,t7,t8,t9⟩
      subst eH
      simp (disch:=omega) only [↓wr,↓reduceIte,wq,ag,aj,Nat.reduceEqDiff,Nat.reduceAdd,Nat.reduceLT,mZ,t4,t8,hb4,hlr]
      refine av.dec (fun hcj=>?_) (fun hcj=>?_)
      · have hjr:j < rows.length:=by omega
        have hr:rows[j]?=some (rows[j]'hjr):=List.getElem?_eq_getElem hjr
        have hrm:=hpm _ (List.getElem_mem hjr)
        generalize rows[j]'hjr=rj at hr hrm
        obtain ⟨nr,hur,hnr⟩:=(ho.own 0 rfl).sl (by rw[sd]; omega)
        rw[sd] at hur
        have hen:=Fy rj x (by unfold aL; omega) (by unfold aL; omega)
        simp (disch:=omega) only [↓wr,↓reduceIte,wq,Nat.reduceEqDiff,Nat.reduceAdd,Nat.reduceLT,t4,t6,t8,hb4,hur,hnr,QT hr]
        refine ⟨hjr,by rw[sd]; exact hjr,?_⟩
        refine aE.pure hen (by kernel_rfl) ?_
        cases he:(rj == x)
        · have hlt:j < du rows x:=by
            rcases Nat.lt_or_ge j (du rows x) with h | h
            · exact h
            · have:j=du rows x:=by omega
              subst this
              have:=zw rows x hjr
              rw[hr] at this
              simp at this he
              exact absurd this he
          simp (disch:=omega) only [↓wr,↓reduceIte,wq,ag,Nat.reduceEqDiff,t8]
          exact aV hk2 hlt ⟨rfl,hlt,t1,t2,t4,t5,t6,t7,rfl,t9⟩
        · have hjx:j=du rows x:=by
            rcases Nat.lt_or_ge j (du rows x) with h | h
            · exact absurd (by simpa using he) (CZ rows x j rj h hr)
            · omega
          rw[hjx] at t8
          simp (disch:=omega) only [↓wr,↓reduceIte,wq,Nat.reduceEqDiff]
          exact hQ' _ _ ⟨rfl,t1,t2,t4,t5,t6,t7,t8,t9⟩
      · rw[show j=du rows x by omega] at t8
        simp (disch:=omega) only [↓wr,↓reduceIte,wq,Nat.reduceEqDiff]
        exact hQ' _ _ ⟨rfl,t1,t2,t4,t5,t6,t7,t8,t9⟩
    clear t1 t2 t4 t5
    rintro T2 H2 ⟨eH,t1,t2,t4,t5,t6,t7,t8,t9⟩
    subst eH
    simp (disch:=omega) only [↓wr,↓reduceIte,wq,ag,reduceCtorEq,t2,t4,t5]
    refine ba.R9 4 (du gf y) (fun j T H'=>H'=H2∧j≤du gf y∧T 1=.aT (bu t) 0∧T 2=.ptr b2 0 0∧T 4=.ptr b4 0 0∧T 5=gi i∧T 6=eR x∧T 7=eE y∧T 8=gi (du rows x)∧T 9=gi j)
      (fun T H'=>H'=H2∧T 1=.aT (bu t) 0∧T 2=.ptr b2 0 0∧T 4=.ptr b4 0 0∧T 5=gi i∧T 6=eR x∧T 7=eE y∧T 8=gi (du rows x)∧T 9=gi (du gf y)) ⟨rfl,by omega,t1,t2,t4,t5,t6,t7,t8,t9⟩ ?_ ?_
    · clear t1 t2 t4 t5 t6 t7 t8 t9
      rintro Q' hQ' j k2 T3 H3 hk2 ⟨eH,hj,t1,t2,t4,t5,t6,t7,t8,t9⟩
      subst eH
      simp (disch:=omega) only [↓wr,↓reduceIte,wq,ag,aj,Nat.reduceEqDiff,Nat.reduceAdd,Nat.reduceLT,nM,t4,t9,hb4,hlg]
      refine av.dec (fun hcj=>?_) (fun hcj=>?_)
      · have hjr:j < gf.length:=by omega
        have hr:gf[j]?=some (gf[j]'hjr):=List.getElem?_eq_getElem hjr
        have hrm:=hqm _ (List.getElem_mem hjr)
        generalize gf[j]'hjr=rj at hr hrm
        obtain ⟨ng,hug,hng⟩:=(ho.own 2 rfl).sl (by rw[rZ]; omega)
        rw[rZ] at hug
        have hen:=J2 rj y (by unfold aL; omega) (by unfold aL; omega)
        simp (disch:=omega) only [↓wr,↓reduceIte,wq,Nat.reduceEqDiff,Nat.reduceAdd,Nat.reduceLT,t4,t7,t9,hb4,hug,hng,Qn hr]
        refine ⟨hjr,by rw[rZ]; exact hjr,?_⟩
        refine aE.pure hen (by kernel_rfl) ?_
        cases he:(rj == y)
        · have hlt:j < du gf y:=by
            rcases Nat.lt_or_ge j (du gf y) with h | h
            · exact h
            · have:j=du gf y:=by omega
              subst this
              have:=zw gf y hjr
              rw[hr] at this
              simp at this he
              exact absurd this he
          simp (disch:=omega) only [↓wr,↓reduceIte,wq,ag,Nat.reduceEqDiff,t9]
          exact aV hk2 hlt ⟨rfl,hlt,t1,t2,t4,t5,t6,t7,t8,rfl⟩
        · have hjx:j=du gf y:=by
            rcases Nat.lt_or_ge j (du gf y) with h | h
            · exact absurd (by simpa using he) (CZ gf y j rj h hr)
            · omega
          rw[hjx] at t9
          simp (disch:=omega) only [↓wr,↓reduceIte,wq,Nat.reduceEqDiff]
          exact hQ' _ _ ⟨rfl,t1,t2,t4,t5,t6,t7,t8,t9⟩
      · rw[show j=du gf y by omega] at t9
        simp (disch:=omega) only [↓wr,↓reduceIte,wq,Nat.reduceEqDiff]
        exact hQ' _ _ ⟨rfl,t1,t2,t4,t5,t6,t7,t8,t9⟩
    clear t1 t2 t4 t5 t6 t7 t8 t9
    rintro T3 H3 ⟨eH,t1,t2,t4,t5,t6,t7,t8,t9⟩
    subst eH
    simp (disch:=omega) only [↓wr,↓reduceIte,wq,ag,aj,ab,Nat.reduceEqDiff,Nat.reduceAdd,Nat.reduceLT,Nat.reduceLeDiff,reduceCtorEq,t2,t4,t5,t8,hb4,hlr]
    refine av.eq (fun hnew=>?_) (fun hnew=>?_)
    simp (disch:=omega) only [↓wr,↓reduceIte,wq,af,Nat.reduceEqDiff,Nat.reduceAdd,Nat.reduceLT,t4,t6,hb4]
    intro w1 hw1
    simp (disch:=omega) only [↓wr,↓reduceIte,wq,Nat.reduceEqDiff,bp]
    refine bQ (ho.fresh hw1) (by simp[aU]) (by unfold aJ; rw[sd]; simp only[List.length_cons,List.length_nil]; omega) (by unfold aJ; rw[sd]; simp only[List.length_cons,List.length_nil]; omega) ?_
    intro ur2 H5 o5 _
    have hb5:=o5.is 4 rfl (by simp)
    have c5:=o5.head.cells
    have k5:=o5.head.fA
    simp (disch:=omega) only [↓wr,↓reduceIte,wq,aj,ab,Nat.reduceEqDiff,Nat.reduceAdd,Nat.reduceLT,Nat.reduceLeDiff,t4,t9,hb5,c5,k5]
    have o6:=((o5.at 4 (by simp)).put (es':=[[gi n,gi m,ur2,uo,ug,ut]]) rfl rfl).perm (List.perm_middle (l₁:=[_,_,_,_])).symm
    generalize H5.set b4 (.arr 6 [[gi n,gi m,ur2,uo,ug,ut]])=H6 at o6 ⊢
    have e6:xD rows ++ [[eR x]]=xD (ef (rows,of) x).1:=by
      have:du rows x=rows.length:=by omega
      simp[ef,this,xD]
    rw[e6] at o6
    rotate_left
    have o6:=ho
    have e6:xD rows=xD (ef (rows,of) x).1:=by
      have:¬ du rows x=rows.length:=by omega
      simp[ef,this]
    rw[e6] at o6
    simp (disch:=omega) only [↓wr,↓reduceIte,wq,Nat.reduceEqDiff,t4,t9]
    clear hb4
    generalize H3=H6 at o6 ⊢
    obtain ⟨ur2,hur2⟩:∃ z,ur=z:=⟨_,rfl⟩
    rw[hur2] at o6
    all_goals (
      have hb6:=o6.is 4 rfl (by simp)
      simp (disch:=omega) only [↓wr,↓reduceIte,wq,ag,aj,Nat.reduceEqDiff,Nat.reduceAdd,Nat.reduceLT,hb6,hlg]
      refine av.eq (fun hnew2=>?_) (fun hnew2=>?_)
      simp (disch:=omega) only [↓wr,↓reduceIte,wq,af,Nat.reduceEqDiff,Nat.reduceAdd,Nat.reduceLT,t4,t7,hb6]
      intro w2 hw2
      simp (disch:=omega) only [↓wr,↓reduceIte,wq,Nat.reduceEqDiff,bp]
      have o7:=(o6.fresh (o:=.arr 1 [[eE y]]) hw2).at 2 (by simp)
      refine bQ o7 (by simp[aU]) (by unfold aJ; simp only[rZ,List.length_cons,List.length_nil]; omega) (by unfold aJ; simp only[rZ,List.length_cons,List.length_nil]; omega) ?_
      intro ug2 H7 o8 _
      try simp only[List.eraseIdx_cons_succ,List.eraseIdx_cons_zero] at o8
      have hb8:=o8.is 4 rfl (by simp)
      have c8:=o8.head.cells
      have k8:=o8.head.fA
      simp (disch:=omega) only [↓wr,↓reduceIte,wq,ab,af,Nat.reduceEqDiff,Nat.reduceAdd,Nat.reduceLT,Nat.reduceLeDiff,t4,t8,hb8,c8,k8]
      have o9:=(((o8.at 4 (by simp)).put (es':=[[gi n,gi m,ur2,uo,ug2,ut]]) rfl rfl).perm (List.perm_middle (l₁:=[_,_,_,_])).symm).perm (List.perm_middle (l₁:=[_,_])).symm
      generalize hH8:H7.set b4 (.arr 6 [[gi n,gi m,ur2,uo,ug2,ut]])=H8 at o9 ⊢
      have e9:xA gf ++ [[eE y]]=xA (ef (gf,to) y).1:=by
        have:du gf y=gf.length:=by omega
        simp[ef,this,xA]
      rw[e9] at o9
      rotate_left
      have o9:=o6
      have e9:xA gf=xA (ef (gf,to) y).1:=by
        have:¬ du gf y=gf.length:=by omega
        simp[ef,this]
      rw[e9] at o9
      simp (disch:=omega) only [↓wr,↓reduceIte,wq,Nat.reduceEqDiff,t4]
      clear hb6
      generalize H6=H8 at o9 ⊢
      obtain ⟨ug2,hug2⟩:∃ z,ug=z:=⟨_,rfl⟩
      rw[hug2] at o9
      all_goals (
        have hb9:=o9.is 4 rfl (by simp)
        have co:=(o9.own 1 rfl).cells
        try simp (disch:=omega) only [↓wr,↓reduceIte,wq,af,Nat.reduceEqDiff,Nat.reduceAdd,Nat.reduceLT,t8,hb9]
        intro w3 hw3
        simp (disch:=omega) only [↓wr,↓reduceIte,wq,Nat.reduceEqDiff,bp]
        have oA:=(o9.fresh (o:=.arr 1 [[gi (du rows x)]]) (by first | exact hw3 | (rw[← hH8]; simpa [View.set] using hw3))).at 1 (by simp)
        refine bQ oA (by simp[aU]) (by unfold aJ; simp only[List.length_map,List.length_cons,List.length_nil]; omega) (by unfold aJ; simp only[List.length_map,List.length_cons,List.length_nil]; omega) ?_
        intro uo2 HA oB _
        try simp only[List.eraseIdx_cons_succ,List.eraseIdx_cons_zero] at oB
        have hbB:=oB.is 4 rfl (by simp)
        simp (disch:=omega) only [↓wr,↓reduceIte,wq,af,Nat.reduceEqDiff,Nat.reduceAdd,Nat.reduceLT,t4,t9,hbB]
        intro w4 hw4
        simp (disch:=omega) only [↓wr,↓reduceIte,wq,Nat.reduceEqDiff,bp]
        have oC:=(oB.fresh (o:=.arr 1 [[gi (du gf y)]]) hw4).at 3 (by simp)
        refine bQ oC (by simp[aU]) (by unfold aJ; simp only[List.length_map,List.length_cons,List.length_nil]; omega) (by unfold aJ; simp only[List.length_map,List.length_cons,List.length_nil]; omega) ?_
        intro ut2 HB oD _
        try simp only[List.eraseIdx_cons_succ,List.eraseIdx_cons_zero] at oD
        have hbD:=oD.is 4 rfl (by simp)
        have cA:=(oD.own 1 rfl).cells
        have kA:=(oD.own 1 rfl).fA
        have cB:=(oD.own 0 rfl).cells
        have kB:=(oD.own 0 rfl).fA
        simp (disch:=omega) only [↓wr,↓reduceIte,wq,ag,ab,Nat.reduceEqDiff,Nat.reduceAdd,Nat.reduceLT,Nat.reduceLeDiff,reduceCtorEq,t2,t4,t5,hbD,cA,kA,cB,kB]
        refine ⟨Dr (o9.own 1 rfl) ((o9.at 4 (by simp)).off rfl _ (List.mem_of_getElem? (i:=1) rfl)),?_⟩
        rw[set_set]
        refine aV hk (by omega) ⟨ur2,uo2,ug2,ut2,_,_,htp.symm,htq.symm,?_,t1,t2,t4,rfl⟩
        have oE:=((((oD.at 4 (by simp)).put (es':=[[gi n,gi m,ur2,uo2,ug2,ut2]]) rfl rfl).perm (List.perm_middle (l₁:=[_,_,_,_])).symm).perm (List.perm_middle (l₁:=[_,_,_])).symm).perm (List.perm_middle (l₁:=[_])).symm
        have f1:bA (ef (rows,of) x).2=bA of ++ [[gi (du rows x)]]:=by simp[ef]
        have f2:bA (ef (gf,to) y).2=bA to ++ [[gi (du gf y)]]:=by simp[ef]
        rw[f1,f2]
        exact oE))
  · have hie:i=t.aK.length:=by omega
    subst hie
    rw[List.take_of_length_le (by simp)] at hp
    rw[List.take_of_length_le (by simp; omega)] at hq
    have h4:=ho.is 4 rfl (by simp)
    have h2:=ho.is 5 rfl (by simp)
    have ca:=(ho.own 0 rfl).cells
    have ka:=(ho.own 0 rfl).fA
    have cb:=(ho.own 1 rfl).cells
    have kb:=(ho.own 1 rfl).fA
    have cc:=(ho.own 2 rfl).cells
    have kc:=(ho.own 2 rfl).fA
    have cd:=(ho.own 3 rfl).cells
    have kd:=(ho.own 3 rfl).fA
    simp (disch:=omega) only [↓wr,↓reduceIte,wq,ab,Nat.reduceEqDiff,Nat.reduceAdd,Nat.reduceLT,Nat.reduceLeDiff,reduceCtorEq,t2,t4,h4,h2,ka,kb,kc,kd]
    intro h' hv
    have o9:=(ho.at 5 (by simp)).put (es':=[[gi n,gi m,ur,uo,ug,ut]]) rfl rfl
    simp only[List.eraseIdx_cons_succ,List.eraseIdx_cons_zero] at o9
    rw[← hv] at o9
    rw[← hp,← hq]
    exact RZ (p:=⟨n,m,p.1,p.2,q.1,q.2⟩) (Fr.trees (o9.own 1 rfl) (Lt _)) (Fr.trees (o9.own 2 rfl) (Ba _)) (Fr.trees (o9.own 3 rfl) (Nz _)) (Fr.trees (o9.own 4 rfl) (Ba _))
end Gv
