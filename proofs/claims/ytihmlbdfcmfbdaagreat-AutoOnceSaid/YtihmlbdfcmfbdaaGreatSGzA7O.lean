/-
  Part 15 of the proof: what the machine does and what the functions answer.
  Conditions: those that each lemma names.
-/
import Derived.Test.YtihmlbdfcmfbdaaGreatSGzA7N
set_option linter.unusedSimpArgs false
set_option linter.unusedVariables false
set_option maxRecDepth 100000
namespace Gv
open Go Go.Proofs
def fR (l:List UInt8):Value:=.string ⟨l.toArray⟩
theorem Ex {a b:List UInt8} : ((⟨a.toArray⟩:ByteArray) == ⟨b.toArray⟩)=(a == b):=by
  show (a.toArray == b.toArray)=_
  simp
theorem D3 {P:Program} {kt:TypeId} (h:P.underlying kt=some .string):yi P kt fR where
  ty:=⟨_,h,fun a b=>by simp only[Instr.sameNow,fR,Ex],fun a e=>zq h trivial e 9999 _⟩
  bits:=fun a b hab=>by
    have:a=b:=by simpa using hab
    subst this
    show ((⟨a.toArray⟩:ByteArray) == ⟨a.toArray⟩)=true
    rw[Ex]; simp
def m8 (l:List aR):List Int:=l.flatMap fun x=>[x.aG+1,x.dot]
theorem LW (l:List aR):(m8 l).length=2 * l.length:=by
  induction l with
  | nil=>rfl
  | cons x l ih=>simp only[m8,List.flatMap_cons,List.length_append,List.length_cons,List.length_nil] at ih ⊢; omega
theorem zh:∀ l:List aR,jB ((m8 l).map fun n=>[gy n])=some (eP l)
  | []=>rfl
  | x :: l=>by
    have ih:=zh l
    simp only[m8,eP,List.flatMap_cons,List.cons_append,List.nil_append,List.map_cons,jB] at ih ⊢
    rw[ih]; rfl
theorem MC {x:Int} (h1:0≤x) (h2:x < 256):IntKind.wrap .u8 x=x:=by
  unfold IntKind.wrap
  have e1:(2:Int) ^ IntKind.u8.bits=256:=by rfl
  have e2:IntKind.u8.signed=false:=by rfl
  simp only[e1,e2,Bool.false_and,Bool.false_eq_true,if_false]
  omega
theorem N8 {P:Program} {T:Env} {H:View} {K:V→View→Prop} {w:cw (T,H,K)} {t e d ty:TypeId} {x:Operand} {u:V} {xs:List (List V)} {rd:List Nat} {l:List UInt8} {k:Nat} (hu:P.underlying t=some (.slice e)) (he:P.underlying e=some (.int .u8)) (hd:P.underlying d=some .string)
    (hx:ev T x=u) (hl:bJ H u=some (xs,rd)) (hn:cT u=some k) (ht:jB xs=some l) (hk:K (.val (fR l)) H):nq P (.convert t d x) ty T H K w:=by
  intro n _
  have hb:jt P t d=true:=by simp[jt,hu]
  refine ⟨.val (fR l),.none,rd,?_,hk⟩
  simp only[sI,bU,oper]
  rw[if_pos hb,hx]
  simp[kJ,hu,he,hd,hl,hn,ht,fR]
def sw:SC :=
  .seq (ak [aK 15 .lss 14 13]) <|
  .seq (.cond (.tmp 15) (.skip) (.exit 0)) <|
  .seq (.block 1 (.seq (ak [aL 16 2 12 14,aJ 17 2 16,((some 7),.op (.alloc [(.val (.int .i64 0)),(.val (.int .i64 0))])),(none,.op (.store 2 (.tmp 7) (.tmp 17)))]) <|
  .seq (ak [aJ 19 4 2,aJ 20 2 7,aF 21 50 [19,20],aa 18 21,cM 22 0 18,cM 23 1 18,aa 8 22,aa 9 23]) <|
  .seq (ak [aa 24 9]) <|
  .cond (.tmp 24) (.seq (ak [aJ 25 4 2,aa 26 8,aF 27 111 [25,26],aa 10 27]) <|
  ak [aa 28 5,aa 29 10,aa 30 5,aa 31 10,((some 32),.op (.old (.lookup 98 (.tmp 30) (.tmp 31) false) 27)),aq 33 0 7,ao 34 33,aq 35 1 7,ao 36 35,ay 37 .add 36 1,((some 38),.op (.build [(.val (.int .i64 0)),(.val (.int .i64 0))] [(0,1,(.tmp 34)),(1,1,(.tmp 37))])),((some 39),.op (.bD 1 2 [(.val (.int .i64 0)),(.val (.int .i64 0))] [(0,(.tmp 38))])),((some 40),.op (.app 2 16 (.tmp 32) (.tmp 39))),(none,.op (.old (.mapUpdate 98 (.tmp 28) (.tmp 29) (.tmp 40)) 0))]) (.skip))) <|
  ak [ay 41 .add 14 1,aa 14 41]
def vP:SF:=⟨.seq (ak [cr 2 0,((some 4),.op (.bg (.val (.val (.map none)))))]) <|
  .seq (ak [((some 11),.op (.lS)),aa 5 11]) <|
  .seq (.seq (ak [aa 12 1,aI 13 12,aD 14 0]) <|
  .block 0 (.loop sw)) <|
  .seq (ak [aa 42 5,aa 4 42]) <|
  .ret,
  [.tmp 4],43⟩
theorem Am:bh Tryz.prog 63 [2]=some vP:=by kernel_rfl
def uZ:SC :=
  .seq (ak [aK 9 .lss 8 7]) <|
  .seq (.cond (.tmp 9) (.skip) (.exit 0)) <|
  .seq (.block 1 (.seq (ak [aL 10 2 6 8,aJ 11 2 10,((some 5),.op (.alloc [(.val (.int .i64 0)),(.val (.int .i64 0))])),(none,.op (.store 2 (.tmp 5) (.tmp 11)))]) <|
  ak [aa 12 3,aq 13 0 5,ao 14 13,ay 15 .add 14 1,((some 16),.op (.conv .u8 (.tmp 15))),aq 17 1 5,ao 18 17,((some 19),.op (.conv .u8 (.tmp 18))),((some 20),.op (.bD 2 1 [(.val (.int .u8 0))] [(0,(.tmp 16)),(1,(.tmp 19))])),((some 21),.op (.app 1 1 (.tmp 12) (.tmp 20))),aa 3 21])) <|
  ak [ay 22 .add 8 1,aa 8 22]
def Ap:SF:=⟨.seq (.region false [⟨none,[((some 2),.op (.bg (.val (.val (.string ⟨#[]⟩)))))]⟩]) <|
  .seq (ak [((some 3),.op (.bg (.val (.emp 1))))]) <|
  .seq (.seq (ak [aa 6 0,aI 7 6,aD 8 0]) <|
  .block 0 (.loop uZ)) <|
  .seq (ak [aa 23 3,((some 24),.op (.old (.convert 91 9 (.tmp 23)) 9)),aa 2 24]) <|
  .ret,
  [.tmp 2],25⟩
theorem CJ:bh Tryz.prog 62 []=some Ap:=by kernel_rfl
set_option maxHeartbeats 4000000 in
theorem Df (g:an) (hf:g.dM) (l:List aR) (hl:∀ x∈l,dB g x) (hn:l.length≤10000) (u:V) (H:View) (ho:aW H u 2 (bE l)):aA Tryz.prog 62 [u] H fun r H'=>r=.val (fR (eP l))∧∀ id,H id≠.dead→H' id=H id:=by
  refine aA.of mixed CJ ?_
  have hlen:cT u=some l.length:=by rw[ho.len,bC]
  have hru:=hf.rules
  simp (disch:=omega) only [↓wr,↓reduceIte,wq,ah,ag,aj,ab,ae,af,ai,isNil,Nat.reduceEqDiff,Nat.reduceAdd,Nat.reduceLT,Nat.reduceLeDiff,Int.reduceNeg,Int.reduceToNat,reduceCtorEq,Ap,hlen]
  refine bw.up l.length (fun i T H'=>∃ b:V,aW H' b 1 ((m8 (l.take i)).map fun n=>[gy n])∧cL H H' b∧T 3=b∧T 6=u∧T 7=gi l.length∧T 8=gi i) ⟨.emp 1,.nil,.emp,rfl,rfl,rfl,rfl⟩ ?_
  rintro i k T H' hk ⟨b,hb,fb,t3,t6,t7,t8⟩
  simp (disch:=omega) only [↓wr,↓reduceIte,wq,ah,ag,aj,ab,ae,af,ai,isNil,Nat.reduceEqDiff,Nat.reduceAdd,Nat.reduceLT,Nat.reduceLeDiff,Int.reduceNeg,Int.reduceToNat,reduceCtorEq,uZ,t3,t6,t7,t8]
  refine av.dec (fun hc=>?_) (fun hc=>?_)
  · have hx:l[i]?=some (l[i]'(by omega)):=List.getElem?_eq_getElem (by omega)
    have hxm:=hl _ (List.getElem_mem (show i < l.length by omega))
    have htk:l.take (i+1)=l.take i ++ [l[i]'(by omega)]:=by rw[List.take_add_one,hx]; rfl
    generalize l[i]'(by omega)=x at hx hxm htk
    have hr6:=gJ hf hxm.1
    have hx1:=hxm.1
    have hx2:=hxm.2
    obtain ⟨id,hu,hid⟩:=ho.sl (by rw[bC]; omega)
    have hid':H' id=.arr 2 (bE l):=by rw[(fb id (by rw[hid]; simp)).1,hid]
    rw[bC] at hu
    subst hu
    have hkl:=LW (l.take i)
    rw[List.length_take] at hkl
    simp (disch:=omega) only [↓wr,↓reduceIte,wq,ah,ag,aj,ab,ae,af,ai,isNil,Nat.reduceEqDiff,Nat.reduceAdd,Nat.reduceLT,Nat.reduceLeDiff,Int.reduceNeg,Int.reduceToNat,reduceCtorEq,t3,t6,t7,t8,hid',z1 hx,MC (x:=x.aG+1) (by omega) (by omega),MC (x:=x.dot) (by omega) (by omega)]
    refine ⟨by omega,by rw[bC]; omega,?_⟩
    intro q hq q2 hq2
    obtain ⟨hne,hq3⟩:=cF hq2 (by simp)
    rw[if_neg hne] at hq3
    have hqH:∀ j,H j≠.dead→j≠q∧j≠q2:=fun j hj=>by
      have h1:=(fb j hj).1
      exact ⟨fun e=>hj (by rw[e] at h1 ⊢; rw[← h1,hq]),fun e=>hj (by rw[e] at h1 ⊢; rw[← h1,hq3])⟩
    have hb3:∀ a0 a1 a2,aW (((H'.set q a0).set q a1).set q2 a2) b 1 ((m8 (l.take i)).map fun n=>[gy n]):=fun a0 a1 a2=>hb.keep fun id hid=>by
      have h1:=(hb.live hid).1
      have e1:id≠q:=by rintro rfl; rw[hq] at h1; simp at h1
      have e2:id≠q2:=by rintro rfl; rw[hq3] at h1; simp at h1
      simp[View.set,e1,e2]
    have hset:∀ a0 a1 a2 j,H j≠.dead→(((H'.set q a0).set q a1).set q2 a2) j=H j:=fun a0 a1 a2 j hj=>by
      obtain ⟨e1,e2⟩:=hqH j hj
      simp[View.set,e1,e2,(fb j hj).1]
    have hel:∀ (a0 a1:bL) (e1 e2:List V),bJ (((H'.set q a0).set q a1).set q2 (.arr 1 [e1,e2])) (.sl q2 0 2 1)=some ([e1,e2],[q2]):=fun a0 a1 e1 e2=>by simp[bJ,View.set]
    simp (disch:=omega) only [↓wr,↓reduceIte,wq,ah,ag,aj,ab,ae,af,ai,isNil,Nat.reduceEqDiff,Nat.reduceAdd,Nat.reduceLT,Nat.reduceLeDiff,Int.reduceNeg,Int.reduceToNat,reduceCtorEq,hel,t3]
    refine qJ (hb3 _ _ _) (by simp[aP]) (by unfold aN; simp; omega) (by unfold aN; simp; omega) ?_
    intro b2 H5 o5 l5
    simp (disch:=omega) only [↓wr,↓reduceIte,wq,ah,ag,aj,ab,ae,af,ai,isNil,Nat.reduceEqDiff,Nat.reduceAdd,Nat.reduceLT,Nat.reduceLeDiff,Int.reduceNeg,Int.reduceToNat,reduceCtorEq,t6,t7,t8]
    refine bt hk (by omega) ⟨b2,?_,fun j hj=>?_,rfl,t6,t7,rfl⟩
    · have:(m8 (l.take (i+1))).map (fun n=>[gy n])=(m8 (l.take i)).map (fun n=>[gy n]) ++ [[gy (x.aG+1)],[gy x.dot]]:=by
        rw[htk]; simp[m8]
      rw[this]; exact o5
    · obtain ⟨k1,k2⟩:=l5 j (by rw[hset _ _ _ j hj]; exact hj) (fb j hj).2
      exact ⟨by rw[k1,hset _ _ _ j hj],k2⟩
  · rw[List.take_of_length_le (by omega)] at hb
    simp (disch:=omega) only [↓wr,↓reduceIte,wq,ah,ag,aj,ab,ae,af,ai,isNil,Nat.reduceEqDiff,Nat.reduceAdd,Nat.reduceLT,Nat.reduceLeDiff,Int.reduceNeg,Int.reduceToNat,reduceCtorEq,t3]
    have hel:∃ rd,bJ H' b=some ((m8 l).map (fun n=>[gy n]),rd):=by
      rcases hb with ⟨e,k,rfl⟩ | ⟨n,rfl,hn⟩
      · exact ⟨[],by rw[e]; rfl⟩
      · rcases hq:(m8 l).map (fun n=>[gy n]) with _ | ⟨y,ys⟩
        · exact ⟨[],by simp[bJ]⟩
        · rw[hq] at hn
          exact ⟨[n],by
            have:=pk (H:=H') n 0 ys.length 1 1 (y :: ys) hn (by simp)
            rw[List.length_cons,this]; simp⟩
    obtain ⟨rd,hel⟩:=hel
    refine N8 (u:=b) (xs:=(m8 l).map fun n=>[gy n]) (rd:=rd) (k:=((m8 l).map fun n=>[gy n]).length) (l:=eP l) Tryz.underlying91 Tryz.underlying5 Tryz.underlying9 (by simp (disch:=omega) only [↓wr,↓reduceIte,wq,ah,ag,aj,ab,ae,af,ai,isNil,Nat.reduceEqDiff,Nat.reduceAdd,Nat.reduceLT,Nat.reduceLeDiff,Int.reduceNeg,Int.reduceToNat,reduceCtorEq]; exact t3) hel hb.len (zh l) ?_
    simp (disch:=omega) only [↓wr,↓reduceIte,wq,ah,ag,aj,ab,ae,af,ai,isNil,Nat.reduceEqDiff,Nat.reduceAdd,Nat.reduceLT,Nat.reduceLeDiff,Int.reduceNeg,Int.reduceToNat,reduceCtorEq]
    exact fun id hid=>(fb id hid).1
theorem vW (g:an) (p:List aR) (y:aR) (s:Int):bp g (p ++ [y]) s=if ec g y=(s,true) then bp g p s ++ [⟨y.aG,y.dot+1⟩] else bp g p s:=by
  unfold bp
  rw[List.filter_append,List.map_append]
  split
  · rename_i h; simp[h]
  · rename_i h; simp[h]
def gC (g:an) (p:List aR) (A:bZ Int):List er:=A.map fun x=>(x.2.1,2,bE (bp g p (ba g x.1.toNat)))
structure qE (g:an) (p:List aR) (H0 H:View) (q:Nat) (A:bZ Int):Prop where
  mp:∃ c,H q=.map (bP (Value.int .i64) A) c
  nd:(A.map (·.1)).Nodup
  own:bc H (gC g p A)
  ne:∀ x∈A,0≤x.1∧bp g p (ba g x.1.toNat)≠[]
  all:∀ k:Nat,bp g p (ba g k)≠[]→((k:Nat):Int)∈A.map (·.1)
  old:∀ id,H0 id≠.dead→H id=H0 id
  q0:H0 q=.dead
  new:∀ x∈A,∀ id,owner x.2.1=some id→H0 id=.dead
theorem getM_none {A:bZ Int} {k:Int} : getM A k=none↔k ∉ A.map (·.1):=by
  induction A with
  | nil=>simp[getM]
  | cons x A ih =>
    unfold getM at ih ⊢
    rw[List.find?_cons]
    by_cases h:k=x.1
    · simp[h]
    · simp only[beq_eq_false_iff_ne.2 h,List.map_cons,List.mem_cons,not_or]
      rw[ih]
      simp[h]
theorem tF {A:bZ Int} {k:Int} {v:V} (h:getM A k=some v):∃ A1 A2 b,A=A1 ++ (k,v,b) :: A2∧k ∉ A1.map (·.1)∧∀ v' c,bS k v' c A=A1 ++ (k,v',b) :: A2:=by
  induction A with
  | nil=>simp[getM] at h
  | cons x A ih =>
    unfold getM at h ih
    rw[List.find?_cons] at h
    by_cases e:k=x.1
    · simp only[e,beq_self_eq_true,Option.map_some,Option.some.injEq] at h
      refine ⟨[],A,x.2.2,by rw[e,← h]; rfl,by simp,fun v' c=>?_⟩
      rw[bS,e,beq_self_eq_true,if_pos rfl]; rfl
    · rw[beq_eq_false_iff_ne.2 e] at h
      obtain ⟨A1,A2,b,rfl,h2,h3⟩:=ih h
      refine ⟨x :: A1,A2,b,rfl,by simp only[List.map_cons,List.mem_cons,not_or]; exact ⟨e,h2⟩,fun v' c=>?_⟩
      rw[bS,beq_eq_false_iff_ne.2 e,h3]; rfl
theorem K6 {A:bZ Int} {k:Int} (h:k ∉ A.map (·.1)) (v:V) (c:Nat):bS k v c A=A ++ [(k,v,c)]:=by
  induction A with
  | nil=>rfl
  | cons x A ih =>
    simp only[List.map_cons,List.mem_cons,not_or] at h
    rw[bS,beq_eq_false_iff_ne.2 h.1,ih h.2]; rfl
theorem qE.skip {g:an} {p:List aR} {H0 H:View} {q:Nat} {A:bZ Int} (h:qE g p H0 H q A) {y:aR} (hy:(ec g y).2=false):qE g (p ++ [y]) H0 H q A:=by
  have e:∀ s,bp g (p ++ [y]) s=bp g p s:=fun s=>by rw[vW,if_neg (fun h=>by rw[h] at hy; simp at hy)]
  have e2:gC g (p ++ [y]) A=gC g p A:=by simp only[gC,e]
  exact ⟨h.mp,h.nd,by rw[e2]; exact h.own,fun x hx=>by rw[e]; exact h.ne x hx,fun k hk=>by rw[e] at hk; exact h.all k hk,h.old,h.q0,h.new⟩
theorem qE.val {g:an} {p:List aR} {H0 H:View} {q:Nat} {A:bZ Int} (h:qE g p H0 H q A) (r:Nat):aW H ((getM A r).getD (.emp 1)) 2 (bE (bp g p (ba g r))):=by
  cases hg:getM A r with
  | none =>
    have hn:=getM_none.1 hg
    have:bp g p (ba g r)=[]:=Decidable.byContradiction fun hne=>hn (h.all r hne)
    rw[this]; exact .nil
  | some v =>
    obtain ⟨A1,A2,b,rfl,_,_⟩:=tF hg
    have:=h.own.1 (v,2,bE (bp g p (ba g r))) (by simp[gC])
    exact this
theorem qE.put {g:an} {p:List aR} {H0 H:View} {q:Nat} {A:bZ Int} (h:qE g p H0 H q A) {y:aR} {r:Nat} (hy:ec g y=(ba g r,true)) {H1:View} {v':V} (o1:aW H1 v' 2 (bE (bp g p (ba g r) ++ [⟨y.aG,y.dot+1⟩]))) (l1:Left H H1 ((getM A r).getD (.emp 1)) v') (c c':Nat) :
    qE g (p ++ [y]) H0 (H1.set q (.map (bP (Value.int .i64) (bS (r:Int) v' c A)) c')) q (bS (r:Int) v' c A):=by
  obtain ⟨c0,hq⟩:=h.mp
  have hr:bp g (p ++ [y]) (ba g r)=bp g p (ba g r) ++ [⟨y.aG,y.dot+1⟩]:=by rw[vW,if_pos hy]
  have hne:∀ x:Int × V × Nat,0≤x.1→x.1≠r→bp g (p ++ [y]) (ba g x.1.toNat)=bp g p (ba g x.1.toNat):=fun x h0 hx=>by
    rw[vW,if_neg]
    intro e
    rw[hy] at e
    simp only[Prod.mk.injEq,and_true] at e
    have h1:=D6 g r
    rw[e,D6] at h1
    omega
  have howq:owner ((getM A r).getD (.emp 1))≠some q:=fun e=>by
    have:=((h.val r).live e).1
    rw[hq] at this; simp at this
  have hq1:H1 q≠.dead∧owner v'≠some q:=by
    obtain ⟨k1,k2⟩:=l1 q (by rw[hq]; simp) howq
    exact ⟨by rw[k1,hq]; simp,k2⟩
  have hold:∀ id,H0 id≠.dead→id≠q∧owner ((getM A r).getD (.emp 1))≠some id:=fun id hid=>by
    refine ⟨fun e=>hid (by rw[e]; exact h.q0),fun e=>?_⟩
    cases hg:getM A r with
    | none=>rw[hg] at e; simp[owner] at e
    | some v =>
      rw[hg] at e
      obtain ⟨A1,A2,b,rfl,_,_⟩:=tF hg
      exact hid (h.new (r,v,b) (by simp) id e)
  have hold2:∀ id,H0 id≠.dead→(H1.set q (.map (bP (Value.int .i64) (bS (r:Int) v' c A)) c')) id=H0 id:=fun id hid=>by
    simp only[View.set]
    rw[if_neg (hold id hid).1,(l1 id (by rw[h.old id hid]; exact hid) (hold id hid).2).1,h.old id hid]
  have hv':∀ id,owner v'=some id→H0 id=.dead:=fun id e=>Classical.byContradiction fun hid=>(l1 id (by rw[h.old id hid]; exact hid) (hold id hid).2).2 e
  have hset:∀ {L:List er},bc H1 L→(∀ x∈L,owner x.1≠some q)→bc (H1.set q (.map (bP (Value.int .i64) (bS (r:Int) v' c A)) c')) L:=fun hL hx=>⟨fun x hxm=>(hL.1 x hxm).other (hx x hxm),hL.2⟩
  have hmapq:∀ x∈A,owner x.2.1≠some q:=fun x hx=>h.own.HI hq _ (List.mem_map.2 ⟨x,hx,rfl⟩)
  cases hg:getM A r with
  | none =>
    have hn:=getM_none.1 hg
    rw[hg] at l1
    rw[K6 hn] at *
    have e1:gC g (p ++ [y]) (A ++ [((r:Int),v',c)])=gC g p A ++ [(v',2,bE (bp g p (ba g r) ++ [⟨y.aG,y.dot+1⟩]))]:=by
      simp only[gC,List.map_append,List.map_cons,List.map_nil,Int.toNat_natCast,hr]
      congr 1
      refine List.map_congr_left fun x hx=>?_
      rw[hne x (h.ne x hx).1 (fun e=>hn (List.mem_map.2 ⟨x,hx,e⟩))]
    refine ⟨⟨c',by simp[View.set]⟩,?_,?_,fun x hx=>?_,fun k hk=>?_,hold2,h.q0,fun x hx id e=>?_⟩
    · rw[List.map_append,List.nodup_append]
      refine ⟨h.nd,by simp,fun a ha b hb e=>?_⟩
      simp at hb; subst hb; subst e; exact hn ha
    · rw[e1]
      have ho:bc H1 ((v',2,bE (bp g p (ba g r) ++ [⟨y.aG,y.dot+1⟩])) :: gC g p A):=(h.own.emp (k:=1) (sz:=2)).left (by simpa using o1) l1
      refine hset (ho.perm (List.perm_append_comm (l₁:=[_]))) fun x hx=>?_
      rcases List.mem_append.1 hx with hx | hx
      · obtain ⟨z,hz,rfl⟩:=List.mem_map.1 hx
        exact hmapq z hz
      · simp at hx; subst hx; exact hq1.2
    · rcases List.mem_append.1 hx with hx | hx
      · rw[hne x (h.ne x hx).1 (fun e=>hn (List.mem_map.2 ⟨x,hx,e⟩))]; exact h.ne x hx
      · simp at hx; subst hx; simp[hr]
    · rw[List.map_append,List.mem_append]
      by_cases e:k=r
      · right; simp[e]
      · left
        refine h.all k ?_
        have:=hne ((k:Int),.any,0) (by simp) (by simp only; omega)
        simp only[Int.toNat_natCast] at this
        rw[← this]; exact hk
    · rcases List.mem_append.1 hx with hx | hx
      · exact h.new x hx id e
      · simp at hx; subst hx; exact hv' id e
  | some v =>
    obtain ⟨A1,A2,b,rfl,hn1,hput⟩:=tF hg
    rw[hg] at l1
    rw[hput] at *
    have hnd:=h.nd
    rw[List.map_append,List.map_cons,List.nodup_append] at hnd
    have hn2:(r:Int) ∉ A2.map (·.1):=(List.nodup_cons.1 hnd.2.1).1
    have hx1:∀ x∈A1,x.1≠r:=fun x hx e=>hn1 (List.mem_map.2 ⟨x,hx,e⟩)
    have hx2:∀ x∈A2,x.1≠r:=fun x hx e=>hn2 (List.mem_map.2 ⟨x,hx,e⟩)
    have hm1:∀ x∈A1,x∈A1 ++ ((r:Int),v,b) :: A2:=fun x hx=>List.mem_append_left _ hx
    have hm2:∀ x∈A2,x∈A1 ++ ((r:Int),v,b) :: A2:=fun x hx=>List.mem_append_right _ (List.mem_cons_of_mem _ hx)
    have e1:gC g (p ++ [y]) (A1 ++ ((r:Int),v',b) :: A2)=gC g p A1 ++ (v',2,bE (bp g p (ba g r) ++ [⟨y.aG,y.dot+1⟩])) :: gC g p A2:=by
      simp only[gC,List.map_append,List.map_cons,Int.toNat_natCast,hr]
      congr 1
      · refine List.map_congr_left fun x hx=>?_
        rw[hne x (h.ne x (hm1 x hx)).1 (hx1 x hx)]
      · congr 1
        refine List.map_congr_left fun x hx=>?_
        rw[hne x (h.ne x (hm2 x hx)).1 (hx2 x hx)]
    have e0:gC g p (A1 ++ ((r:Int),v,b) :: A2)=gC g p A1 ++ (v,2,bE (bp g p (ba g r))) :: gC g p A2:=by
      simp only[gC,List.map_append,List.map_cons,Int.toNat_natCast]
    refine ⟨⟨c',by simp[View.set]⟩,by simpa using h.nd,?_,fun x hx=>?_,fun k hk=>?_,hold2,h.q0,fun x hx id e=>?_⟩
    · rw[e1]
      have h0:=h.own
      rw[e0] at h0
      have ho:bc H1 ((v',2,bE (bp g p (ba g r) ++ [⟨y.aG,y.dot+1⟩])) :: (gC g p A1 ++ gC g p A2)):=(h0.perm List.perm_middle).left o1 l1
      refine hset (ho.perm List.perm_middle.symm) fun x hx=>?_
      rcases List.mem_append.1 hx with hx | hx
      · obtain ⟨z,hz,rfl⟩:=List.mem_map.1 hx
        exact hmapq z (hm1 z hz)
      · rcases List.mem_cons.1 hx with rfl | hx
        · exact hq1.2
        · obtain ⟨z,hz,rfl⟩:=List.mem_map.1 hx
          exact hmapq z (hm2 z hz)
    · rcases List.mem_append.1 hx with hx | hx
      · rw[hne x (h.ne x (hm1 x hx)).1 (hx1 x hx)]; exact h.ne x (hm1 x hx)
      · rcases List.mem_cons.1 hx with rfl | hx
        · simp[hr]
        · rw[hne x (h.ne x (hm2 x hx)).1 (hx2 x hx)]; exact h.ne x (hm2 x hx)
    · by_cases e:k=r
      · subst e; simp
      · have:=hne ((k:Int),.any,0) (by simp) (by simp only; omega)
        simp only[Int.toNat_natCast] at this
        rw[this] at hk
        have:=h.all k hk
        simpa using this
    · rcases List.mem_append.1 hx with hx | hx
      · exact h.new x (hm1 x hx) id e
      · rcases List.mem_cons.1 hx with rfl | hx
        · exact hv' id e
        · exact h.new x (hm2 x hx) id e
theorem qE.fresh {g:an} {p:List aR} {H0 H:View} {q:Nat} {A:bZ Int} (h:qE g p H0 H q A) {n:Nat} (hn:H n=.dead) (o:bL):qE g p H0 (H.set n o) q A:=by
  obtain ⟨c,hq⟩:=h.mp
  have e1:q≠n:=by rintro rfl; rw[hn] at hq; simp at hq
  refine ⟨⟨c,by simp[View.set,e1,hq]⟩,h.nd,h.own.fresh hn,h.ne,h.all,fun id hid=>?_,h.q0,h.new⟩
  have e2:id≠n:=by rintro rfl; rw[h.old id hid] at hn; exact hid hn
  simp[View.set,e2,h.old id hid]
set_option maxHeartbeats 8000000 in
theorem LF (g:an) (hf:g.dM) (l:List aR) (hl:∀ x∈l,dB g x) (hn:l.length≤10000) (u:V) (H:View) (ho:aW H u 2 (bE l)):aA Tryz.prog 63 [.agg (aw g),u] H fun r H'=>∃ q A,r=.mp q∧qE g l H H' q A:=by
  refine aA.of mixed Am ?_
  have hlen:cT u=some l.length:=by rw[ho.len,bC]
  have hT:=hf.ax
  have hN:=hf.au
  simp (disch:=omega) only [↓wr,↓reduceIte,wq,ah,ag,aj,ab,ae,af,ai,isNil,Nat.reduceEqDiff,Nat.reduceAdd,Nat.reduceLT,Nat.reduceLeDiff,Int.reduceNeg,Int.reduceToNat,reduceCtorEq,vP,aw,encS,hlen]
  intro q hq
  have h0:qE g [] H (H.set q (.map [] 0)) q []:=⟨⟨0,by simp[View.set,bP]⟩,by simp,⟨by simp[gC],by simp[gC]⟩,by simp,fun k hk=>absurd rfl hk,fun id hid=>by
    have:id≠q:=by rintro rfl; exact hid hq
    simp[View.set,this],hq,by simp⟩
  generalize H.set q (.map [] 0)=H1 at h0
  try simp (disch:=omega) only [↓wr,↓reduceIte,wq,ah,ag,aj,ab,ae,af,ai,isNil,Nat.reduceEqDiff,Nat.reduceAdd,Nat.reduceLT,Nat.reduceLeDiff,Int.reduceNeg,Int.reduceToNat,reduceCtorEq]
  refine bw.up l.length (fun i T H'=>∃ A,qE g (l.take i) H H' q A∧T 2=.aO (aw g) 0∧T 5=.mp q∧T 12=u∧T 13=gi l.length∧T 14=gi i) ⟨[],h0,rfl,rfl,rfl,rfl,rfl⟩ ?_
  clear h0 hq
  rintro i k T H' hk ⟨A,hM,t2,t5,t12,t13,t14⟩
  simp (disch:=omega) only [↓wr,↓reduceIte,wq,ah,ag,aj,ab,ae,af,ai,isNil,Nat.reduceEqDiff,Nat.reduceAdd,Nat.reduceLT,Nat.reduceLeDiff,Int.reduceNeg,Int.reduceToNat,reduceCtorEq,sw,t2,t5,t12,t13,t14]
  refine av.dec (fun hc=>?_) (fun hc=>?_)
  · have hx:l[i]?=some (l[i]'(by omega)):=List.getElem?_eq_getElem (by omega)
    have hxm:=hl _ (List.getElem_mem (show i < l.length by omega))
    have htk:l.take (i+1)=l.take i ++ [l[i]'(by omega)]:=by rw[List.take_add_one,hx]; rfl
    generalize l[i]'(by omega)=x at hx hxm htk
    have h1:=EZ g hf x hxm
    cases hny:ec g x with
    | mk s okb =>
    have hsb:=zW hf hxm hny
    rw[hny] at h1
    have hr6:=gJ hf hxm.1
    have hx2:=hxm.2
    obtain ⟨id,hu,hid⟩:=ho.sl (by rw[bC]; omega)
    have hid':H' id=.arr 2 (bE l):=by rw[hM.old id (by rw[hid]; simp),hid]
    rw[bC] at hu
    subst hu
    simp only[aw,encS,fN] at h1
    simp (disch:=omega) only [↓wr,↓reduceIte,wq,ah,ag,aj,ab,ae,af,ai,isNil,Nat.reduceEqDiff,Nat.reduceAdd,Nat.reduceLT,Nat.reduceLeDiff,Int.reduceNeg,Int.reduceToNat,reduceCtorEq,t2,t5,t12,t13,t14,hid',z1 hx]
    refine ⟨by omega,by rw[bC]; omega,?_⟩
    intro q1 hq1
    rw[set_set]
    have hqq:(H'.set q1 (.arr 2 [[gi x.aG,gi x.dot]])) q1=.arr 2 [[gi x.aG,gi x.dot]]:=by simp[View.set]
    have hM2:=hM.fresh hq1 (.arr 2 [[gi x.aG,gi x.dot]])
    generalize H'.set q1 (.arr 2 [[gi x.aG,gi x.dot]])=H4 at hqq hM2
    clear hM hq1 hid'
    try simp (disch:=omega) only [↓wr,↓reduceIte,wq,ah,ag,aj,ab,ae,af,ai,isNil,Nat.reduceEqDiff,Nat.reduceAdd,Nat.reduceLT,Nat.reduceLeDiff,Int.reduceNeg,Int.reduceToNat,reduceCtorEq,t2,t5,hqq,aw,encS]
    refine aE.pure h1 (by kernel_rfl) ?_
    cases okb with
    | false =>
      simp (disch:=omega) only [↓wr,↓reduceIte,wq,ah,ag,aj,ab,ae,af,ai,isNil,Nat.reduceEqDiff,Nat.reduceAdd,Nat.reduceLT,Nat.reduceLeDiff,Int.reduceNeg,Int.reduceToNat,reduceCtorEq,t2,t5,t12,t13,t14]
      exact bt hk (by omega) ⟨A,by rw[htk]; exact hM2.skip (by rw[hny]),t2,t5,t12,t13,rfl⟩
    | true =>
    have hh:=Eo hf hxm hny
    obtain ⟨r1,r2⟩:=M4 hh
    obtain ⟨r3,r4⟩:=Ll r1
    obtain ⟨r,hr⟩:∃ r:Nat,lN g s=r:=⟨(lN g s).toNat,by omega⟩
    rw[hr,Int.toNat_natCast] at r4
    have h2:=K2 g hf s hsb
    rw[hr] at h2
    simp only[aw,encS] at h2
    simp (disch:=omega) only [↓wr,↓reduceIte,wq,ah,ag,aj,ab,ae,af,ai,isNil,Nat.reduceEqDiff,Nat.reduceAdd,Nat.reduceLT,Nat.reduceLeDiff,Int.reduceNeg,Int.reduceToNat,reduceCtorEq,t2,t5,aw,encS]
    refine aE.pure h2 (by kernel_rfl) ?_
    obtain ⟨c,hmq⟩:=hM2.mp
    simp (disch:=omega) only [↓wr,↓reduceIte,wq,ah,ag,aj,ab,ae,af,ai,isNil,Nat.reduceEqDiff,Nat.reduceAdd,Nat.reduceLT,Nat.reduceLeDiff,Int.reduceNeg,Int.reduceToNat,reduceCtorEq,t5]
    refine wP (kt:=3) (et:=27) (z:=.emp 1) (by kernel_rfl) (by kernel_rfl) (jH .i64 Tryz.underlying3) (id:=q) (c:=c) (m:=A) (k:=(r:Int)) (by simp (disch:=omega) only [↓wr,↓reduceIte,wq,ah,ag,aj,ab,ae,af,ai,isNil,Nat.reduceEqDiff,Nat.reduceAdd,Nat.reduceLT,Nat.reduceLeDiff,Int.reduceNeg,Int.reduceToNat,reduceCtorEq]) (by simp (disch:=omega) only [↓wr,↓reduceIte,wq,ah,ag,aj,ab,ae,af,ai,isNil,Nat.reduceEqDiff,Nat.reduceAdd,Nat.reduceLT,Nat.reduceLeDiff,Int.reduceNeg,Int.reduceToNat,reduceCtorEq]) hmq ?_
    have hov:=hM2.val r
    have hqq1:∀ n o,H4 n=.dead→(H4.set n o) q1=.arr 2 [[gi x.aG,gi x.dot]]:=fun n o hn=>by
      have:q1≠n:=by rintro rfl; rw[hqq] at hn; simp at hn
      simp[View.set,this,hqq]
    try simp (disch:=omega) only [↓wr,↓reduceIte,wq,ah,ag,aj,ab,ae,af,ai,isNil,Nat.reduceEqDiff,Nat.reduceAdd,Nat.reduceLT,Nat.reduceLeDiff,Int.reduceNeg,Int.reduceToNat,reduceCtorEq,hqq]
    intro q2 hq2
    have hM3:=hM2.fresh hq2 (.arr 2 [[gi x.aG,gi (x.dot+1)]])
    have hov3:=hM3.val r
    have hel:bJ (H4.set q2 (.arr 2 [[gi x.aG,gi (x.dot+1)]])) (.sl q2 0 1 2)=some ([[gi x.aG,gi (x.dot+1)]],[q2]):=by simp[bJ,View.set]
    simp (disch:=omega) only [↓wr,↓reduceIte,wq,ah,ag,aj,ab,ae,af,ai,isNil,Nat.reduceEqDiff,Nat.reduceAdd,Nat.reduceLT,Nat.reduceLeDiff,Int.reduceNeg,Int.reduceToNat,reduceCtorEq,hel]
    have hml:=yK (g:=g) (l:=l.take i) (s:=ba g r)
    rw[List.length_take] at hml
    refine qJ hov3 (by simp[aP]) (by unfold aN; rw[bC]; simp; omega) (by unfold aN; rw[bC]; simp; omega) ?_
    intro v' H6 o6 l6
    obtain ⟨c3,hmq3⟩:=hM3.mp
    have howq:owner ((getM A (r:Int)).getD (.emp 1))≠some q:=fun e=>by
      have:=(hov3.live e).1
      rw[hmq3] at this; simp at this
    have hmq6:H6 q=.map (bP (Value.int .i64) A) c3:=by
      rw[(l6 q (by rw[hmq3]; simp) howq).1,hmq3]
    simp (disch:=omega) only [↓wr,↓reduceIte,wq,ah,ag,aj,ab,ae,af,ai,isNil,Nat.reduceEqDiff,Nat.reduceAdd,Nat.reduceLT,Nat.reduceLeDiff,Int.reduceNeg,Int.reduceToNat,reduceCtorEq,t5]
    refine sV (kt:=3) (et:=27) (by kernel_rfl) (jH .i64 Tryz.underlying3) (id:=q) (c:=c3) (m:=A) (k:=(r:Int)) (v:=v') (by simp (disch:=omega) only [↓wr,↓reduceIte,wq,ah,ag,aj,ab,ae,af,ai,isNil,Nat.reduceEqDiff,Nat.reduceAdd,Nat.reduceLT,Nat.reduceLeDiff,Int.reduceNeg,Int.reduceToNat,reduceCtorEq]) (by simp (disch:=omega) only [↓wr,↓reduceIte,wq,ah,ag,aj,ab,ae,af,ai,isNil,Nat.reduceEqDiff,Nat.reduceAdd,Nat.reduceLT,Nat.reduceLeDiff,Int.reduceNeg,Int.reduceToNat,reduceCtorEq]) (by simp (disch:=omega) only [↓wr,↓reduceIte,wq,ah,ag,aj,ab,ae,af,ai,isNil,Nat.reduceEqDiff,Nat.reduceAdd,Nat.reduceLT,Nat.reduceLeDiff,Int.reduceNeg,Int.reduceToNat,reduceCtorEq]) hmq6 ?_
    intro c'
    simp (disch:=omega) only [↓wr,↓reduceIte,wq,ah,ag,aj,ab,ae,af,ai,isNil,Nat.reduceEqDiff,Nat.reduceAdd,Nat.reduceLT,Nat.reduceLeDiff,Int.reduceNeg,Int.reduceToNat,reduceCtorEq,t2,t5,t12,t13,t14]
    have hfin:=hM3.put (y:=x) (r:=r) (by rw[hny,r4]) (H1:=H6) (v':=v') (by
      have e:bE (bp g (l.take i) (ba g r) ++ [⟨x.aG,x.dot+1⟩])=bE (bp g (l.take i) (ba g r)) ++ [[gi x.aG,gi (x.dot+1)]]:=by simp[bE,fN]
      rw[e]; exact o6) l6 c3 c'
    exact bt hk (by omega) ⟨bS (r:Int) v' c3 A,by rw[htk]; exact hfin,t2,t5,t12,t13,rfl⟩
  · rw[List.take_of_length_le (by omega)] at hM
    simp (disch:=omega) only [↓wr,↓reduceIte,wq,ah,ag,aj,ab,ae,af,ai,isNil,Nat.reduceEqDiff,Nat.reduceAdd,Nat.reduceLT,Nat.reduceLeDiff,Int.reduceNeg,Int.reduceToNat,reduceCtorEq,t5]
    exact ⟨q,A,rfl,hM⟩
theorem aE.still {P:Program} {f:FuncId} {vs:List V} {H:View} {K:V→View→Prop} {w:cw (H,K)} {Φ:V→View→Prop} (hc:aA P f vs H Φ) (hs:∀ r H',Φ r H'→∀ id,H id≠.dead→H' id=H id) (hk:∀ r H',Φ r H'→K r H'):aE P true f vs H K w:=by
  unfold aE
  simp only[if_true]
  exact (hc.mono fun r H' h=>⟨hs r H' h,hk r H' h⟩).Dk
theorem bc.join {H:View} {L M:List er} (h:bc H L) (k:bc H M) (hd:∀ x∈L,∀ y∈M,∀ id,owner x.1=some id→owner y.1≠some id):bc H (L ++ M):=by
  refine ⟨fun x hx=>?_,?_⟩
  · rcases List.mem_append.1 hx with hx | hx
    · exact h.1 x hx
    · exact k.1 x hx
  · rw[List.filterMap_append,List.nodup_append]
    refine ⟨h.2,k.2,fun a ha b hb e=>?_⟩
    obtain ⟨x,hx,hxa⟩:=List.mem_filterMap.1 ha
    obtain ⟨y,hy,hyb⟩:=List.mem_filterMap.1 hb
    subst e
    exact hd x hx y hy a hxa hyb
theorem bc.sub {H:View} {L M:List er} (h:bc H L) (hs:M.Sublist L):bc H M :=
  ⟨fun x hx=>h.1 x (hs.subset hx),h.2.sublist (hs.filterMap _)⟩
theorem IN {l:List aR} (hs:cI l) (hn:l.length≤100000) (u:V) (H:View) (ho:aW H u 2 (bE l)):aA Tryz.prog 64 [u] H fun r H'=>H=H'∧aW H r 2 (bE l)∧(l≠[]→r=u):=by
  refine (Gt l hn u H ho).mono ?_
  rintro r H' ⟨k1,k2,k3⟩
  rw[HK hs] at k2
  have e:H'=H:=by
    funext id
    by_cases h:owner u=some id
    · rw[(ho.live h).1,(k2.live (by rw[k3]; exact h)).1]
    · exact k1 id h
  subst e
  refine ⟨rfl,k2,fun hne=>?_⟩
  have hp:0 < (bE l).length:=by rw[bC]; exact List.length_pos_iff.2 hne
  obtain ⟨n,e1,_⟩:=ho.sl hp
  obtain ⟨m,e2,_⟩:=k2.sl hp
  rw[e1,e2] at k3
  simp only[owner,Option.some.injEq] at k3
  rw[e1,e2,k3]
def oD (g:an) (out:List bo) (M:bZ (List UInt8)):Prop:=∀ l:List aR,(∀ x∈l,dB g x)→getM M (eP l)=if findD out l < 0 then none else some (gi (findD out l))
theorem Br:∀ {a b:List bo},a.map bo.bq=b.map bo.bq→∀ k,findD a k=findD b k
  | [],[],_,_=>rfl
  | [],_ :: _,h,_=>by simp at h
  | _ :: _,[],h,_=>by simp at h
  | s :: a,t :: b,h,k=>by
    simp only[List.map_cons,List.cons.injEq] at h
    rw[findD,findD,h.1,Br h.2 k]
theorem zC:∀ (a:List bo) (s:bo) (k:List aR),findD (a ++ [s]) k=if 0≤findD a k then findD a k else if s.bq=k then (a.length:Int) else -1
  | [],s,k=>by by_cases e:s.bq=k <;> simp[findD,e]
  | t :: a,s,k=>by
    have ih:=zC a s k
    have h1:=td a k
    rw[List.cons_append,findD,findD,ih]
    simp only[List.length_cons]
    push_cast
    by_cases e:t.bq=k <;> by_cases e2:s.bq=k <;> by_cases h0:0≤findD a k <;> simp only[e,e2,h0,if_true,if_false] <;> (repeat' split) <;> omega
theorem oD.same {g:an} {a b:List bo} {M:bZ (List UInt8)} (h:oD g a M) (e:a.map bo.bq=b.map bo.bq):oD g b M:=fun l hl=>by
  rw[h l hl,Br e]
theorem oD.put {g:an} (hf:g.dM) {out:List bo} {M:bZ (List UInt8)} (h:oD g out M) {k:List aR} (hk:∀ x∈k,dB g x) (hn:findD out k < 0) (c:Nat):oD g (out ++ [⟨k,[]⟩]) (bS (eP k) (gi out.length) c M):=fun l hl=>by
  have h1:=zC out ⟨k,[]⟩ l
  have h2:=td out l
  rw[yw]
  by_cases e:l=k
  · subst e
    rw[if_neg (by omega),if_pos rfl] at h1
    rw[h1,beq_self_eq_true,if_pos rfl,if_neg (by omega)]
  · have e2:(eP l == eP k)=false:=beq_eq_false_iff_ne.2 fun h=>e (Dn hf hl hk h)
    rw[e2,h l hl]
    simp only[Bool.false_eq_true,if_false]
    by_cases h0:0≤findD out l
    · rw[if_pos h0] at h1
      rw[h1]
    · rw[if_neg h0,if_neg (fun h=>e h.symm)] at h1
      rw[h1,if_pos (by omega),if_pos (by omega)]
theorem DA {A:bZ Int} {k:Nat} {v:V} (hn:(A.map (·.1)).Nodup) (h:getM A (k:Int)=some v):∃ b,(A.filter (fun x=>decide (((k:Nat):Int)≤x.1))).Perm (((k:Int),v,b) :: A.filter (fun x=>decide (((k+1:Nat):Int)≤x.1))):=by
  obtain ⟨A1,A2,b,rfl,hn1,_⟩:=tF h
  rw[List.map_append,List.map_cons,List.nodup_append] at hn
  have hn2:(k:Int) ∉ A2.map (·.1):=(List.nodup_cons.1 hn.2.1).1
  have e:∀ B:bZ Int,(k:Int) ∉ B.map (·.1)→B.filter (fun x=>decide (((k:Nat):Int)≤x.1))=B.filter (fun x=>decide (((k+1:Nat):Int)≤x.1)):=fun B hB=>List.filter_congr fun x hx=>by
    have:x.1≠(k:Int):=fun e=>hB (List.mem_map.2 ⟨x,hx,e⟩)
    rw[decide_eq_decide]; omega
  refine ⟨b,?_⟩
  rw[List.filter_append,List.filter_append,List.filter_cons,List.filter_cons,if_pos (by simp),if_neg (by simp only[decide_eq_true_eq]; push_cast; omega),e A1 hn1,e A2 hn2]
  exact List.perm_middle
theorem OB {α:Type} {e u r:α} {S X Y:List α} (h:X.Perm (r :: Y)):(e :: u :: (S ++ X)).Perm (u :: ((S ++ [r,e]) ++ Y)):=by
  refine (List.Perm.swap _ _ _).trans (.cons _ ?_)
  rw[List.append_assoc]
  refine ((h.append_left S).cons e).trans ?_
  exact List.perm_middle.symm.trans ((List.Perm.swap _ _ _).append_left S)
theorem CS {α:Type} {u k e:α} {S R:List α} : (u :: (S ++ k :: e :: R)).Perm (e :: u :: (S ++ k :: R)):=by
  have h:(S ++ k :: e :: R).Perm (e :: (S ++ k :: R)):=by
    have:=List.perm_middle (a:=e) (l₁:=S ++ [k]) (l₂:=R)
    simpa using this
  exact (h.cons u).trans (List.Perm.swap _ _ _)
def r5:SC :=
  .seq (ak [aK 49 .lss 48 47]) <|
  .seq (.cond (.tmp 49) (.skip) (.exit 2)) <|
  .seq (.block 3 (.seq (ak [aa 50 48,aa 9 50]) <|
  .seq (ak [aa 51 8,aa 52 9,((some 53),.op (.old (.lookup 98 (.tmp 51) (.tmp 52) false) 27)),aF 54 64 [53],aa 10 54]) <|
  .seq (.seq (ak [aa 55 10,aI 56 55,ay 57 .eql 56 0]) <|
  .cond (.tmp 57) (.exit 3) (.skip)) <|
  .seq (ak [aa 58 9,aa 11 58]) <|
  .seq (.seq (ak [aa 59 9,aq 60 0 1,ao 61 60,aI 62 61,aK 63 .geq 59 62]) <|
  .cond (.tmp 63) (ak [aq 64 0 1,ao 65 64,aI 66 65,ay 67 .sub 66 1,aa 68 9,aK 69 .sub 67 68,aa 11 69]) (.skip)) <|
  .seq (ak [aa 71 6,aa 72 10,aF 73 62 [72],((some 74),.op (.old (.lookup 97 (.tmp 71) (.tmp 73) true) 30)),aa 70 74,cM 75 0 70,cM 76 1 70,aa 12 75,aa 13 76]) <|
  .seq (.seq (ak [aa 77 13,bW 78 77]) <|
  .cond (.tmp 78) (.seq (ak [aa 79 5,aI 80 79,aa 12 80]) <|
  .seq (ak [aa 81 6,aa 82 10,aF 83 62 [82],aa 84 12,(none,.op (.old (.mapUpdate 97 (.tmp 81) (.tmp 83) (.tmp 84)) 0))]) <|
  ak [aa 85 5,aa 86 10,((some 87),.op (.build [(.emp 1),(.emp 1)] [(0,1,(.tmp 86))])),((some 88),.op (.bD 1 2 [(.emp 1),(.emp 1)] [(0,(.tmp 87))])),((some 89),.op (.app 2 48 (.tmp 85) (.tmp 88))),aa 5 89]) (.skip)) <|
  ak [aa 90 5,aa 91 7,aa 92 5,aa 93 7,aL 94 2 92 93,aq 95 1 94,ao 96 95,aa 97 11,aa 98 12,((some 99),.op (.build [(.val (.int .i64 0)),(.val (.int .i64 0))] [(0,1,(.tmp 97)),(1,1,(.tmp 98))])),((some 100),.op (.bD 1 2 [(.val (.int .i64 0)),(.val (.int .i64 0))] [(0,(.tmp 99))])),((some 101),.op (.app 2 16 (.tmp 96) (.tmp 100))),aL 102 2 90 91,aq 103 1 102,(none,.op (.store 1 (.tmp 103) (.tmp 101)))])) <|
  ak [ay 104 .add 48 1,aa 48 104]
def rZ:SC :=
  .seq (.seq (ak [aa 26 7,aa 27 5,aI 28 27,aK 29 .lss 26 28]) <|
  .cond (.tmp 29) (.skip) (.exit 0)) <|
  .seq (.block 1 (.seq (.region true [⟨none,[aJ 32 4 1,aJ 33 4 1,aa 34 5,aa 35 7,aL 36 2 34 35,aq 37 0 36,ao 38 37,aF 39 56 [33,38],aF 40 63 [32,39],aa 8 40]⟩]) <|
  .seq (.seq (ak [aq 41 0 1,ao 42 41,aI 43 42,aq 44 1 1,ao 45 44,aI 46 45,aK 47 .add 43 46,aD 48 0]) <|
  .block 2 (.loop r5)) <|
  .seq (ak [aa 105 5,aI 106 105,ay 107 .gtr 106 300]) <|
  .cond (.tmp 107) (.seq (ak [((some 2),.op (.bg (.val (.emp 1)))),aD 3 5]) <|
  .ret) (.skip))) <|
  ak [aa 30 7,ay 31 .add 30 1,aa 7 31]
def uY:SF:=⟨.seq (ak [cr 1 0,((some 2),.op (.bg (.val (.emp 1)))),aD 3 0]) <|
  .seq (.seq (ak [aJ 14 4 1,aF 15 61 [14],bW 16 15]) <|
  .cond (.tmp 16) (.seq (ak [((some 2),.op (.bg (.val (.emp 1)))),aD 3 1]) <|
  .ret) (.skip)) <|
  .seq (ak [((some 17),.op (.build [(.val (.int .i64 0)),(.val (.int .i64 0))] [(0,1,(.val (.val (.int .i64 (-1)))))])),((some 18),.op (.bD 1 2 [(.val (.int .i64 0)),(.val (.int .i64 0))] [(0,(.tmp 17))])),aa 4 18]) <|
  .seq (ak [aa 19 4,((some 20),.op (.build [(.emp 1),(.emp 1)] [(0,1,(.tmp 19))])),((some 21),.op (.bD 1 2 [(.emp 1),(.emp 1)] [(0,(.tmp 20))])),aa 5 21]) <|
  .seq (ak [((some 22),.op (.lS)),aa 23 4,aF 24 62 [23],(none,.op (.old (.insert 97 (.tmp 22) (.tmp 24) (.const (.int .i64 0))) 0)),aa 25 22,aa 6 25]) <|
  .seq (.seq (ak [aD 7 0]) <|
  .block 0 (.loop rZ)) <|
  .seq (ak [aa 108 5,aa 2 108,aD 3 0]) <|
  .ret,
  [.tmp 2,.tmp 3],109⟩
theorem zD:bh Tryz.prog 24 [1]=some uY:=by kernel_rfl
def PL (g:an) (m:Nat) (T:Env) (H:View):Prop:=∃ (at_:Nat) (u:V) (S:List sW) (out:List bo) (q c:Nat) (M:bZ (List UInt8)),m+at_=302∧out=S.map (fun x=>x.2.2)∧bc H ((u,2,hO S) :: qA S)∧dz g at_ 0 out∧1≤out.length∧out.length≤300∧gG g m at_ out=eu g∧at_≤out.length ∧
  H q=.map (bP fR M) c∧oD g out M∧T 1=.aO (aw g) 0∧T 5=u∧T 6=.mp q∧T 7=gi at_
set_option maxHeartbeats 32000000 in
theorem I6 (g:an) (hg:g.Ok) (hsm:g.Small):dF Tryz.prog 24 [.agg (aw g)] (.bk [dE (eu g).1,gi (eu g).2]):=by
  refine dF.of (e9 g) ?_
  have hIs:=Fa g hg hsm
  refine aA.of mixed zD ?_
  simp only[aw,encS] at hIs
  simp (disch:=omega) only [↓wr,↓reduceIte,wq,ah,ag,aj,ab,ae,af,ai,isNil,Nat.reduceEqDiff,Nat.reduceAdd,Nat.reduceLT,Nat.reduceLeDiff,Int.reduceNeg,Int.reduceToNat,reduceCtorEq,uY,aw,encS]
  refine aE.pure hIs (by kernel_rfl) ?_
  simp (disch:=omega) only [↓wr,↓reduceIte,wq,ah,ag,aj,ab,ae,af,ai,isNil,Nat.reduceEqDiff,Nat.reduceAdd,Nat.reduceLT,Nat.reduceLeDiff,Int.reduceNeg,Int.reduceToNat,reduceCtorEq]
  refine av.split (fun hr=>?_) (fun hr=>?_)
  rotate_left
  · simp (disch:=omega) only [↓wr,↓reduceIte,wq,ah,ag,aj,ab,ae,af,ai,isNil,Nat.reduceEqDiff,Nat.reduceAdd,Nat.reduceLT,Nat.reduceLeDiff,Int.reduceNeg,Int.reduceToNat,reduceCtorEq]
    intro h' _
    have e:eu g=([],1):=by unfold eu; rw[if_neg (by rw[hr]; simp)]
    rw[e]
    exact AO (.emp _)
  have hf:g.dM:=tI hr
  have e0:gG g 302 0 dR=eu g:=by unfold eu; rw[if_pos hr]
  have hT:=hf.ax; have hN:=hf.au
  simp (disch:=omega) only [↓wr,↓reduceIte,wq,ah,ag,aj,ab,ae,af,ai,isNil,Nat.reduceEqDiff,Nat.reduceAdd,Nat.reduceLT,Nat.reduceLeDiff,Int.reduceNeg,Int.reduceToNat,reduceCtorEq]
  intro q1 q2 hq2 q3 hq3
  have hst1:dB g ⟨-1,0⟩:=(qH (g:=g)).bq ⟨[⟨-1,0⟩],[]⟩ (by simp[dR]) |>.2.2 _ (by simp)
  have o0:bc (((View.set (fun _=>bL.dead) q1 (.arr 2 [[gi (-1),gi 0]])).set q2 (.arr 2 [[.sl q1 0 1 2,.emp 1]]))) ((.sl q2 0 1 2,2,hO [(.sl q1 0 1 2,.emp 1,⟨[⟨-1,0⟩],[]⟩)]) :: qA [(.sl q1 0 1 2,.emp 1,⟨[⟨-1,0⟩],[]⟩)]) :=
    (((bc.nil.emp (k:=1) (sz:=2)).new (n:=q1) rfl 2 [[gi (-1),gi 0]]).new (by simpa [View.set] using hq2) 2 [[.sl q1 0 1 2,.emp 1]])
  have o1:=o0.fresh (n:=q3) (by simpa [View.set] using hq3) (o:=.map [] 0)
  have hm3:((((View.set (fun _=>bL.dead) q1 (.arr 2 [[gi (-1),gi 0]])).set q2 (.arr 2 [[.sl q1 0 1 2,.emp 1]])).set q3 (.map [] 0))) q3=.map (bP fR []) 0:=by simp[View.set,bP]
  generalize (((View.set (fun _=>bL.dead) q1 (.arr 2 [[gi (-1),gi 0]])).set q2 (.arr 2 [[.sl q1 0 1 2,.emp 1]])).set q3 (.map [] 0))=H3 at o1 hm3 ⊢
  clear o0 hq2 hq3
  have ok1:aW H3 (.sl q1 0 1 2) 2 (bE [⟨-1,0⟩]):=o1.1 _ (List.mem_cons_of_mem _ (List.mem_cons_self ..))
  refine aE.oO ((Df g hf [⟨-1,0⟩] (fun x hx=>by simp at hx; subst hx; exact hst1) (by simp) (.sl q1 0 1 2) H3 ok1).mono ?_)
  rintro r H4 ⟨rfl,k4⟩
  have hm4:H4 q3=.map (bP fR []) 0:=by rw[k4 q3 (by rw[hm3]; simp),hm3]
  simp (disch:=omega) only [↓wr,↓reduceIte,wq,ah,ag,aj,ab,ae,af,ai,isNil,Nat.reduceEqDiff,Nat.reduceAdd,Nat.reduceLT,Nat.reduceLeDiff,Int.reduceNeg,Int.reduceToNat,reduceCtorEq,N6]
  refine sV (kt:=9) (et:=3) (by kernel_rfl) (D3 Tryz.underlying9) (id:=q3) (c:=0) (m:=[]) (k:=eP [⟨-1,0⟩]) (v:=gi 0) (by simp (disch:=omega) only [↓wr,↓reduceIte,wq,ah,ag,aj,ab,ae,af,ai,isNil,Nat.reduceEqDiff,Nat.reduceAdd,Nat.reduceLT,Nat.reduceLeDiff,Int.reduceNeg,Int.reduceToNat,reduceCtorEq]) (by simp (disch:=omega) only [↓wr,↓reduceIte,wq,ah,ag,aj,ab,ae,af,ai,isNil,Nat.reduceEqDiff,Nat.reduceAdd,Nat.reduceLT,Nat.reduceLeDiff,Int.reduceNeg,Int.reduceToNat,reduceCtorEq]) rfl hm4 ?_
  intro c'
  have hN0:oD g dR (bS (eP [⟨-1,0⟩]) (gi 0) 0 []):=oD.put (out:=[]) hf (fun l _=>by simp[getM,findD]) (fun x hx=>by simp at hx; subst hx; exact hst1) (by simp[findD]) 0
  have o2:=(o1.stay k4).wa hm4 (o:=.map (bP fR (bS (eP [⟨-1,0⟩]) (gi 0) 0 [])) c')
  have hm5:(H4.set q3 (.map (bP fR (bS (eP [⟨-1,0⟩]) (gi 0) 0 [])) c')) q3=.map (bP fR (bS (eP [⟨-1,0⟩]) (gi 0) 0 [])) c':=by simp[View.set]
  generalize H4.set q3 (.map (bP fR (bS (eP [⟨-1,0⟩]) (gi 0) 0 [])) c')=H5 at o2 hm5 ⊢
  clear hm4 hm3 k4 ok1 o1
  clear H4 H3
  simp (disch:=omega) only [↓wr,↓reduceIte,wq,ah,ag,aj,ab,ae,af,ai,isNil,Nat.reduceEqDiff,Nat.reduceAdd,Nat.reduceLT,Nat.reduceLeDiff,Int.reduceNeg,Int.reduceToNat,reduceCtorEq]
  refine bw.intro (PL g) 302 ⟨0,_,_,dR,q3,c',_,rfl,rfl,o2,qH,Nat.le_refl _,by simp[dR],e0,by omega,hm5,hN0,rfl,rfl,rfl,rfl⟩ ?_
  clear o2 hm5 hN0
  clear H5 q1 q2 q3 c'
  rintro m T H ⟨at_,u,S,out,q,c,M,hm,rfl,ho,hI,h1,h300,hl,hle,hmq,hNM,t1,t5,t6,t7⟩
  have hlu:cT u=some S.length:=by rw[ho.head.len,fC]
  simp only[List.length_map] at h1 h300 hle
  simp (disch:=omega) only [↓wr,↓reduceIte,wq,ah,ag,aj,ab,ae,af,ai,isNil,Nat.reduceEqDiff,Nat.reduceAdd,Nat.reduceLT,Nat.reduceLeDiff,Int.reduceNeg,Int.reduceToNat,reduceCtorEq,rZ,t1,t5,t6,t7,hlu]
  refine av.dec (fun hc=>?_) (fun hc=>?_)
  rotate_left
  · simp (disch:=omega) only [↓wr,↓reduceIte,wq,ah,ag,aj,ab,ae,af,ai,isNil,Nat.reduceEqDiff,Nat.reduceAdd,Nat.reduceLT,Nat.reduceLeDiff,Int.reduceNeg,Int.reduceToNat,reduceCtorEq,t5]
    have e1:eu g=(S.map (fun x=>x.2.2),0):=by
      rw[← hl]
      cases m with
      | zero=>rfl
      | succ m=>rw[gG,if_neg (by simp; omega)]
    rw[e1]
    rintro h' rfl
    exact AO (MZ ho.head fun x hx=>⟨ho.1 _ (List.mem_cons_of_mem _ (AF hx).1),ho.1 _ (List.mem_cons_of_mem _ (AF hx).2)⟩)
  obtain ⟨m,rfl⟩:∃ q,m=q+1:=⟨m - 1,by omega⟩
  have hat:at_ < S.length:=by omega
  obtain ⟨S1,x,S2,rfl,hS1,hx⟩:=ED hat
  have hxm:x∈S1 ++ x :: S2:=by simp
  obtain ⟨hk1,hk2,hk3⟩:=hI.bq x.2.2 (List.mem_map_of_mem hxm)
  have hkl:=ye hf hk1 hk3
  have hh:aW H u 2 (hO (S1 ++ x :: S2)):=ho.head
  obtain ⟨id,hu,hid⟩:=hh.sl (by rw[fC]; omega)
  have hgx:(hO (S1 ++ x :: S2)).getD at_ []=[x.1,x.2.1]:=by simp[hO,List.getD_eq_getElem?_getD,← hS1]
  have hcl:c4 g ((List.map (fun x=>x.2.2) (S1 ++ x :: S2)).getD at_ bX).bq=c4 g x.2.2.bq:=by
    rw[List.getD_eq_getElem?_getD,List.getElem?_map,hx]; rfl
  have hrow:=fun n hn=>dz.row (hI.ry hf (show at_ < ((S1 ++ x :: S2).map fun x=>x.2.2).length by simpa using hat)).1 (hI.ry hf (show at_ < ((S1 ++ x :: S2).map fun x=>x.2.2).length by simpa using hat)).2 hI n hn
  rw[gG,if_pos (by simpa using hat),DD] at hl
  rw[hcl] at hl hrow
  have hcs:=ub g x.2.2.bq
  have hch:∀ y∈c4 g x.2.2.bq,dB g y:=fun y hy=>((u4 hf hk3).1 hy).has hk3
  rw[fC] at hu
  simp (disch:=omega) only [↓wr,↓reduceIte,wq,ah,ag,aj,ab,ae,af,ai,isNil,Nat.reduceEqDiff,Nat.reduceAdd,Nat.reduceLT,Nat.reduceLeDiff,Int.reduceNeg,Int.reduceToNat,reduceCtorEq,t1,t5,t7,hu,hid,hgx,aw,encS]
  refine ⟨by omega,by rw[fC]; omega,?_⟩
  refine aE.GB (Fv g hf x.2.2.bq hk3 (by omega) x.1 H (ho.1 _ (List.mem_cons_of_mem _ (AF hxm).1))) ?_
  intro r H2 or fr
  simp (disch:=omega) only [↓wr,↓reduceIte,wq,ah,ag,aj,ab,ae,af,ai,isNil,Nat.reduceEqDiff,Nat.reduceAdd,Nat.reduceLT,Nat.reduceLeDiff,Int.reduceNeg,Int.reduceToNat,reduceCtorEq,aw,encS]
  have hcl':=ye hf hcs hch
  refine aE.still (LF g hf (c4 g x.2.2.bq) hch (by omega) r H2 or) (fun r H' h=>by obtain ⟨q,A,_,h⟩:=h; exact h.old) ?_
  rintro r2 H6 ⟨q',A,rfl,hMv⟩
  have hfr:∀ id,H id≠.dead→H6 id=H id:=fun id hid=>by rw[hMv.old id (by rw[(fr id hid).1]; exact hid),(fr id hid).1]
  have hmq6:H6 q=.map (bP fR M) c:=by rw[hfr q (by rw[hmq]; simp),hmq]
  have o6:bc H6 ((u,2,hO (S1 ++ x :: S2)) :: (qA (S1 ++ x :: S2) ++ gC g (c4 g x.2.2.bq) (A.filter fun y=>decide (((0:Nat):Int)≤y.1)))):=by
    have hA:A.filter (fun y=>decide (((0:Nat):Int)≤y.1))=A:=List.filter_eq_self.2 fun y hy=>by simpa using (hMv.ne y hy).1
    rw[hA]
    refine (ho.stay hfr).join (M:=gC g (c4 g x.2.2.bq) A) hMv.own fun a ha b hb id h1 h2=>?_
    obtain ⟨y,hy,rfl⟩:=List.mem_map.1 hb
    have h3:=hMv.new y hy id h2
    have h4:=ho.live ha h1
    rw[(fr id h4).1] at h3
    exact h4 h3
  obtain ⟨cA,hmA⟩:=hMv.mp
  have hAnd:=hMv.nd
  have hqq:q'≠q:=by
    rintro rfl
    have:=hMv.q0
    rw[(fr _ (by rw[hmq]; simp)).1,hmq] at this; simp at this
  have hAval:∀ k:Nat,(getM A (k:Int)=none→bp g (c4 g x.2.2.bq) (ba g k)=[]):=fun k h=>Decidable.byContradiction fun hne=>getM_none.1 h (hMv.all k hne)
  clear or fr hid hgx hcl hx hfr hMv hmq
  generalize c4 g x.2.2.bq=cl at *
  generalize hout0:(S1 ++ x :: S2).map (fun x=>x.2.2)=out0 at *
  have hol:out0.length=(S1 ++ x :: S2).length:=by rw[← hout0]; simp
  simp (disch:=omega) only [↓wr,↓reduceIte,wq,ah,ag,aj,ab,ae,af,ai,isNil,Nat.reduceEqDiff,Nat.reduceAdd,Nat.reduceLT,Nat.reduceLeDiff,Int.reduceNeg,Int.reduceToNat,reduceCtorEq,t1,t5,t6,t7,aw,encS]
  refine bw.up (g.ax.length+g.au.length) (fun i T H'=>∃ (u:V) (S:List sW) (M:bZ (List UInt8)) (c:Nat),S.map (fun x=>x.2.2)=(List.range i).foldl (dt g cl at_) out0∧bc H' ((u,2,hO S) :: (qA S ++ gC g cl (A.filter fun y=>decide (((i:Nat):Int)≤y.1)))) ∧
    H' q'=.map (bP (Value.int .i64) A) cA∧H' q=.map (bP fR M) c∧oD g (S.map fun x=>x.2.2) M∧T 1=.aO (aw g) 0∧T 5=u∧T 6=.mp q∧T 7=gi at_∧T 8=.mp q'∧T 47=gi ((g.ax.length+g.au.length:Nat):Int)∧T 48=gi i)
    ⟨u,_,M,c,hout0,o6,hmA,hmq6,by rw[hout0]; exact hNM,t1,by rw[← hu]; exact t5,t6,t7,rfl,?_,rfl⟩ ?_
  · push_cast; rfl
  rw[← hol] at h1 h300 hle hat
  clear o6 ho hh hu t1 t5 t6 t7 hlu hout0 hxm hol hc hk1 hk2 hk3 hkl hS1 hmA hmq6 hNM
  clear u H H2 H6 T id S1 x S2 M c r
  rintro i k T H' hk ⟨u,S,M,c,hA,ho,hmA,hmq,hNM,t1,t5,t6,t7,t8,t47,t48⟩
  obtain ⟨iI,il1,il2⟩:=hrow i (by omega)
  rw[← hA] at iI il1 il2
  rw[List.length_map] at il1 il2
  have hlu:cT u=some S.length:=by rw[ho.head.len,fC]
  simp (disch:=omega) only [↓wr,↓reduceIte,wq,ah,ag,aj,ab,ae,af,ai,isNil,Nat.reduceEqDiff,Nat.reduceAdd,Nat.reduceLT,Nat.reduceLeDiff,Int.reduceNeg,Int.reduceToNat,reduceCtorEq,r5,t1,t5,t6,t7,t8,t47,t48]
  refine av.dec (fun hc=>?_) (fun hc=>?_)
  rotate_left
  · have hi:i=g.ax.length+g.au.length:=by omega
    subst hi
    rw[← hA] at hl
    simp (disch:=omega) only [↓wr,↓reduceIte,wq,ah,ag,aj,ab,ae,af,ai,isNil,Nat.reduceEqDiff,Nat.reduceAdd,Nat.reduceLT,Nat.reduceLeDiff,Int.reduceNeg,Int.reduceToNat,reduceCtorEq,t1,t5,t6,t7,hlu]
    refine av.dec (fun h3=>?_) (fun h3=>?_)
    · simp (disch:=omega) only [↓wr,↓reduceIte,wq,ah,ag,aj,ab,ae,af,ai,isNil,Nat.reduceEqDiff,Nat.reduceAdd,Nat.reduceLT,Nat.reduceLeDiff,Int.reduceNeg,Int.reduceToNat,reduceCtorEq]
      intro h' _
      rw[if_pos (by rw[List.length_map]; omega)] at hl
      rw[← hl]
      exact AO (.emp _)
    · simp (disch:=omega) only [↓wr,↓reduceIte,wq,ah,ag,aj,ab,ae,af,ai,isNil,Nat.reduceEqDiff,Nat.reduceAdd,Nat.reduceLT,Nat.reduceLeDiff,Int.reduceNeg,Int.reduceToNat,reduceCtorEq,t1,t5,t6,t7]
      rw[if_neg (by rw[List.length_map]; omega)] at hl
      exact ⟨m,by omega,at_+1,u,S,_,q,c,M,by omega,rfl,ho.sub (List.Sublist.cons_cons _ (List.sublist_append_left _ _)),iI.next,by rw[List.length_map]; omega,by rw[List.length_map]; omega,hl,by rw[List.length_map]; omega,hmq,hNM,t1,t5,t6,rfl⟩
  have hcN:i < g.ax.length+g.au.length:=by omega
  have hsb:=Hv hf hcN
  have hstep:(List.range (i+1)).foldl (dt g cl at_) out0=dt g cl at_ (S.map fun x=>x.2.2) i:=by rw[List.range_succ,List.foldl_append,← hA]; rfl
  have hval:aW H' ((getM A (i:Int)).getD (.emp 1)) 2 (bE (bp g cl (ba g i))):=by
    cases hg:getM A (i:Int) with
    | none=>rw[hAval i hg]; exact .nil
    | some v =>
      obtain ⟨b,hp⟩:=DA hAnd hg
      refine ho.1 (v,2,bE (bp g cl (ba g i))) (List.mem_cons_of_mem _ (List.mem_append_right _ (List.mem_map.2 ⟨((i:Int),v,b),hp.mem_iff.2 (by simp),?_⟩)))
      simp
  have hsub:(gC g cl (A.filter fun y=>decide (((i+1:Nat):Int)≤y.1))).Sublist (gC g cl (A.filter fun y=>decide (((i:Nat):Int)≤y.1))):=by
    have:A.filter (fun y=>decide (((i+1:Nat):Int)≤y.1))=(A.filter (fun y=>decide (((i:Nat):Int)≤y.1))).filter (fun y=>decide (((i+1:Nat):Int)≤y.1)):=by
      rw[List.filter_filter]
      refine List.filter_congr fun y _=>?_
      rw[← Bool.decide_and,decide_eq_decide]; omega
    rw[this]
    exact (List.filter_sublist).map _
  simp (disch:=omega) only [↓wr,↓reduceIte,wq,ah,ag,aj,ab,ae,af,ai,isNil,Nat.reduceEqDiff,Nat.reduceAdd,Nat.reduceLT,Nat.reduceLeDiff,Int.reduceNeg,Int.reduceToNat,reduceCtorEq,t8,t48]
  refine wP (kt:=3) (et:=27) (z:=.emp 1) (by kernel_rfl) (by kernel_rfl) (jH .i64 Tryz.underlying3) (id:=q') (c:=cA) (m:=A) (k:=(i:Int)) (by simp (disch:=omega) only [↓wr,↓reduceIte,wq,ah,ag,aj,ab,ae,af,ai,isNil,Nat.reduceEqDiff,Nat.reduceAdd,Nat.reduceLT,Nat.reduceLeDiff,Int.reduceNeg,Int.reduceToNat,reduceCtorEq]) (by simp (disch:=omega) only [↓wr,↓reduceIte,wq,ah,ag,aj,ab,ae,af,ai,isNil,Nat.reduceEqDiff,Nat.reduceAdd,Nat.reduceLT,Nat.reduceLeDiff,Int.reduceNeg,Int.reduceToNat,reduceCtorEq]) hmA ?_
  simp (disch:=omega) only [↓wr,↓reduceIte,wq,ah,ag,aj,ab,ae,af,ai,isNil,Nat.reduceEqDiff,Nat.reduceAdd,Nat.reduceLT,Nat.reduceLeDiff,Int.reduceNeg,Int.reduceToNat,reduceCtorEq]
  refine aE.oO ((IN (Cd (ba g i) hcs) (by have:=yK (g:=g) (l:=cl) (s:=ba g i); omega) _ H' hval).mono ?_)
  rintro r _ ⟨rfl,or,hreq⟩
  have hml:=yK (g:=g) (l:=cl) (s:=ba g i)
  have hmh:=CZ (s:=ba g i) hch
  have hl9:cT r=some (bp g cl (ba g i)).length:=by rw[or.len,bC]
  simp (disch:=omega) only [↓wr,↓reduceIte,wq,ah,ag,aj,ab,ae,af,ai,isNil,Nat.reduceEqDiff,Nat.reduceAdd,Nat.reduceLT,Nat.reduceLeDiff,Int.reduceNeg,Int.reduceToNat,reduceCtorEq,hl9]
  refine av.eq (fun he=>?_) (fun he=>?_)
  · have hnil:bp g cl (ba g i)=[]:=List.length_eq_zero_iff.1 (by omega)
    simp (disch:=omega) only [↓wr,↓reduceIte,wq,ah,ag,aj,ab,ae,af,ai,isNil,Nat.reduceEqDiff,Nat.reduceAdd,Nat.reduceLT,Nat.reduceLeDiff,Int.reduceNeg,Int.reduceToNat,reduceCtorEq,t1,t5,t6,t7,t8,t47,t48]
    exact bt hk (by omega) ⟨u,S,M,c,by rw[hstep,dt,if_pos hnil],ho.sub (List.Sublist.cons_cons _ (hsub.append_left _)),hmA,hmq,hNM,t1,t5,t6,t7,t8,t47,rfl⟩
  have hne:bp g cl (ba g i)≠[]:=fun e=>he (by rw[e]; rfl)
  have hgs:∃ v,getM A (i:Int)=some v:=by
    cases hg:getM A (i:Int) with
    | none=>exact absurd (hAval i hg) hne
    | some v=>exact ⟨v,rfl⟩
  obtain ⟨v,hg⟩:=hgs
  have hrv:=hreq hne
  rw[hg] at hrv
  simp only[Option.getD_some] at hrv
  obtain ⟨b,hperm⟩:=DA hAnd hg
  have hperm2:(gC g cl (A.filter fun y=>decide (((i:Nat):Int)≤y.1))).Perm ((r,2,bE (bp g cl (ba g i))) :: gC g cl (A.filter fun y=>decide (((i+1:Nat):Int)≤y.1))):=by
    have:=hperm.map (fun x:Int × V × Nat=>((x.2.1,2,bE (bp g cl (ba g x.1.toNat))):er))
    simp only[List.map_cons,Int.toNat_natCast] at this
    rw[hrv]; exact this
  have hfl:=yP (S.map fun x=>x.2.2) (bp g cl (ba g i))
  have hfg:=td (S.map fun x=>x.2.2) (bp g cl (ba g i))
  rw[List.length_map] at hfl
  have hNk:=hNM (bp g cl (ba g i)) hmh
  have hat2:at_ < S.length:=by omega
  obtain ⟨S1,x,S2,hSs,hS1,hx⟩:=ED hat2
  have hxe:x.2.2.bO.length≤40:=(iI.bO at_ x.2.2 (by rw[List.getElem?_map,hx]; rfl)).1
  have hgx:∀ B,(hO (S1 ++ x :: B)).getD at_ []=[x.1,x.2.1]:=fun B=>by simp[hO,List.getD_eq_getElem?_getD,← hS1]
  have hput:∀ (B:List sW) (c:fT),((S1 ++ x :: B).map fun x=>x.2.2).modify at_ (fun s=>(⟨s.bq,s.bO ++ [c]⟩:bo))=(S1 ++ (x.1,x.2.1,(⟨x.2.2.bq,x.2.2.bO ++ [c]⟩:bo)) :: B).map fun x=>x.2.2:=fun B c=>by
    rw[List.map_append,List.map_cons,← hS1,← List.length_map (f:=fun x:sW=>x.2.2),Ij,List.map_append,List.map_cons]
  simp (disch:=omega) only [↓wr,↓reduceIte,wq,ah,ag,aj,ab,ae,af,ai,isNil,Nat.reduceEqDiff,Nat.reduceAdd,Nat.reduceLT,Nat.reduceLeDiff,Int.reduceNeg,Int.reduceToNat,reduceCtorEq,t1,t5,t6,t7,t8,aw,encS]
  refine av.dec (fun hge=>?_) (fun hge=>?_)
  simp (disch:=omega) only [↓wr,↓reduceIte,wq,ah,ag,aj,ab,ae,af,ai,isNil,Nat.reduceEqDiff,Nat.reduceAdd,Nat.reduceLT,Nat.reduceLeDiff,Int.reduceNeg,Int.reduceToNat,reduceCtorEq,t1,t5,t6,t7,t8,aw,encS]
  have hs:ba g i=(g.ax.length:Int) - 1 - i:=by unfold ba; rw[if_neg (by omega)]; omega
  generalize (g.ax.length:Int) - 1 - (i:Int)=sv at hs ⊢
  rotate_left
  simp (disch:=omega) only [↓wr,↓reduceIte,wq,ah,ag,aj,ab,ae,af,ai,isNil,Nat.reduceEqDiff,Nat.reduceAdd,Nat.reduceLT,Nat.reduceLeDiff,Int.reduceNeg,Int.reduceToNat,reduceCtorEq,t1,t5,t6,t7,t8,aw,encS]
  have hs:ba g i=(i:Int):=by unfold ba; rw[if_pos (by omega)]
  generalize ((i:Nat):Int)=sv at hs ⊢
  all_goals (
    refine aE.oO ((Df g hf (bp g cl (ba g i)) hmh (by omega) r H' or).mono ?_)
    rintro rk H3 ⟨rfl,k3⟩
    have hmq3:H3 q=.map (bP fR M) c:=by rw[k3 q (by rw[hmq]; simp),hmq]
    have hmA3:H3 q'=.map (bP (Value.int .i64) A) cA:=by rw[k3 q' (by rw[hmA]; simp),hmA]
    have o3:=ho.stay k3
    have or3:aW H3 r 2 (bE (bp g cl (ba g i))):=or.keep fun id hid=>k3 id (by rw[(or.live hid).1]; simp)
    simp (disch:=omega) only [↓wr,↓reduceIte,wq,ah,ag,aj,ab,ae,af,ai,isNil,Nat.reduceEqDiff,Nat.reduceAdd,Nat.reduceLT,Nat.reduceLeDiff,Int.reduceNeg,Int.reduceToNat,reduceCtorEq,t6]
    refine Mp (kt:=9) (et:=3) (z:=gi 0) (by kernel_rfl) (by kernel_rfl) (D3 Tryz.underlying9) (id:=q) (c:=c) (m:=M) (k:=eP (bp g cl (ba g i))) (by simp (disch:=omega) only [↓wr,↓reduceIte,wq,ah,ag,aj,ab,ae,af,ai,isNil,Nat.reduceEqDiff,Nat.reduceAdd,Nat.reduceLT,Nat.reduceLeDiff,Int.reduceNeg,Int.reduceToNat,reduceCtorEq]) (by simp (disch:=omega) only [↓wr,↓reduceIte,wq,ah,ag,aj,ab,ae,af,ai,isNil,Nat.reduceEqDiff,Nat.reduceAdd,Nat.reduceLT,Nat.reduceLeDiff,Int.reduceNeg,Int.reduceToNat,reduceCtorEq]) hmq3 ?_
    by_cases hneg:findD (S.map fun x=>x.2.2) (bp g cl (ba g i)) < 0
    rw[if_pos hneg] at hNk
    rw[hNk]
    simp only[Option.getD_none,Option.isSome_none]
    simp (disch:=omega) only [↓wr,↓reduceIte,wq,ah,ag,aj,ab,ae,af,ai,isNil,Nat.reduceEqDiff,Nat.reduceAdd,Nat.reduceLT,Nat.reduceLeDiff,Int.reduceNeg,Int.reduceToNat,reduceCtorEq,t1,t5,t6,t7,t8,hlu]
    refine aE.oO ((Df g hf (bp g cl (ba g i)) hmh (by omega) r H3 or3).mono ?_)
    rintro rk2 H4 ⟨rfl,k4⟩
    have hmq4:H4 q=.map (bP fR M) c:=by rw[k4 q (by rw[hmq3]; simp),hmq3]
    have hmA4:H4 q'=.map (bP (Value.int .i64) A) cA:=by rw[k4 q' (by rw[hmA3]; simp),hmA3]
    have o4:=o3.stay k4
    simp (disch:=omega) only [↓wr,↓reduceIte,wq,ah,ag,aj,ab,ae,af,ai,isNil,Nat.reduceEqDiff,Nat.reduceAdd,Nat.reduceLT,Nat.reduceLeDiff,Int.reduceNeg,Int.reduceToNat,reduceCtorEq,t6]
    refine sV (kt:=9) (et:=3) (by kernel_rfl) (D3 Tryz.underlying9) (id:=q) (c:=c) (m:=M) (k:=eP (bp g cl (ba g i))) (v:=gi S.length) (by simp (disch:=omega) only [↓wr,↓reduceIte,wq,ah,ag,aj,ab,ae,af,ai,isNil,Nat.reduceEqDiff,Nat.reduceAdd,Nat.reduceLT,Nat.reduceLeDiff,Int.reduceNeg,Int.reduceToNat,reduceCtorEq]) (by simp (disch:=omega) only [↓wr,↓reduceIte,wq,ah,ag,aj,ab,ae,af,ai,isNil,Nat.reduceEqDiff,Nat.reduceAdd,Nat.reduceLT,Nat.reduceLeDiff,Int.reduceNeg,Int.reduceToNat,reduceCtorEq]) (by simp (disch:=omega) only [↓wr,↓reduceIte,wq,ah,ag,aj,ab,ae,af,ai,isNil,Nat.reduceEqDiff,Nat.reduceAdd,Nat.reduceLT,Nat.reduceLeDiff,Int.reduceNeg,Int.reduceToNat,reduceCtorEq]) hmq4 ?_
    intro c'
    have hN2:oD g ((S1 ++ x :: (S2 ++ [(r,.emp 1,(⟨bp g cl (ba g i),[]⟩:bo))])).map fun x=>x.2.2) (bS (eP (bp g cl (ba g i))) (gi S.length) c M):=by
      have:=oD.put hf hNM hmh hneg c
      rw[List.length_map] at this
      refine this.same ?_
      rw[hSs]; simp
    have hmq5:(H4.set q (.map (bP fR (bS (eP (bp g cl (ba g i))) (gi S.length) c M)) c')) q=.map (bP fR (bS (eP (bp g cl (ba g i))) (gi S.length) c M)) c':=by simp[View.set]
    have hmA5:(H4.set q (.map (bP fR (bS (eP (bp g cl (ba g i))) (gi S.length) c M)) c')) q'=.map (bP (Value.int .i64) A) cA:=by
      simp only[View.set]; rw[if_neg hqq]; exact hmA4
    have o5:=o4.wa hmq4 (o:=.map (bP fR (bS (eP (bp g cl (ba g i))) (gi S.length) c M)) c')
    generalize H4.set q (.map (bP fR (bS (eP (bp g cl (ba g i))) (gi S.length) c M)) c')=H5 at hmq5 hmA5 o5 ⊢
    clear hmq4 hmA4 o4 k4
    generalize bS (eP (bp g cl (ba g i))) (gi S.length) c M=M2 at hN2 hmq5
    simp (disch:=omega) only [↓wr,↓reduceIte,wq,ah,ag,aj,ab,ae,af,ai,isNil,Nat.reduceEqDiff,Nat.reduceAdd,Nat.reduceLT,Nat.reduceLeDiff,Int.reduceNeg,Int.reduceToNat,reduceCtorEq,t1,t5,t6,t7,t8,or.cells,or.lT]
    intro q5 hq5
    simp (disch:=omega) only [↓wr,↓reduceIte,wq,ah,ag,aj,ab,ae,af,ai,isNil,Nat.reduceEqDiff,Nat.reduceAdd,Nat.reduceLT,Nat.reduceLeDiff,Int.reduceNeg,Int.reduceToNat,reduceCtorEq,dp]
    have hnq:∀ b,H5 b≠.dead→b≠q5:=fun b hb e=>hb (by rw[e]; exact hq5)
    refine dU (o5.fresh hq5) (by simp[or.lT,Bi]) (by unfold aN; rw[fC]; simp; omega) (by unfold aN; rw[fC]; simp; omega) ?_
    intro u2 H10 o11 l11
    have hmq10:=l11.map (o5.fresh (o:=.arr 2 [[r,.emp 1]]) hq5).head (b:=q) (c:=c') (es:=bP fR M2) (by simp only[View.set]; rw[if_neg (hnq q (by rw[hmq5]; simp)),hmq5])
    have hmA10:=l11.map (o5.fresh (o:=.arr 2 [[r,.emp 1]]) hq5).head (b:=q') (c:=cA) (es:=bP (Value.int .i64) A) (by simp only[View.set]; rw[if_neg (hnq q' (by rw[hmA5]; simp)),hmA5])
    have o12:=(o11.emp (k:=1) (sz:=2)).perm (OB hperm2)
    have hst:dt g cl at_ (S.map fun x=>x.2.2) i=((S1 ++ x :: (S2 ++ [(r,.emp 1,(⟨bp g cl (ba g i),[]⟩:bo))])).map fun x=>x.2.2).modify at_ (fun s=>(⟨s.bq,s.bO ++ [⟨ba g i,(S.length:Int)⟩]⟩:bo)):=by
      rw[dt,if_neg hne,if_pos hneg,List.length_map]
      congr 1
      rw[hSs]; simp
    have o13:bc H10 ((u2,2,hO (S1 ++ x :: (S2 ++ [(r,.emp 1,(⟨bp g cl (ba g i),[]⟩:bo))]))) :: (qA (S1 ++ x :: (S2 ++ [(r,.emp 1,(⟨bp g cl (ba g i),[]⟩:bo))])) ++ gC g cl (A.filter fun y=>decide (((i+1:Nat):Int)≤y.1)))):=by
      have e1:hO (S1 ++ x :: (S2 ++ [(r,.emp 1,(⟨bp g cl (ba g i),[]⟩:bo))]))=hO S ++ [[r,.emp 1]]:=by rw[hSs]; simp[hO]
      have e2:qA (S1 ++ x :: (S2 ++ [(r,.emp 1,(⟨bp g cl (ba g i),[]⟩:bo))]))=qA S ++ [(r,2,bE (bp g cl (ba g i))),(.emp 1,2,[])]:=by rw[hSs]; simp[qA]; rfl
      rw[e1,e2]
      exact o12
    have hBl:(S1 ++ x :: (S2 ++ [(r,V.emp 1,(⟨bp g cl (ba g i),[]⟩:bo))])).length≤400:=by
      have:=congrArg List.length hSs
      simp at this ⊢; omega
    generalize (S2 ++ [(r,V.emp 1,(⟨bp g cl (ba g i),[]⟩:bo))])=B at hst o13 hN2 hBl
    generalize (S.length:Int)=to at hst ⊢
    clear o11 o12 l11 hmq5 hmA5 o5 hnq hq5
    rotate_left
    rw[if_neg hneg] at hNk
    rw[hNk]
    simp only[Option.getD_some,Option.isSome_some]
    simp (disch:=omega) only [↓wr,↓reduceIte,wq,ah,ag,aj,ab,ae,af,ai,isNil,Nat.reduceEqDiff,Nat.reduceAdd,Nat.reduceLT,Nat.reduceLeDiff,Int.reduceNeg,Int.reduceToNat,reduceCtorEq,t1,t5,t6,t7,t8]
    have hst:dt g cl at_ (S.map fun x=>x.2.2) i=((S1 ++ x :: S2).map fun x=>x.2.2).modify at_ (fun s=>(⟨s.bq,s.bO ++ [⟨ba g i,findD (S.map fun x=>x.2.2) (bp g cl (ba g i))⟩]⟩:bo)):=by
      rw[dt,if_neg hne,if_neg hneg,← hSs]
    have o13:=o3.sub (List.Sublist.cons_cons _ (hsub.append_left _))
    have hN2:=hNM
    have hBl:(S1 ++ x :: S2).length≤400:=by rw[← hSs]; omega
    have hmq10:=hmq3
    have hmA10:=hmA3
    generalize H3=H10 at o13 hmq10 hmA10 ⊢
    generalize u=u2 at o13 t5 ⊢
    rw[hSs] at o13 hN2
    generalize findD (S.map fun x=>x.2.2) (bp g cl (ba g i))=to at hst ⊢
    generalize S2=B at hst o13 hN2 hBl
    generalize M=M2 at hmq10 hN2
    generalize c=c' at hmq10
    all_goals (
      obtain ⟨id,hu,hid⟩:=(show aW H10 u2 2 (hO (S1 ++ x :: B)) from o13.head).sl (by rw[fC]; simp; omega)
      rw[fC] at hu
      rw[FV] at o13
      simp only[List.append_assoc,List.cons_append] at o13
      simp (disch:=omega) only [↓wr,↓reduceIte,wq,ah,ag,aj,ab,ae,af,ai,isNil,Nat.reduceEqDiff,Nat.reduceAdd,Nat.reduceLT,Nat.reduceLeDiff,Int.reduceNeg,Int.reduceToNat,reduceCtorEq,t1,t5,t6,t7,t8,hu,hid,hgx B]
      refine ⟨by simp; omega,by rw[fC]; simp; omega,?_⟩
      intro q2 hq2
      have hnq:∀ b,H10 b≠.dead→b≠q2:=fun b hb e=>hb (by rw[e]; exact hq2)
      simp (disch:=omega) only [↓wr,↓reduceIte,wq,ah,ag,aj,ab,ae,af,ai,isNil,Nat.reduceEqDiff,Nat.reduceAdd,Nat.reduceLT,Nat.reduceLeDiff,Int.reduceNeg,Int.reduceToNat,reduceCtorEq,dp]
      refine dU ((o13.perm CS).fresh hq2) (by simp[aP]) (by unfold aN; simp[mw]; omega) (by unfold aN; simp[mw]; omega) ?_
      intro e2 H11 o14 l14
      have hmq11:=l14.map ((o13.perm CS).fresh (o:=.arr 2 [[gi sv,gi to]]) hq2).head (b:=q) (c:=c') (es:=bP fR M2) (by simp only[View.set]; rw[if_neg (hnq q (by rw[hmq10]; simp)),hmq10])
      have hmA11:=l14.map ((o13.perm CS).fresh (o:=.arr 2 [[gi sv,gi to]]) hq2).head (b:=q') (c:=cA) (es:=bP (Value.int .i64) A) (by simp only[View.set]; rw[if_neg (hnq q' (by rw[hmA10]; simp)),hmA10])
      have hid2:H11 id=.arr 2 (hO (S1 ++ x :: B)):=((o14.own 1 rfl).live (by rw[hu]; rfl)).1
      simp (disch:=omega) only [↓wr,↓reduceIte,wq,ah,ag,aj,ab,ae,af,ai,isNil,Nat.reduceEqDiff,Nat.reduceAdd,Nat.reduceLT,Nat.reduceLeDiff,Int.reduceNeg,Int.reduceToNat,reduceCtorEq,t1,t5,t6,t7,t8,t47,t48,hu,hid2,hgx B,o14.head.cells,o14.head.lT]
      have hset:(hO (S1 ++ x :: B)).set at_ [x.1,e2]=hO (S1 ++ (x.1,e2,(⟨x.2.2.bq,x.2.2.bO ++ [⟨ba g i,to⟩]⟩:bo)) :: B):=by
        rw[← hS1]; simp[hO]
      have hpd:mw (x.2.2.bO ++ [⟨ba g i,to⟩])=mw x.2.2.bO ++ [[gi sv,gi to]]:=by rw[hs]; simp[mw,yY]
      have o15:=o14.perm (.swap _ _ _)
      rw[hu] at o15
      have o16:=((o15.put (es':=hO (S1 ++ (x.1,e2,(⟨x.2.2.bq,x.2.2.bO ++ [⟨ba g i,to⟩]⟩:bo)) :: B)) (by rw[fC,fC]; simp) (by rw[fC])).perm (.swap _ _ _)).perm CS.symm
      rw[← hpd] at o16
      rw[← hu] at o16
      rw[hset]
      have hnid:∀ b c es,H11 b=.map es c→b≠id:=fun b c es hb e=>by rw[e,hid2] at hb; simp at hb
      refine ⟨by simp; omega,by rw[fC]; simp; omega,bt hk (by omega) ⟨u2,_,M2,c',?_,by rw[FV]; simp only[List.append_assoc,List.cons_append]; exact o16,?_,?_,?_,t1,by first | rfl | exact t5 | exact hu.symm,t6,t7,t8,t47,rfl⟩⟩
      · rw[hstep,hst,hput]; simp
      · simp only[View.set]; rw[if_neg (hnid q' _ _ hmA11)]; exact hmA11
      · simp only[View.set]; rw[if_neg (hnid q _ _ hmq11)]; exact hmq11
      · refine hN2.same ?_
        simp))
end Gv
