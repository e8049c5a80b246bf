/-
  Part 12 of the proof: what the machine does and what the functions answer.
  Conditions: those that each lemma names.
-/
import Derived.Test.YtgniimkconobpaaGreatSGzOK
set_option linter.unusedSimpArgs false
set_option linter.unusedVariables false
set_option linter.unusedSimpArgs false
set_option maxRecDepth 100000
namespace Gv
open Go Go.Proofs
def uW (g:au) (w:List Int):Bool:=w.all fun x=>decide (0≤x) && decide (x < g.aw.length)
def gW (g:au) (w:List Int):Bool:=aT g && decide (w.length≤60) && uW g w
theorem vi (g:au) (w:List Int):∀ v∈[V.agg (ar g),encI w],Tree v:=by
  intro v hv; simp at hv
  rcases hv with rfl | rfl
  · exact bF _ (bB g)
  · exact cn w
def jD:SC :=
  .seq (.seq (al [aa 14 5,aa 15 1,aI 16 15,aK 17 .lss 14 16]) <|
  .cond (.tmp 17) (.skip) (.exit 0)) <|
  .seq (.block 1 (.seq (.region false [⟨none,[aa 20 1,aa 21 5,aX 22 1 20 21,ao 23 22,ax 24 .lss 23 0,aa 25 24]⟩,⟨(some (25,false)),[aa 26 1,aa 27 5,aX 28 1 26 27,ao 29 28,aq 30 0 2,ao 31 30,aI 32 31,aK 33 .geq 29 32]⟩,⟨none,[bf 34 25 33]⟩]) <|
  .cond (.tmp 34) (.seq (al [aP 4 false]) <|
  .ret) (.skip))) <|
  al [aa 18 5,ax 19 .add 18 1,aa 5 19]
def ly:SF:=⟨.seq (al [b7 2 0,aP 4 false]) <|
  .seq (.seq (.region false [⟨none,[aO 6 4 2,aF 7 41 [6],bQ 8 7,aa 9 8]⟩,⟨(some (9,false)),[aa 10 1,aI 11 10,ax 12 .gtr 11 60]⟩,⟨none,[bf 13 9 12]⟩]) <|
  .cond (.tmp 13) (.seq (al [aP 4 false]) <|
  .ret) (.skip)) <|
  .seq (.seq (al [aG 5 0]) <|
  .block 0 (.loop jD)) <|
  .seq (al [aP 4 true]) <|
  .ret,
  [.tmp 4],35⟩
theorem qB:aR Tryz.prog 37 [2]=some ly:=by kernel_rfl
def mU:SF:=⟨.seq (al [b7 2 0,aP 4 false,aG 5 0]) <|
  .seq (.seq (al [aO 6 4 2,aa 7 1,aF 8 37 [6,7],bQ 9 8]) <|
  .cond (.tmp 9) (.seq (al [aP 4 false,aG 5 1]) <|
  .ret) (.skip)) <|
  .seq (al [aO 10 4 2,aa 11 1,aF 12 18 [10,11],bK 13 0 12,bK 14 1 12,aa 4 13,aa 5 14]) <|
  .ret,
  [.tmp 4,.tmp 5],15⟩
theorem qX:aR Tryz.prog 16 [2]=some mU:=by kernel_rfl
def oE:SF:=⟨.seq (al [aP 3 false]) <|
  .seq (.region false [⟨none,[aa 4 0,ax 5 .lss 4 (-1),aa 6 5]⟩,⟨(some (6,false)),[aa 7 0,aq 8 0 1,ao 9 8,aI 10 9,aK 11 .geq 7 10]⟩,⟨none,[bf 12 6 11,aa 3 12]⟩]) <|
  .ret,
  [.tmp 3],13⟩
theorem tF:aR Tryz.prog 40 []=some oE:=by kernel_rfl
set_option maxHeartbeats 2000000 in
theorem Fv (g:au) (hg:g.Ok) (p:List Int) (hp:aL p) (hn:∀ x∈p,bJ x):aC Tryz.prog 37 [.agg (ar g),encI p] (gb (gW g p)):=by
  refine aC.val (vi g p) fun H=>?_
  refine aB.of mixed qB ?_
  unfold aL at hp
  have hgt:=hg.aw
  unfold aL at hgt
  simp (disch:=omega) only [↓wr,↓reduceIte,wq,ai,ah,ak,ae,af,ag,aj,isNil,Nat.reduceEqDiff,Nat.reduceAdd,Nat.reduceLT,Nat.reduceLeDiff,Int.reduceNeg,Int.reduceToNat,reduceCtorEq,ly,ar,encS,encI]
  refine az.pure (rA g hg) (by kernel_rfl) ?_
  simp (disch:=omega) only [↓wr,↓reduceIte,wq,ai,ah,ak,ae,af,ag,aj,isNil,Nat.reduceEqDiff,Nat.reduceAdd,Nat.reduceLT,Nat.reduceLeDiff,Int.reduceNeg,Int.reduceToNat,reduceCtorEq]
  refine an.split (fun hr=>?_) (fun hr=>?_)
  · simp (disch:=omega) only [↓wr,↓reduceIte,wq,ai,ah,ak,ae,af,ag,aj,isNil,Nat.reduceEqDiff,Nat.reduceAdd,Nat.reduceLT,Nat.reduceLeDiff,Int.reduceNeg,Int.reduceToNat,reduceCtorEq,encI]
    refine an.dec (fun h6=>?_) (fun h6=>?_)
    · simp (disch:=omega) only [↓wr,↓reduceIte,wq,ai,ah,ak,ae,af,ag,aj,isNil,Nat.reduceEqDiff,Nat.reduceAdd,Nat.reduceLT,Nat.reduceLeDiff,Int.reduceNeg,Int.reduceToNat,reduceCtorEq]
      rw[gW,decide_eq_false (show ¬ p.length≤60 by omega)]; simp
    · simp (disch:=omega) only [↓wr,↓reduceIte,wq,ai,ah,ak,ae,af,ag,aj,isNil,Nat.reduceEqDiff,Nat.reduceAdd,Nat.reduceLT,Nat.reduceLeDiff,Int.reduceNeg,Int.reduceToNat,reduceCtorEq,encI]
      refine bo.up p.length (fun i T' H'=>uW g (p.take i)=true∧T' 1=encI p∧T' 2=.aJ (ar g) 0∧T' 5=gi i) ⟨rfl,rfl,rfl,rfl⟩ ?_
      rintro i k T' H' hk ⟨hpt,t1,t2,t6⟩
      simp (disch:=omega) only [↓wr,↓reduceIte,wq,ai,ah,ak,ae,af,ag,aj,isNil,Nat.reduceEqDiff,Nat.reduceAdd,Nat.reduceLT,Nat.reduceLeDiff,Int.reduceNeg,Int.reduceToNat,reduceCtorEq,jD,t1,t2,t6,encI]
      refine an.dec (fun hc=>?_) (fun hc=>?_)
      · have hg1:p[i]?=some (p[i]'(by omega)):=List.getElem?_eq_getElem (by omega)
        have hmem:p[i]'(by omega)∈p:=List.getElem_mem _
        have htk:p.take (i+1)=p.take i ++ [p[i]'(by omega)]:=by rw[List.take_add_one,hg1]; rfl
        generalize p[i]'(by omega)=x at hg1 hmem htk
        have hpn:uW g (p.take (i+1))=(decide (0≤x) && decide (x < g.aw.length)):=by
          unfold uW at hpt ⊢
          rw[htk,List.all_append,hpt]; simp
        have hbx:(decide (0≤x) && decide (x < g.aw.length))=false→gW g p=false:=fun e=>by
          have:uW g p=false:=by
            unfold uW
            rw[List.all_eq_false]
            exact ⟨x,hmem,by rw[e]; simp⟩
          rw[gW,this,Bool.and_false]
        simp (disch:=omega) only [↓wr,↓reduceIte,wq,ai,ah,ak,ae,af,ag,aj,isNil,Nat.reduceEqDiff,Nat.reduceAdd,Nat.reduceLT,Nat.reduceLeDiff,Int.reduceNeg,Int.reduceToNat,reduceCtorEq,t1,t2,t6,encI,ar,encS,List.getElem?_map,hg1]
        refine an.dec (fun h1=>?_) (fun h1=>?_)
        · simp (disch:=omega) only [↓wr,↓reduceIte,wq,ai,ah,ak,ae,af,ag,aj,isNil,Nat.reduceEqDiff,Nat.reduceAdd,Nat.reduceLT,Nat.reduceLeDiff,Int.reduceNeg,Int.reduceToNat,reduceCtorEq,t1,t2,t6]
          rw[hbx (by rw[decide_eq_false (by omega)]; rfl)]
        · simp (disch:=omega) only [↓wr,↓reduceIte,wq,ai,ah,ak,ae,af,ag,aj,isNil,Nat.reduceEqDiff,Nat.reduceAdd,Nat.reduceLT,Nat.reduceLeDiff,Int.reduceNeg,Int.reduceToNat,reduceCtorEq,t1,t2,t6,encI,ar,encS,List.getElem?_map,hg1]
          refine an.dec (fun h2=>?_) (fun h2=>?_)
          · simp (disch:=omega) only [↓wr,↓reduceIte,wq,ai,ah,ak,ae,af,ag,aj,isNil,Nat.reduceEqDiff,Nat.reduceAdd,Nat.reduceLT,Nat.reduceLeDiff,Int.reduceNeg,Int.reduceToNat,reduceCtorEq,t1,t2,t6]
            rw[hbx (by rw[decide_eq_false (show ¬ x < (g.aw.length:Int) by omega),Bool.and_false])]
          · simp (disch:=omega) only [↓wr,↓reduceIte,wq,ai,ah,ak,ae,af,ag,aj,isNil,Nat.reduceEqDiff,Nat.reduceAdd,Nat.reduceLT,Nat.reduceLeDiff,Int.reduceNeg,Int.reduceToNat,reduceCtorEq,t1,t2,t6]
            exact bb hk (by omega) ⟨by rw[hpn,decide_eq_true (by omega),decide_eq_true (by omega)]; rfl,t1,t2,rfl⟩
      · rw[List.take_of_length_le (by omega)] at hpt
        simp (disch:=omega) only [↓wr,↓reduceIte,wq,ai,ah,ak,ae,af,ag,aj,isNil,Nat.reduceEqDiff,Nat.reduceAdd,Nat.reduceLT,Nat.reduceLeDiff,Int.reduceNeg,Int.reduceToNat,reduceCtorEq,t1,t2,t6]
        rw[gW,hr,hpt,decide_eq_true (by omega)]; rfl
  · simp (disch:=omega) only [↓wr,↓reduceIte,wq,ai,ah,ak,ae,af,ag,aj,isNil,Nat.reduceEqDiff,Nat.reduceAdd,Nat.reduceLT,Nat.reduceLeDiff,Int.reduceNeg,Int.reduceToNat,reduceCtorEq]
    rw[gW,hr]; rfl
noncomputable def pC (g:au) (w:List Int):Bool × Int:=if gW g w=true then (cF g w,0) else (false,1)
theorem Gu {g:au} {w:List Int} (h:gW g w=true):jy g w=(cF g w,0):=by
  unfold gW at h
  simp only[Bool.and_eq_true,decide_eq_true_eq] at h
  refine if_pos ?_
  rw[h.1.1,decide_eq_true h.1.2]
  simp only[Bool.true_and,iK,List.all_eq_true,Bool.and_eq_true,decide_eq_true_eq]
  intro x hx
  have:=List.all_eq_true.1 h.2 x hx
  simp only[Bool.and_eq_true,decide_eq_true_eq] at this
  omega
theorem AD (g:au) (hg:g.Ok) (w:List Int) (hw:aL w) (hn:∀ x∈w,bJ x):aC Tryz.prog 16 [.agg (ar g),encI w] (kQ (pC g w)):=by
  refine aC.tree (vi g w) (sU _) fun H=>?_
  refine aB.of mixed qX ?_
  simp (disch:=omega) only [↓wr,↓reduceIte,wq,ai,ah,ak,ae,af,ag,aj,isNil,Nat.reduceEqDiff,Nat.reduceAdd,Nat.reduceLT,Nat.reduceLeDiff,Int.reduceNeg,Int.reduceToNat,reduceCtorEq,mU,ar,encS]
  have h1:=Fv g hg w hw hn
  have h2:=yB g hg w hw hn
  simp only[ar,encS] at h1 h2
  refine az.pure h1 (by kernel_rfl) ?_
  simp (disch:=omega) only [↓wr,↓reduceIte,wq,ai,ah,ak,ae,af,ag,aj,isNil,Nat.reduceEqDiff,Nat.reduceAdd,Nat.reduceLT,Nat.reduceLeDiff,Int.reduceNeg,Int.reduceToNat,reduceCtorEq]
  refine an.split (fun hb=>?_) (fun hb=>?_)
  · simp (disch:=omega) only [↓wr,↓reduceIte,wq,ai,ah,ak,ae,af,ag,aj,isNil,Nat.reduceEqDiff,Nat.reduceAdd,Nat.reduceLT,Nat.reduceLeDiff,Int.reduceNeg,Int.reduceToNat,reduceCtorEq]
    refine az.pure h2 (by kernel_rfl) ?_
    rw[Gu hb]
    simp (disch:=omega) only [↓wr,↓reduceIte,wq,ai,ah,ak,ae,af,ag,aj,isNil,Nat.reduceEqDiff,Nat.reduceAdd,Nat.reduceLT,Nat.reduceLeDiff,Int.reduceNeg,Int.reduceToNat,reduceCtorEq,kQ]
    rw[pC,if_pos hb]
  · simp (disch:=omega) only [↓wr,↓reduceIte,wq,ai,ah,ak,ae,af,ag,aj,isNil,Nat.reduceEqDiff,Nat.reduceAdd,Nat.reduceLT,Nat.reduceLeDiff,Int.reduceNeg,Int.reduceToNat,reduceCtorEq]
    rw[pC,if_neg (by rw[hb]; simp)]; rfl
theorem EV (g:au) (hg:g.Ok) (x:Int) (hx:bJ x):aC Tryz.prog 40 [gi x,.aJ (ar g) 0] (gb (!(decide (-1≤x) && decide (x < g.aw.length)))):=by
  have hgt:=hg.aw
  unfold aL at hgt
  refine aC.val (by
    intro v hv; simp at hv
    rcases hv with rfl | rfl
    · exact .val _
    · exact ff (bB g)) fun H=>?_
  refine aB.of mixed tF ?_
  simp (disch:=omega) only [↓wr,↓reduceIte,wq,ai,ah,ak,ae,af,ag,aj,isNil,Nat.reduceEqDiff,Nat.reduceAdd,Nat.reduceLT,Nat.reduceLeDiff,Int.reduceNeg,Int.reduceToNat,reduceCtorEq,oE,ar,encS]
  refine an.dec (fun h1=>?_) (fun h1=>?_)
  · simp (disch:=omega) only [↓wr,↓reduceIte,wq,ai,ah,ak,ae,af,ag,aj,isNil,Nat.reduceEqDiff,Nat.reduceAdd,Nat.reduceLT,Nat.reduceLeDiff,Int.reduceNeg,Int.reduceToNat,reduceCtorEq]
    rw[decide_eq_false (show ¬ -1≤x by omega)]; rfl
  · simp (disch:=omega) only [↓wr,↓reduceIte,wq,ai,ah,ak,ae,af,ag,aj,isNil,Nat.reduceEqDiff,Nat.reduceAdd,Nat.reduceLT,Nat.reduceLeDiff,Int.reduceNeg,Int.reduceToNat,reduceCtorEq,ar,encS]
    rw[decide_eq_true (show -1≤x by omega)]
    rw[Bool.true_and,← decide_not]; congr 2; exact decide_eq_decide.2 ⟨fun h=>Int.not_lt.2 h,fun h=>Int.not_lt.1 h⟩
end Gv
set_option linter.unusedSimpArgs false
namespace Gv
open Go
def bV {κ:Type} (kv:κ→V) (m:cp κ):List (V × V × Nat):=m.map fun x=>(kv x.1,x.2.1,x.2.2)
structure zM {κ:Type} [BEq κ] (P:Program) (kt:TypeId) (kv:κ→V):Prop where
  find:∀ k e m,iG P kt (kv k) e (bV kv m)=some (dQ k m)
  same:∀ k,sameKey (kv k) (kv k)=true
def fU {κ:Type} (m:cp κ) (c:Nat):Prop:=(m.map (·.2.2)).Nodup∧∀ x∈m,x.2.2 < c
def fp {κ:Type} [BEq κ] (m:cp κ) (k:κ):Option Nat:=(m.find? fun x=>k == x.1).map (·.2.2)
section
variable {κ:Type} [BEq κ] [LawfulBEq κ] {kv:κ→V}
theorem iW (k:κ):∀ m:cp κ,match dQ k m with
    | some i=>∃ x,m[i]?=some x∧x.1=k∧getM m k=some x.2.1∧fp m k=some x.2.2∧(bV kv m)[i]?=some (kv k,x.2.1,x.2.2)∧∀ v c,(bV kv m).set i (kv k,v,x.2.2)=bV kv (bE k v c m)∧fp (bE k v c m) k=some x.2.2∧(bE k v c m).map (·.2.2)=m.map (·.2.2)
    | none=>getM m k=none∧fp m k=none∧∀ v c,bV kv m ++ [(kv k,v,c)]=bV kv (bE k v c m)∧fp (bE k v c m) k=some c∧(bE k v c m).map (·.2.2)=m.map (·.2.2) ++ [c]
  | []=>⟨rfl,rfl,fun v c=>⟨rfl,by simp[bE,fp],rfl⟩⟩
  | x :: r=>by
    have ih:=iW k r
    simp only[dQ]
    cases hk:k == x.1 with
    | true =>
      have hx:x.1=k:=(eq_of_beq hk).symm
      exact ⟨x,rfl,hx,by simp[getM,hk],by simp[fp,hk],by simp[bV,hx],fun v c=>by simp[bE,hk,bV,fp]⟩
    | false =>
      simp only[Bool.false_eq_true,if_false]
      cases hi:dQ k r with
      | some i =>
        rw[hi] at ih
        obtain ⟨y,h1,h2,h3,h4,h5,h6⟩:=ih
        refine ⟨y,by simpa using h1,h2,by simpa [getM,hk] using h3,by simpa [fp,hk] using h4,by simpa [bV] using h5,fun v c=>?_⟩
        obtain ⟨g1,g2,g3⟩:=h6 v c
        exact ⟨by simp only[bV] at g1 ⊢; simp[bE,hk,g1],by simpa [bE,hk,fp] using g2,by simp[bE,hk,g3]⟩
      | none =>
        rw[hi] at ih
        refine ⟨by simpa [getM,hk] using ih.1,by simpa [fp,hk] using ih.2.1,fun v c=>?_⟩
        obtain ⟨g1,g2,g3⟩:=ih.2.2 v c
        exact ⟨by simp only[bV] at g1 ⊢; simp[bE,hk,g1],by simpa [bE,hk,fp] using g2,by simp[bE,hk,g3]⟩
theorem fU.put {m:cp κ} {c:Nat} (h:fU m c) (k:κ) (v:V):fU (bE k v c m) (c+1):=by
  have hg:=iW (kv:=fun _=>V.any) k m
  cases hj:dQ k m with
  | some j =>
    rw[hj] at hg
    obtain ⟨y,_,_,_,_,_,h6⟩:=hg
    have e:=(h6 v c).2.2
    refine ⟨by rw[e]; exact h.1,fun x hx=>?_⟩
    have:x.2.2∈m.map (·.2.2):=by rw[← e]; exact List.mem_map.2 ⟨x,hx,rfl⟩
    obtain ⟨y,hy,e2⟩:=List.mem_map.1 this
    have:=h.2 y hy
    omega
  | none =>
    rw[hj] at hg
    have e:=(hg.2.2 v c).2.2
    refine ⟨?_,fun x hx=>?_⟩
    · rw[e,List.nodup_append]
      refine ⟨h.1,by simp,fun a ha b hb=>?_⟩
      simp at hb; subst hb
      obtain ⟨y,hy,rfl⟩:=List.mem_map.1 ha
      have:=h.2 y hy
      omega
    · have:x.2.2∈m.map (·.2.2) ++ [c]:=by rw[← e]; exact List.mem_map.2 ⟨x,hx,rfl⟩
      rcases List.mem_append.1 this with h1 | h1
      · obtain ⟨y,hy,e2⟩:=List.mem_map.1 h1
        have:=h.2 y hy
        omega
      · simp at h1; omega
theorem fU.Je {m:cp κ} {c:Nat} (h:fU m c) {k:κ} {b:Nat} (hb:fp m k=some b) (v:V) (c':Nat):fU (bE k v c' m) c:=by
  have hg:=iW (kv:=fun _=>V.any) k m
  cases hj:dQ k m with
  | some j =>
    rw[hj] at hg
    obtain ⟨y,_,_,_,_,_,h6⟩:=hg
    have e:=(h6 v c').2.2
    refine ⟨by rw[e]; exact h.1,fun x hx=>?_⟩
    have:x.2.2∈m.map (·.2.2):=by rw[← e]; exact List.mem_map.2 ⟨x,hx,rfl⟩
    obtain ⟨y,hy,e2⟩:=List.mem_map.1 this
    have:=h.2 y hy
    omega
  | none =>
    rw[hj] at hg
    rw[hg.2.1] at hb; simp at hb
omit [BEq κ] [LawfulBEq κ] in
theorem find_born (b:Nat):∀ (m:cp κ) (i:Nat) (x:κ × V × Nat),(m.map (·.2.2)).Nodup→m[i]?=some x→x.2.2=b→(bV kv m).findIdx? (fun e=>e.2.2 == b)=some i
  | [],i,x,_,h,_=>by simp at h
  | y :: m,0,x,hn,h,e=>by
    simp at h; subst h
    simp[bV,List.findIdx?_cons,e]
  | y :: m,i+1,x,hn,h,e=>by
    simp only[List.map_cons,List.nodup_cons] at hn
    have h:m[i]?=some x:=by simpa using h
    have hx:x∈m:=List.mem_of_getElem? h
    have hne:¬ y.2.2=b:=fun e2=>hn.1 (by rw[e2,← e]; exact List.mem_map.2 ⟨x,hx,rfl⟩)
    have ih:=find_born b m i x hn.2 h e
    simp only[bV] at ih
    simp[bV,List.findIdx?_cons,hne,ih]
variable {P:Program} {T:Env} {H:View} {kt et t ty:TypeId}
theorem HJ {K:V→View→Prop} {w:bP (T,H,K)} {x i:Operand} {z:V} {id c:Nat} {m:cp κ} {k:κ} (hm:cL P t=some (kt,et)) (hz:zeroV P et=some z) (hk:zM P kt kv)
    (hx:ev T x=.mp id) (hi:ev T i=kv k) (hH:H id=.map (bV kv m) c) (h:K ((getM m k).getD z) H):mW P (.lookup t x i false) ty T H K w:=by
  intro n _
  have hf:=hk.find k (bV kv m).isEmpty m
  have hg:=iW (kv:=kv) k m
  refine ⟨(getM m k).getD z,.none,[id],?_,h⟩
  simp only[sI,bz,oper,dc,hm,hz,hx,hi,hH,hf]
  cases hj:dQ k m with
  | some j =>
    rw[hj] at hg
    obtain ⟨y,h1,h2,h3,h4,h5,_⟩:=hg
    simp[h5,h3]
  | none =>
    rw[hj] at hg
    simp[hg.1]
theorem xV {z:V} {id c:Nat} {m:cp κ} {k:κ} (hm:cL P t=some (kt,et)) (hz:zeroV P et=some z) (hk:zM P kt kv) (hH:H id=.map (bV kv m) c) (hb:fU m c) :
    ∃ b c',cy P t (.mp id) (kv k) H=some (.bp [(getM m k).getD z,ak b],.dw id (.map (bV kv (bE k ((getM m k).getD z) c m)) c'),[id])∧fU (bE k ((getM m k).getD z) c m) c'∧fp (bE k ((getM m k).getD z) c m) k=some b:=by
  have hf:=hk.find k false m
  have hg:=iW (kv:=kv) k m
  cases hj:dQ k m with
  | some j =>
    rw[hj] at hg hf
    obtain ⟨y,h1,h2,h3,h4,h5,h6⟩:=hg
    refine ⟨y.2.2,c,?_,?_,?_⟩
    · simp only[cy,hm,hH,hf,h5,hk.same k,if_true,h3,Option.getD_some]
      rw[(h6 y.2.1 c).1]
    · exact hb.Je h4 _ _
    · rw[h3]; exact (h6 _ c).2.1
  | none =>
    rw[hj] at hg hf
    refine ⟨c,c+1,?_,hb.put k _,?_⟩
    · simp only[cy,hm,hH,hf,hz,hg.1,Option.getD_none]
      rw[(hg.2.2 z c).1]
    · rw[hg.1]; exact (hg.2.2 _ c).2.1
theorem IH {K:V→View→Prop} {w:bP (T,H,K)} {x i:Operand} {z:V} {id c:Nat} {m:cp κ} {k:κ} (hm:cL P t=some (kt,et)) (hz:zeroV P et=some z) (hk:zM P kt kv)
    (hx:ev T x=.mp id) (hi:ev T i=kv k) (hH:H id=.map (bV kv m) c) (hb:fU m c)
    (h:∀ b c',fU (bE k ((getM m k).getD z) c m) c'→fp (bE k ((getM m k).getD z) c m) k=some b→K (.bp [(getM m k).getD z,ak b]) (H.set id (.map (bV kv (bE k ((getM m k).getD z) c m)) c'))):mW P (.mapEntry t x i) ty T H K w:=by
  intro n _
  obtain ⟨b,c',h1,h2,h3⟩:=xV (k:=k) hm hz hk hH hb
  refine ⟨.bp [(getM m k).getD z,ak b],.dw id (.map (bV kv (bE k ((getM m k).getD z) c m)) c'),[id],?_,h b c' h2 h3⟩
  simp only[sI,bz,oper,hx,hi]
  exact h1
theorem IK {K:V→View→Prop} {w:bP (T,H,K)} {x s y:Operand} {id c b:Nat} {m:cp κ} {k:κ} {v:V} (hx:ev T x=.mp id) (hs:ev T s=ak b) (hy:ev T y=v) (hH:H id=.map (bV kv m) c) (hb:fU m c) (hbk:fp m k=some b)
    (h:∀ c0,K .any (H.set id (.map (bV kv (bE k v c0 m)) c))):mW P (.entryStore t x s y) ty T H K w:=by
  intro n _
  have hg:=iW (kv:=kv) k m
  cases hj:dQ k m with
  | none=>rw[hj] at hg; rw[hg.2.1] at hbk; simp at hbk
  | some j =>
    rw[hj] at hg
    obtain ⟨z,h1,h2,h3,h4,h5,h6⟩:=hg
    rw[hbk] at h4
    have e:z.2.2=b:=by simp at h4; exact h4.symm
    have hf:=find_born (kv:=kv) b m j z hb.1 h1 e
    refine ⟨.any,.dw id (.map (bV kv (bE k v c m)) c),[id],?_,h c⟩
    have hn:asNat (ak b)=some b:=by simp[asNat,ak]
    simp only[sI,bz,oper,hx,hs,hy,fD,hn,hH,hf,h5]
    rw[(h6 v c).1]
theorem JW {z:V} {id c:Nat} {m:cp κ} {k:κ} (hm:cL P t=some (kt,et)) (hz:zeroV P et=some z) (hk:zM P kt kv) (hH:H id=.map (bV kv m) c) (hb:fU m c):Ad P t (.mp id) (kv k) H:=by
  refine ⟨⟨_,_,hH⟩,fun v obj rd he=>?_⟩
  obtain ⟨b,c',h1,h2,h3⟩:=xV (k:=k) hm hz hk hH hb
  rw[he] at h1
  simp only[Option.some.injEq,Prod.mk.injEq,ba.dw.injEq] at h1
  obtain ⟨_,⟨_,rfl⟩,_⟩:=h1
  have key:∀ (m':cp κ) (c2:Nat) (H':View),H' id=.map (bV kv m') c2→dc P t (.mp id) (kv k) false H'=some ((getM m' k).getD z,.none,[id]):=by
    intro m' c2 H' hH'
    have hf:=hk.find k (bV kv m').isEmpty m'
    have hg:=iW (kv:=kv) k m'
    simp only[dc,hm,hz,hH',hf]
    cases hj:dQ k m' with
    | some j =>
      rw[hj] at hg
      obtain ⟨y,h1,h2,h3,h4,h5,_⟩:=hg
      simp[h5,h3]
    | none =>
      rw[hj] at hg
      simp[hg.1]
  rw[key (bE k ((getM m k).getD z) c m) c' _ (by simp[View.set]),key m c H hH,nT]
  simp
end
def c7 (x:Item):List V:=[ak x.bq,ak x.dot,ak x.b8]
def mr (x:Item):V:=.agg (c7 x)
def gL (x:Item):Value:=.agg #[.int .i64 x.bq,.int .i64 x.dot,.int .i64 x.b8]
theorem vz (x:Item):bN (mr x)=some (gL x):=rfl
theorem vT:∀ m:cp Item,dZ (bV mr m)=some (m.map fun x=>{ key:=gL x.1,val:=.nilFunc,born:=x.2.2 })
  | []=>rfl
  | x :: r=>by
    have:=vT r
    simp only[bV] at this
    simp[bV,dZ,vz,this]
structure I6 (P:Program) (kt:TypeId):Prop where
  ty:∃ f0 f1 f2:Field,P.underlying kt=some (.struct #[f0,f1,f2])∧f0.name≠ "_" ∧ f1.name≠ "_" ∧ f2.name≠ "_" ∧ P.underlying f0.type=some (.int .i64)∧P.underlying f1.type=some (.int .i64)∧P.underlying f2.type=some (.int .i64)∧f0.offset=0∧f1.offset=1∧f2.offset=2
  held:P.stoodInHeld kt=false
theorem tC {P:Program} {α:Type} (x:α):aW P (pure x:Sem α)=some x:=rfl
theorem IZ {P:Program} {kt:TypeId} (h:I6 P kt):zM P kt mr where
  same:=fun k=>by simp[sameKey,vz,gL,Instr.sameBits]
  find:=by
    obtain ⟨f0,f1,f2,hu,n0,n1,n2,u0,u1,u2,o0,o1,o2⟩:=h.ty
    have heq:∀ a b:Item,aW P (Op.equal kt (gL a) (gL b))=some (a == b):=by
      intro a b
      have hf:dS P 9998 #[.int .i64 (a.bq:Int),.int .i64 (a.dot:Int),.int .i64 (a.b8:Int)] #[.int .i64 (b.bq:Int),.int .i64 (b.dot:Int),.int .i64 (b.b8:Int)] [f0,f1,f2] (((a.bq:Int) == b.bq) && (((a.dot:Int) == b.dot) && (((a.b8:Int) == b.b8) && true))) :=
        .int f0 _ _ .i64 _ _ n0 u0 (by rw[o0]; rfl) (by rw[o0]; rfl) (.int f1 _ _ .i64 _ _ n1 u1 (by rw[o1]; rfl) (by rw[o1]; rfl) (.int f2 _ _ .i64 _ _ n2 u2 (by rw[o2]; rfl) (by rw[o2]; rfl) .nil))
      rw[gL,gL,nE hu h.held hf]
      congr 1
      rw[Bool.eq_iff_iff]
      simp only[Bool.and_eq_true,beq_iff_eq,Int.natCast_inj,and_true]
      cases a; cases b; simp
    have hask:∀ (k:Item) (m:cp Item) (i:Nat),aW P (Instr.findAsking kt (gL k) (m.map fun x=>{ key:=gL x.1,val:=.nilFunc,born:=x.2.2 }) i)=some ((dQ k m).map fun j=>(i+j,.nilFunc)):=by
      intro k m
      induction m with
      | nil=>intro i; rfl
      | cons x r ih =>
        intro i
        simp only[List.map_cons,Instr.findAsking,aQ,heq,Option.bind_some,dQ]
        cases hk:k == x.1 with
        | true=>simp[tC]
        | false =>
          simp only[Bool.false_eq_true,if_false,ih (i+1),Option.map_map]
          congr 2
          funext j
          simp only[Function.comp]
          congr 1
          omega
    have hint:∀ (e:Bool) (ft:TypeId) (v:Value),P.underlying ft=some (.int .i64)→aW P (Instr.checkKey e 9999 ft v)=some ():=fun e ft v hft=>vV hft trivial e 9998 v
    have hchk:∀ (k:Item) (e:Bool),aW P (Instr.checkKey e 10000 kt (gL k))=some ():=by
      intro k e
      unfold Instr.checkKey gL
      rw[aQ,cq hu,Option.bind_some]
      have p0:=er (P:=P) u0 (.inr ⟨_,rfl⟩) #[.int .i64 (k.bq:Int),.int .i64 (k.dot:Int),.int .i64 (k.b8:Int)] f0.offset (v:=.int .i64 k.bq) (by rw[o0]; rfl)
      have p1:=er (P:=P) u1 (.inr ⟨_,rfl⟩) #[.int .i64 (k.bq:Int),.int .i64 (k.dot:Int),.int .i64 (k.b8:Int)] f1.offset (v:=.int .i64 k.dot) (by rw[o1]; rfl)
      have p2:=er (P:=P) u2 (.inr ⟨_,rfl⟩) #[.int .i64 (k.bq:Int),.int .i64 (k.dot:Int),.int .i64 (k.b8:Int)] f2.offset (v:=.int .i64 k.b8) (by rw[o2]; rfl)
      simp only[← Array.forIn_toList,List.forIn_cons,List.forIn_nil,if_pos n0,if_pos n1,if_pos n2,aQ,p0,p1,p2,hint e _ _ u0,hint e _ _ u1,hint e _ _ u2,Option.bind_some,tC]
    intro k e m
    have hu':aW P (underlying kt)=some _:=cq hu
    simp only[iG,vz,vT,aQ,hchk,Option.bind_some]
    have:aW P (Instr.findKey kt (gL k) (m.map fun x=>{ key:=gL x.1,val:=.nilFunc,born:=x.2.2 }))=some ((dQ k m).map fun j=>(0+j,.nilFunc)):=by
      unfold Instr.findKey
      rw[aQ,hu',Option.bind_some]
      cases m with
      | nil=>rfl
      | cons x r=>exact hask k (x :: r) 0
    rw[this]
    cases dQ k m with
    | none=>rfl
    | some j=>simp
end Gv
set_option linter.unusedSimpArgs false
set_option maxRecDepth 100000
namespace Gv
open Go Go.Proofs
def FB (m:cp Item) (s:List Item) (B:Nat):Prop:=∀ x,(x∈s→∃ k:Nat,getM m x=some (ak k)∧1≤k∧k≤B)∧(x ∉ s→getM m x=none)
structure iv (H:View) (c sid mid:Nat) (sv:Nat→V) (mi:Nat→Nat) (mm:Nat→cp Item) (cl:Nat→Nat) (g:au) (p:List Int) (nu:V) (S S1:Nat→List Item) (B n:Nat) (K:List (Nat × br)):Prop where
  box:H c=.arr 8 [[.aY (g.aw.map cZ),encS g.aD,.aY (g.rules.map bj),gi g.start,encI p,nu,.sl sid 0 n 1,.sl mid 0 n 1]]
  eu:H sid=.arr 1 ((List.range n).map fun j=>[sv j])
  seen:H mid=.arr 1 ((List.range n).map fun j=>[.mp (mi j)])
  set:∀ j,j < n→aV H (sv j) 3 ((S j).map c7)
  map:∀ j,j < n→H (mi j)=.map (bV mr (mm j)) (cl j)∧fU (mm j) (cl j)∧FB (mm j) (S1 j) B
  ne:sid≠mid
  sW:∀ i j o,i < n→j < n→owner (sv i)=some o→owner (sv j)=some o→i=j
  w8:∀ i j,i < n→j < n→mi i=mi j→i=j
  off:∀ q∈K,H q.1=q.2∧q.2≠.dead∧q.1≠sid∧(∀ j,j < n→q.1≠mi j)∧∀ j,j < n→owner (sv j)≠some q.1
def Ch (H:View) (c:Nat) (g:au) (p:List Int) (nu:V) (S:Nat→List Item) (B n:Nat) (K:List (Nat × br)):Prop:=∃ sid mid sv mi mm cl,iv H c sid mid sv mi mm cl g p nu S S B n K
def fb (S:Nat→List Item) (a:Nat) (x:Item):Nat→List Item:=fun b=>if b=a then (if x∈S a then S a else S a ++ [x]) else S b
theorem Ch.more {H:View} {c:Nat} {g:au} {p:List Int} {nu:V} {S:Nat→List Item} {B B' n:Nat} {K:List (Nat × br)} (h:Ch H c g p nu S B n K) (hB:B≤B'):Ch H c g p nu S B' n K:=by
  obtain ⟨sid,mid,sv,mi,mm,cl,h⟩:=h
  refine ⟨sid,mid,sv,mi,mm,cl,h.box,h.eu,h.seen,h.set,fun j hj=>⟨(h.map j hj).1,(h.map j hj).2.1,fun x=>⟨fun hx=>?_,((h.map j hj).2.2 x).2⟩⟩,h.ne,h.sW,h.w8,h.off⟩
  obtain ⟨k,h1,h2,h3⟩:=((h.map j hj).2.2 x).1 hx
  exact ⟨k,h1,h2,by omega⟩
theorem Ch.drop {H:View} {c:Nat} {g:au} {p:List Int} {nu:V} {S:Nat→List Item} {B n:Nat} {q:Nat × br} {K:List (Nat × br)} (h:Ch H c g p nu S B n (q :: K)):Ch H c g p nu S B n K:=by
  obtain ⟨sid,mid,sv,mi,mm,cl,h⟩:=h
  exact ⟨sid,mid,sv,mi,mm,cl,h.box,h.eu,h.seen,h.set,h.map,h.ne,h.sW,h.w8,fun q hq=>h.off q (by simp[hq])⟩
theorem iv.new {H:View} {c sid mid:Nat} {sv:Nat→V} {mi:Nat→Nat} {mm:Nat→cp Item} {cl:Nat→Nat} {g:au} {p:List Int} {nu:V} {S S1:Nat→List Item} {B n:Nat} {K:List (Nat × br)} (h:iv H c sid mid sv mi mm cl g p nu S S1 B n K)
    {b:Nat} {o:br} (hb:H b=.dead) (ho:o≠.dead):iv (H.set b o) c sid mid sv mi mm cl g p nu S S1 B n ((b,o) :: K):=by
  have keep:∀ id,H id≠.dead→(H.set b o) id=H id:=fun id hid=>by
    have e:id≠b:=by rintro rfl; exact hid hb
    simp[View.set,e]
  have live:∀ {id},H id≠.dead→b≠id:=fun hid e=>hid (e ▸ hb)
  refine ⟨?_,?_,?_,fun j hj=>?_,fun j hj=>?_,h.ne,h.sW,h.w8,fun q hq=>?_⟩
  · rw[keep _ (by rw[h.box]; simp)]; exact h.box
  · rw[keep _ (by rw[h.eu]; simp)]; exact h.eu
  · rw[keep _ (by rw[h.seen]; simp)]; exact h.seen
  · exact (h.set j hj).fresh hb
  · rw[keep _ (by rw[(h.map j hj).1]; simp)]; exact h.map j hj
  · rcases List.mem_cons.1 hq with rfl | hq
    · refine ⟨by simp[View.set],ho,live (by rw[h.eu]; simp),fun j hj=>live (by rw[(h.map j hj).1]; simp),fun j hj=>?_⟩
      have:=(h.set j hj).ne hb
      exact this
    · obtain ⟨h1,h2,h3⟩:=h.off q hq
      exact ⟨by rw[keep _ (by rw[h1]; exact h2)]; exact h1,h2,h3⟩
theorem Ch.new {H:View} {c:Nat} {g:au} {p:List Int} {nu:V} {S:Nat→List Item} {B n b:Nat} {o:br} {K:List (Nat × br)} (h:Ch H c g p nu S B n K) (hb:H b=.dead) (ho:o≠.dead):Ch (H.set b o) c g p nu S B n ((b,o) :: K):=by
  obtain ⟨sid,mid,sv,mi,mm,cl,h⟩:=h
  exact ⟨sid,mid,sv,mi,mm,cl,h.new hb ho⟩
theorem Ch.kept {H:View} {c:Nat} {g:au} {p:List Int} {nu:V} {S:Nat→List Item} {B n:Nat} {K:List (Nat × br)} (h:Ch H c g p nu S B n K):∀ q∈K,H q.1=q.2:=by
  obtain ⟨sid,mid,sv,mi,mm,cl,h⟩:=h
  exact fun q hq=>(h.off q hq).1
def mh:SF:=⟨.seq (al [b7 5 2]) <|
  .seq (.tL (91,12,13) [] [⟨none,[aa 6 0,bh 7 6,aq 8 7 7,ao 9 8,aa 10 1,aX 11 1 9 10,ao 12 11,aO 13 3 5,((some 14),.op (.bc (.lookup 91 (.tmp 12) (.tmp 13) false) 3)),ax 15 .add 14 1,((some 16),.op (.bc (.mapEntry 91 (.tmp 12) (.tmp 13)) 0)),bK 17 1 16,(none,.op (.bc (.entryStore 91 (.tmp 12) (.tmp 17) (.tmp 15)) 0))]⟩]) <|
  .seq (al [aa 18 0,bh 19 18,aq 20 7 19,ao 21 20,aa 22 1,aX 23 1 21 22,ao 24 23,aO 25 3 5,((some 26),.op (.bc (.lookup 91 (.tmp 24) (.tmp 25) false) 3)),ax 27 .eql 26 1]) <|
  .cond (.tmp 27) (.np [(30,39)] [⟨none,[aa 28 0,bh 29 28,aq 30 6 29,ao 31 30,aa 32 1,aa 33 0,bh 34 33,aq 35 6 34,ao 36 35,aa 37 1,aX 38 1 36 37,ao 39 38,aO 40 3 5,((some 41),.op (.bu 1 3 [(.val (.int .i64 0)),(.val (.int .i64 0)),(.val (.int .i64 0))] [(0,(.tmp 40))])),((some 42),.op (.app 3 24 (.tmp 39) (.tmp 41))),aX 43 1 31 32,(none,.op (.store 1 (.tmp 43) (.tmp 42)))]⟩]) (.skip),
  [],44⟩
theorem qg:aR Tryz.prog 100 [5,100000]=some mh:=by kernel_rfl
theorem GV:I6 Tryz.prog 95 :=
  ⟨⟨⟨ "rule",3,0,false,"","gerund/oracle",0⟩,⟨ "dot",3,1,false,"","gerund/oracle",8⟩,⟨ "from",3,2,false,"","gerund/oracle",16⟩,by kernel_rfl,by decide,by decide,by decide,Tryz.underlying3,Tryz.underlying3,Tryz.underlying3,rfl,rfl,rfl⟩,by kernel_rfl⟩
theorem HN {m:cp Item} {s:List Item} {B c c0:Nat} {x:Item} (h:FB m s B) (k:Nat) (hk:(x∈s∧getM m x=some (ak k))∨(x ∉ s∧k=0)) (hB:k≤B) (z:V):FB (bE x (ak (k+1:Nat)) c0 (bE x z c m)) (if x∈s then s else s ++ [x]) (B+1):=by
  intro y
  rw[nT,nT]
  by_cases e:y=x
  · subst e
    refine ⟨fun _=>⟨k+1,by simp,by omega,by omega⟩,fun hn=>?_⟩
    exfalso
    by_cases hy:y∈s
    · rw[if_pos hy] at hn; exact hn hy
    · rw[if_neg hy] at hn; exact hn (by simp)
  · have e':(y == x)=false:=by simpa using e
    simp only[e',Bool.false_eq_true,if_false]
    have hmem:(y∈if x∈s then s else s ++ [x])↔y∈s:=by
      split
      · exact Iff.rfl
      · simp[e]
    rw[hmem]
    refine ⟨fun hy=>?_,(h y).2⟩
    obtain ⟨k',h1,h2,h3⟩:=(h y).1 hy
    exact ⟨k',h1,h2,by omega⟩
theorem iv.wrote {H:View} {c sid mid:Nat} {sv:Nat→V} {mi:Nat→Nat} {mm:Nat→cp Item} {cl:Nat→Nat} {g:au} {p:List Int} {nu:V} {S S1:Nat→List Item} {B n:Nat} {K:List (Nat × br)} (h:iv H c sid mid sv mi mm cl g p nu S S1 B n K)
    {at0:Nat} (ha:at0 < n) {x:Item} {m':cp Item} {c':Nat} (hb:fU m' c') (hc:FB m' (fb S1 at0 x at0) (B+1)) :
    iv (H.set (mi at0) (.map (bV mr m') c')) c sid mid sv mi (fun j=>if j=at0 then m' else mm j) (fun j=>if j=at0 then c' else cl j) g p nu S (fb S1 at0 x) (B+1) n K:=by
  obtain ⟨hm1,hm2,hm3⟩:=h.map at0 ha
  have keep:∀ id z es,H id=.arr z es→(H.set (mi at0) (.map (bV mr m') c')) id=H id:=fun id z es hid=>by
    have e:id≠mi at0:=by rintro rfl; rw[hm1] at hid; simp at hid
    simp[View.set,e]
  refine ⟨?_,?_,?_,fun j hj=>?_,fun j hj=>?_,h.ne,h.sW,h.w8,fun q hq=>?_⟩
  · rw[keep _ _ _ h.box]; exact h.box
  · rw[keep _ _ _ h.eu]; exact h.eu
  · rw[keep _ _ _ h.seen]; exact h.seen
  · exact (h.set j hj).keep fun id hid=>keep _ _ _ ((h.set j hj).live hid).1
  · by_cases e:j=at0
    · subst e
      simp only[if_true]
      exact ⟨by simp[View.set],hb,hc⟩
    · have e2:mi j≠mi at0:=fun q=>e (h.w8 j at0 hj ha q)
      simp only[if_neg e]
      obtain ⟨g1,g2,g3⟩:=h.map j hj
      refine ⟨by simp[View.set,e2,g1],g2,?_⟩
      simp only[fb,if_neg e]
      intro y
      refine ⟨fun hy=>?_,(g3 y).2⟩
      obtain ⟨k,h1,h2,h3⟩:=(g3 y).1 hy
      exact ⟨k,h1,h2,by omega⟩
  · obtain ⟨h1,h2,h3,h4,h5⟩:=h.off q hq
    exact ⟨by simp[View.set,h4 at0 ha,h1],h2,h3,h4,h5⟩
theorem iv.I2 {H H':View} {c sid mid:Nat} {sv:Nat→V} {mi:Nat→Nat} {mm:Nat→cp Item} {cl:Nat→Nat} {g:au} {p:List Int} {nu:V} {S S1:Nat→List Item} {B n:Nat} {K:List (Nat × br)} (h:iv H c sid mid sv mi mm cl g p nu S S1 B n K)
    {at0:Nat} (ha:at0 < n) {x:Item} (hx:¬ x∈S at0) {u':V} (ho:aV H' u' 3 ((S at0).map c7 ++ [c7 x])) (hl:Left H H' (sv at0) u') :
    iv (H'.set sid (.arr 1 (((List.range n).map fun j=>[sv j]).set at0 [u']))) c sid mid (fun j=>if j=at0 then u' else sv j) mi mm cl g p nu (fb S at0 x) S1 B n K:=by
  have own:∀ {id},owner (sv at0)=some id→H id=.arr 3 ((S at0).map c7):=fun hid=>((h.set at0 ha).live hid).1
  have n1:owner (sv at0)≠some sid:=fun e=>by
    have:=own e
    rw[h.eu] at this; simp at this
  have keep:∀ id,H id≠.dead→owner (sv at0)≠some id→H' id=H id∧owner u'≠some id:=hl
  have ns:=keep sid (by rw[h.eu]; simp) n1
  have keep2:∀ id,H id≠.dead→owner (sv at0)≠some id→id≠sid→(H'.set sid (.arr 1 (((List.range n).map fun j=>[sv j]).set at0 [u']))) id=H id:=fun id h1 h2 h3=>by
    simp only[View.set,if_neg h3]; exact (keep id h1 h2).1
  have no3:∀ {id o},H id=o→o≠.arr 3 ((S at0).map c7)→owner (sv at0)≠some id:=fun h1 h2 e=>h2 (by rw[← h1]; exact own e)
  refine ⟨?_,?_,?_,fun j hj=>?_,fun j hj=>?_,h.ne,fun i j o hi hj h1 h2=>?_,h.w8,fun q hq=>?_⟩
  · rw[keep2 c (by rw[h.box]; simp) (no3 h.box (by simp)) (by rintro rfl; have:=h.box; rw[h.eu] at this; simp at this)]; exact h.box
  · simp only[View.set,if_true]
    congr 1
    rw[xf]
    apply List.map_congr_left
    intro j _
    split <;> rfl
  · rw[keep2 mid (by rw[h.seen]; simp) (no3 h.seen (by simp)) h.ne.symm]; exact h.seen
  · by_cases e:j=at0
    · subst e
      simp only[if_true,fb,if_neg hx,List.map_append,List.map_cons,List.map_nil]
      exact ho.other ns.2
    · simp only[if_neg e,fb]
      refine (h.set j hj).keep fun id hid=>?_
      have hlv:=((h.set j hj).live hid).1
      refine keep2 id (by rw[hlv]; simp) (fun e2=>e (h.sW j at0 id hj ha hid e2)) ?_
      rintro rfl; rw[h.eu] at hlv; simp at hlv
  · obtain ⟨g1,g2,g3⟩:=h.map j hj
    refine ⟨?_,g2,g3⟩
    rw[keep2 (mi j) (by rw[g1]; simp) (no3 g1 (by simp)) (by intro e; rw[e,h.eu] at g1; simp at g1)]; exact g1
  · by_cases e1:i=at0
    · by_cases e2:j=at0
      · omega
      · simp only[if_pos e1,if_neg e2] at h1 h2
        exfalso
        have hlv:=((h.set j hj).live h2).1
        exact (keep o (by rw[hlv]; simp) (fun e3=>e2 (h.sW j at0 o hj ha h2 e3))).2 h1
    · by_cases e2:j=at0
      · simp only[if_neg e1,if_pos e2] at h1 h2
        exfalso
        have hlv:=((h.set i hi).live h1).1
        exact (keep o (by rw[hlv]; simp) (fun e3=>e1 (h.sW i at0 o hi ha h1 e3))).2 h2
      · simp only[if_neg e1,if_neg e2] at h1 h2
        exact h.sW i j o hi hj h1 h2
  · obtain ⟨h1,h2,h3,h4,h5⟩:=h.off q hq
    refine ⟨?_,h2,h3,h4,fun j hj=>?_⟩
    · rw[keep2 q.1 (by rw[h1]; exact h2) (h5 at0 ha) h3]; exact h1
    · by_cases e:j=at0
      · simp only[if_pos e]; exact (keep q.1 (by rw[h1]; exact h2) (h5 at0 ha)).2
      · simp only[if_neg e]; exact h5 j hj
set_option maxHeartbeats 4000000 in
theorem vQ (c:Nat) (g:au) (p:List Int) (nu:V) (S:Nat→List Item) (B n at0:Nat) (x:Item) (K:List (Nat × br)) (H:View) (hC:Ch H c g p nu S B n K) (ha:at0 < n) (hn:n < 1000) (hB:B < 1000000000000) (hl:(S at0).length < 1000000)
    (hx:x.bq < 1000∧x.dot < 1000∧x.b8 < 1000):aB Tryz.prog 100 [.ptr c 0 0,ak at0,.agg (c7 x)] H fun _ H'=>Ch H' c g p nu (fb S at0 x) (B+1) n K:=by
  obtain ⟨sid,mid,sv,mi,mm,cl,h⟩:=hC
  obtain ⟨hm1,hm2,hm3⟩:=h.map at0 ha
  have hmt:cL Tryz.prog 91=some (95,3):=by kernel_rfl
  have hz:zeroV Tryz.prog 3=some (gi 0):=by kernel_rfl
  have hkey:=IZ GV
  have hk0:∃ k:Nat,(getM (mm at0) x).getD (gi 0)=ak k∧k≤B∧((x∈S at0∧getM (mm at0) x=some (ak k)∧1≤k)∨(¬ x∈S at0∧k=0)):=by
    by_cases hxs:x∈S at0
    · obtain ⟨k,h1,h2,h3⟩:=(hm3 x).1 hxs
      exact ⟨k,by rw[h1]; rfl,h3,.inl ⟨hxs,h1,h2⟩⟩
    · exact ⟨0,by rw[(hm3 x).2 hxs]; rfl,by omega,.inr ⟨hxs,rfl⟩⟩
  obtain ⟨k,hk1,hk2,hk3⟩:=hk0
  refine aB.of mixed qg ?_
  simp (disch:=omega) only [↓wr,↓reduceIte,wq,ai,ah,ak,ae,af,ag,aj,isNil,Nat.reduceEqDiff,Nat.reduceAdd,Nat.reduceLT,Nat.reduceLeDiff,Int.reduceNeg,Int.reduceToNat,reduceCtorEq,mh,h.box,h.seen,dn ha,c7]
  refine ⟨ha,by simp; omega,?_⟩
  refine HJ (kv:=mr) (kt:=95) (et:=3) (z:=gi 0) hmt hz hkey (id:=mi at0) (c:=cl at0) (m:=mm at0) (k:=x) (by simp (disch:=omega) only [↓wr,↓reduceIte,wq,ai,ah,ak,ae,af,ag,aj,isNil,Nat.reduceEqDiff,Nat.reduceAdd,Nat.reduceLT,Nat.reduceLeDiff,Int.reduceNeg,Int.reduceToNat,reduceCtorEq]) (by simp (disch:=omega) only [↓wr,↓reduceIte,wq,ai,ah,ak,ae,af,ag,aj,isNil,Nat.reduceEqDiff,Nat.reduceAdd,Nat.reduceLT,Nat.reduceLeDiff,Int.reduceNeg,Int.reduceToNat,reduceCtorEq]; rfl) hm1 ?_
  rw[hk1]
  simp (disch:=omega) only [↓wr,↓reduceIte,wq,ai,ah,ak,ae,af,ag,aj,isNil,Nat.reduceEqDiff,Nat.reduceAdd,Nat.reduceLT,Nat.reduceLeDiff,Int.reduceNeg,Int.reduceToNat,reduceCtorEq]
  refine IH (kv:=mr) (kt:=95) (et:=3) (z:=gi 0) hmt hz hkey (id:=mi at0) (c:=cl at0) (m:=mm at0) (k:=x) (by simp (disch:=omega) only [↓wr,↓reduceIte,wq,ai,ah,ak,ae,af,ag,aj,isNil,Nat.reduceEqDiff,Nat.reduceAdd,Nat.reduceLT,Nat.reduceLeDiff,Int.reduceNeg,Int.reduceToNat,reduceCtorEq]) (by simp (disch:=omega) only [↓wr,↓reduceIte,wq,ai,ah,ak,ae,af,ag,aj,isNil,Nat.reduceEqDiff,Nat.reduceAdd,Nat.reduceLT,Nat.reduceLeDiff,Int.reduceNeg,Int.reduceToNat,reduceCtorEq]; rfl) hm1 hm2 fun b c' hb hbk=>?_
  rw[hk1] at hb hbk ⊢
  simp (disch:=omega) only [↓wr,↓reduceIte,wq,ai,ah,ak,ae,af,ag,aj,isNil,Nat.reduceEqDiff,Nat.reduceAdd,Nat.reduceLT,Nat.reduceLeDiff,Int.reduceNeg,Int.reduceToNat,reduceCtorEq]
  have ek:V.val (.int .i64 ((k:Int)+1))=ak (k+1:Nat):=by simp[ak]
  refine IK (kv:=mr) (id:=mi at0) (c:=c') (b:=b) (m:=bE x (ak k) (cl at0) (mm at0)) (k:=x) (v:=ak (k+1:Nat)) (by simp (disch:=omega) only [↓wr,↓reduceIte,wq,ai,ah,ak,ae,af,ag,aj,isNil,Nat.reduceEqDiff,Nat.reduceAdd,Nat.reduceLT,Nat.reduceLeDiff,Int.reduceNeg,Int.reduceToNat,reduceCtorEq]) (by simp (disch:=omega) only [↓wr,↓reduceIte,wq,ai,ah,ak,ae,af,ag,aj,isNil,Nat.reduceEqDiff,Nat.reduceAdd,Nat.reduceLT,Nat.reduceLeDiff,Int.reduceNeg,Int.reduceToNat,reduceCtorEq]) (by simp (disch:=omega) only [↓wr,↓reduceIte,wq,ai,ah,ak,ae,af,ag,aj,isNil,Nat.reduceEqDiff,Nat.reduceAdd,Nat.reduceLT,Nat.reduceLeDiff,Int.reduceNeg,Int.reduceToNat,reduceCtorEq]; exact ek) (by simp[View.set,ak]) hb hbk fun c0=>?_
  simp (disch:=omega) only [↓wr,↓reduceIte,wq,ai,ah,ak,ae,af,ag,aj,isNil,Nat.reduceEqDiff,Nat.reduceAdd,Nat.reduceLT,Nat.reduceLeDiff,Int.reduceNeg,Int.reduceToNat,reduceCtorEq]
  refine ⟨JW (kv:=mr) hmt hz hkey hm1 hm2,?_⟩
  rw[set_set]
  have hcnt:FB (bE x (ak (k+1:Nat)) c0 (bE x (ak k) (cl at0) (mm at0))) (fb S at0 x at0) (B+1):=by
    simp only[fb,if_true]
    exact HN hm3 k (hk3.elim (fun h=>.inl ⟨h.1,h.2.1⟩) .inr) hk2 _
  have h2:=h.wrote ha (hb.Je hbk (ak (k+1:Nat)) c0) hcnt
  have hget:getM (bE x (ak (k+1:Nat)) c0 (bE x (ak k) (cl at0) (mm at0))) x=some (ak (k+1:Nat)):=by rw[nT]; simp
  simp only[ak] at h2 hget ⊢
  generalize bE x (.val (.int .i64 ((k+1:Nat):Int))) c0 (bE x (.val (.int .i64 (k:Int))) (cl at0) (mm at0))=m2 at h2 hget ⊢
  generalize View.set H (mi at0) (.map (bV mr m2) c')=H2 at h2 ⊢
  have ne1:c≠mi at0:=fun e=>by
    have:=h.box
    rw[e,hm1] at this; simp at this
  simp only[if_neg ne1,h.box]
  simp (disch:=omega) only [↓wr,↓reduceIte,wq,ai,ah,ak,ae,af,ag,aj,isNil,Nat.reduceEqDiff,Nat.reduceAdd,Nat.reduceLT,Nat.reduceLeDiff,Int.reduceNeg,Int.reduceToNat,reduceCtorEq,h2.box,h2.seen,dn ha]
  refine ⟨ha,by simp; omega,?_⟩
  have hm4:=(h2.map at0 ha).1
  simp only[if_true] at hm4
  refine HJ (kv:=mr) (kt:=95) (et:=3) (z:=gi 0) hmt hz hkey (id:=mi at0) (c:=c') (m:=m2) (k:=x) (by simp (disch:=omega) only [↓wr,↓reduceIte,wq,ai,ah,ak,ae,af,ag,aj,isNil,Nat.reduceEqDiff,Nat.reduceAdd,Nat.reduceLT,Nat.reduceLeDiff,Int.reduceNeg,Int.reduceToNat,reduceCtorEq]) (by simp (disch:=omega) only [↓wr,↓reduceIte,wq,ai,ah,ak,ae,af,ag,aj,isNil,Nat.reduceEqDiff,Nat.reduceAdd,Nat.reduceLT,Nat.reduceLeDiff,Int.reduceNeg,Int.reduceToNat,reduceCtorEq]; rfl) hm4 ?_
  rw[hget]
  simp (disch:=omega) only [↓wr,↓reduceIte,wq,ai,ah,ak,ae,af,ag,aj,isNil,Nat.reduceEqDiff,Nat.reduceAdd,Nat.reduceLT,Nat.reduceLeDiff,Int.reduceNeg,Int.reduceToNat,reduceCtorEq,Option.getD_some]
  refine an.eq (fun e=>?_) (fun e=>?_)
  · have hxs:¬ x∈S at0:=by
      rcases hk3 with h3 | h3
      · omega
      · exact h3.1
    simp (disch:=omega) only [↓wr,↓reduceIte,wq,ai,ah,ak,ae,af,ag,aj,isNil,Nat.reduceEqDiff,Nat.reduceAdd,Nat.reduceLT,Nat.reduceLeDiff,Int.reduceNeg,Int.reduceToNat,reduceCtorEq,h2.box,h2.eu,dn ha]
    refine ⟨ha,by simp; omega,fun b1 hb1=>?_⟩
    rw[dG]
    have h3:=h2.new hb1 (o:=.arr 3 [c7 x]) (by simp)
    simp only[c7,ak] at h3
    have hb3:=h3.off _ (List.mem_cons_self ..)
    generalize View.set H2 b1 _=H3 at h3 hb3 ⊢
    have ho:=h3.set at0 ha
    have hap:jm (.ptr c 0 6) (sv at0):=by
      rcases ho with ⟨_,k,e⟩ | ⟨m,e,hm⟩
      · rw[e]; trivial
      · rw[e]
        show c≠m
        rintro rfl
        have:=h3.box
        rw[hm] at this; simp at this
    simp (disch:=omega) only [↓wr,↓reduceIte,wq,ai,ah,ak,ae,af,ag,aj,isNil,Nat.reduceEqDiff,Nat.reduceAdd,Nat.reduceLT,Nat.reduceLeDiff,Int.reduceNeg,Int.reduceToNat,reduceCtorEq]
    refine ot ho (by simp) (by simp[V.cells,aN]) (by simp[aM]; omega) (by simp[aM]; omega) fun u' H' ho' hl'=>?_
    have hns:owner (sv at0)≠some sid:=fun e=>by
      have:=(ho.live e).1
      rw[h3.eu] at this; simp at this
    have hs':=(hl' sid (by rw[h3.eu]; simp) hns).1
    rw[h3.eu] at hs'
    simp (disch:=omega) only [↓wr,↓reduceIte,wq,ai,ah,ak,ae,af,ag,aj,isNil,Nat.reduceEqDiff,Nat.reduceAdd,Nat.reduceLT,Nat.reduceLeDiff,Int.reduceNeg,Int.reduceToNat,reduceCtorEq,hs',ho'.cells,ho'.r7,dn ha]
    refine ⟨ha,by simp; omega,hap,?_⟩
    have h4:=h3.I2 ha hxs (u':=u') ho' hl'
    exact Ch.drop ⟨_,_,_,_,_,_,h4⟩
  · have hxs:x∈S at0:=by
      rcases hk3 with h3 | h3
      · exact h3.1
      · omega
    simp (disch:=omega) only [↓wr,↓reduceIte,wq,ai,ah,ak,ae,af,ag,aj,isNil,Nat.reduceEqDiff,Nat.reduceAdd,Nat.reduceLT,Nat.reduceLeDiff,Int.reduceNeg,Int.reduceToNat,reduceCtorEq]
    have hS:fb S at0 x=S:=by
      funext b
      simp only[fb,if_pos hxs]
      split
      · rename_i e; rw[e]
      · rfl
    rw[hS] at h2 ⊢
    exact ⟨_,_,_,_,_,_,h2⟩
end Gv
set_option linter.unusedSimpArgs false
namespace Gv
open Go Go.Proofs
inductive yL (g:au) (p:List Int):Int→Nat→Prop
  | start:yL g p g.start 0
  | step (R:aZ) (l1 l2:List Int) (n:Int) (f a:Nat):R∈g.rules→R.right=l1 ++ (-1 - n) :: l2→yL g p R.left f→Sp g p l1 f a→yL g p n a
def DN (g:au) (p:List Int) (x:Item):Prop:=∃ R,g.rules[x.bq]?=some R∧yL g p R.left x.b8
inductive z7 (g:au) (p:List Int):Int→Nat→Prop
  | full (R:aZ) (l1 l2:List Int) (f:Nat):R∈g.rules→R.right=l1 ++ l2→Sp g p l1 f p.length→z7 g p R.left f
  | deep (R:aZ) (l1 l2:List Int) (s:Int) (f a:Nat):R∈g.rules→R.right=l1 ++ s :: l2→s < 0→Sp g p l1 f a→a < p.length→z7 g p (-1 - s) a→z7 g p R.left f
theorem yL.len {g:au} {p:List Int} {n:Int} {a:Nat} (h:yL g p n a):a≤p.length:=by
  induction h with
  | start=>omega
  | step _ _ _ _ _ _ _ _ _ hs ih=>exact hs.len ih
theorem Ij {l:List Int} {d:Nat} {s:Int} (h:l[d]?=some s):l=l.take d ++ s :: l.drop (d+1):=by
  have h1:=(List.getElem?_eq_some_iff.1 h)
  obtain ⟨hl,he⟩:=h1
  rw[← he]
  simp
theorem DN.ask {g:au} {p:List Int} {a:Nat} {x:Item} (h:DN g p x) (hs:Sound g p a x) {R:aZ} (hR:g.rules[x.bq]?=some R) {s:Int} (hd:R.right[x.dot]?=some s):yL g p (-1 - s) a:=by
  obtain ⟨R1,h1,h2⟩:=h
  obtain ⟨R2,h3,_,_,h4⟩:=hs
  rw[hR] at h1 h3; simp at h1 h3; subst h1; subst h3
  refine .step R (R.right.take x.dot) (R.right.drop (x.dot+1)) (-1 - s) x.b8 a (List.mem_of_getElem? hR) ?_ h2 h4
  rw[show -1 - (-1 - s)=s by omega]
  exact Ij hd
theorem Sp.cut {g:au} {p:List Int} {k:Nat} {l:List Int} {i j:Nat} (h:Sp g p l i j):j≤k→Sp g (p.take k) l i j:=by
  induction h with
  | nil i=>exact fun _=>.nil i
  | term s l i j h0 hf h ih =>
    intro hk
    have:=h.le
    obtain ⟨c,hc,h2⟩:=hf
    exact .term s l i j h0 ⟨c,by rw[List.getElem?_take,if_pos (by omega)]; exact hc,h2⟩ (ih hk)
  | bU s l R i m j h0 hR hl h1 h2 ih1 ih2 =>
    intro hk
    have:=h2.le
    exact .bU s l R i m j h0 hR hl (ih1 (by omega)) (ih2 hk)
end Gv
set_option linter.unusedSimpArgs false
set_option maxRecDepth 100000
namespace Gv
open Go Go.Proofs
def Grow (a:Nat) (S S':Nat→List Item):Prop:=∀ b,S b <+: S' b∧(b < a→S' b=S b)
structure Good (g:au) (p:List Int) (S:Nat→List Item):Prop where
  nodup:∀ a,(S a).Nodup
  sound:∀ a x,x∈S a→Sound g p a x
  top:∀ a x,x∈S a→DN g p x
  out:∀ a,p.length < a→S a=[]
theorem Grow.refl (a:Nat) (S:Nat→List Item):Grow a S S:=fun _=>⟨List.prefix_refl _,fun _=>rfl⟩
theorem Grow.trans {a:Nat} {S S' S'':Nat→List Item} (h:Grow a S S') (h':Grow a S' S''):Grow a S S'':=fun b=>⟨(h b).1.trans (h' b).1,fun hb=>((h' b).2 hb).trans ((h b).2 hb)⟩
theorem Grow.low {a a':Nat} {S S':Nat→List Item} (h:Grow a S S') (ha:a'≤a):Grow a' S S':=fun b=>⟨(h b).1,fun hb=>(h b).2 (by omega)⟩
theorem Grow.mem {a b:Nat} {S S':Nat→List Item} (h:Grow a S S') {x:Item} (hx:x∈S b):x∈S' b:=(h b).1.subset hx
theorem kV {a b:Nat} (S:Nat→List Item) (x:Item) (h:a≤b):Grow a S (fb S b x):=by
  intro d
  unfold fb
  constructor
  · split
    · rename_i e
      subst e
      split
      · exact List.prefix_refl _
      · exact List.prefix_append _ _
    · exact List.prefix_refl _
  · intro hd
    rw[if_neg (by omega)]
theorem tK (S:Nat→List Item) (a:Nat) (x:Item):x∈fb S a x a:=by
  unfold fb
  rw[if_pos rfl]
  split
  · assumption
  · simp
theorem Good.put {g:au} {p:List Int} {S:Nat→List Item} (h:Good g p S) {a:Nat} {x:Item} (hx:Sound g p a x) (ht:DN g p x) (ha:a≤p.length):Good g p (fb S a x):=by
  refine ⟨fun b=>?_,fun b y hy=>?_,fun b y hy=>?_,fun b hb=>?_⟩
  · unfold fb
    split
    · rename_i e
      subst e
      split
      · exact h.nodup _
      · rename_i hn
        rw[List.nodup_append]
        refine ⟨h.nodup _,by simp,fun u hu v hv=>?_⟩
        simp at hv
        rintro rfl
        exact hn (hv ▸ hu)
    · exact h.nodup _
  · unfold fb at hy
    split at hy
    · rename_i e
      subst e
      split at hy
      · exact h.sound _ _ hy
      · rcases List.mem_append.1 hy with hy | hy
        · exact h.sound _ _ hy
        · simp at hy; subst hy; exact hx
    · exact h.sound _ _ hy
  · unfold fb at hy
    split at hy
    · rename_i e
      subst e
      split at hy
      · exact h.top _ _ hy
      · rcases List.mem_append.1 hy with hy | hy
        · exact h.top _ _ hy
        · simp at hy; subst hy; exact ht
    · exact h.top _ _ hy
  · unfold fb
    rw[if_neg (by omega)]
    exact h.out b hb
theorem oV:∀ (N:Nat) (l:List Nat),l.Nodup→(∀ x∈l,x < N)→l.length≤N
  | 0,l,_,h=>by
    cases l with
    | nil=>simp
    | cons x l=>exact absurd (h x (by simp)) (by omega)
  | N+1,l,hd,h=>by
    by_cases e:N∈l
    · have h1:=oV N (l.erase N) (hd.erase N) fun x hx=>by
        have h2:=(hd.mem_erase_iff).1 hx
        have:=h x h2.2
        have:=h2.1
        omega
      rw[List.length_erase_of_mem e] at h1
      omega
    · have:=oV N l hd fun x hx=>by
        have:=h x hx
        have:x≠N:=by rintro rfl; exact e hx
        omega
      omega
theorem yG {α:Type} {f:α→Nat} : ∀ {l:List α},l.Nodup→(∀ x∈l,∀ y∈l,f x=f y→x=y)→(l.map f).Nodup
  | [],_,_=>by simp
  | x :: l,hd,h=>by
    rw[List.nodup_cons] at hd
    rw[List.map_cons,List.nodup_cons]
    refine ⟨fun hm=>?_,yG hd.2 fun a ha b hb=>h a (by simp[ha]) b (by simp[hb])⟩
    obtain ⟨y,hy,e⟩:=List.mem_map.1 hm
    have:=h y (by simp[hy]) x (by simp) e
    exact hd.1 (this ▸ hy)
theorem Sound.small {g:au} (hf:g.nB) {p:List Int} {a:Nat} {x:Item} (h:Sound g p a x):x.bq < 40∧x.dot < 7∧x.b8≤a:=by
  obtain ⟨R,hR,hd,hfr,_⟩:=h
  have h1:=(List.getElem?_eq_some_iff.1 hR).1
  have h2:=hf.rules
  have h3:=hf.right R (List.mem_of_getElem? hR)
  omega
theorem Good.len {g:au} (hf:g.nB) {p:List Int} (hp:p.length≤60) {S:Nat→List Item} (h:Good g p S) (a:Nat):(S a).length≤17080:=by
  by_cases ha:p.length < a
  · rw[h.out a ha]; simp
  · have hb:∀ x∈S a,x.bq < 40∧x.dot < 7∧x.b8 < 61:=fun x hx=>by
      have:=(h.sound a x hx).small hf
      omega
    have:=oV 17080 ((S a).map fun x=>x.bq * 427+x.dot * 61+x.b8) (yG (h.nodup a) fun x hx y hy e=>by
      have h1:=hb x hx
      have h2:=hb y hy
      cases x; cases y
      simp only at e h1 h2
      simp only[Item.mk.injEq]
      omega) (fun v hv=>by
      obtain ⟨x,hx,rfl⟩:=List.mem_map.1 hv
      have:=hb x hx
      omega)
    simpa using this
theorem Ch.box {H:View} {c:Nat} {g:au} {p:List Int} {nu:V} {S:Nat→List Item} {B n:Nat} {K:List (Nat × br)} (h:Ch H c g p nu S B n K) :
    ∃ sid mid,H c=.arr 8 [[.aY (g.aw.map cZ),encS g.aD,.aY (g.rules.map bj),gi g.start,encI p,nu,.sl sid 0 n 1,.sl mid 0 n 1]]:=by
  obtain ⟨sid,mid,sv,mi,mm,cl,h⟩:=h
  exact ⟨sid,mid,h.box⟩
theorem Ch.set {H:View} {c:Nat} {g:au} {p:List Int} {nu:V} {S:Nat→List Item} {B n:Nat} {K:List (Nat × br)} (h:Ch H c g p nu S B n K) {a:Nat} (ha:a < n) :
    ∃ (sid mid:Nat) (sv:Nat→V),H c=.arr 8 [[.aY (g.aw.map cZ),encS g.aD,.aY (g.rules.map bj),gi g.start,encI p,nu,.sl sid 0 n 1,.sl mid 0 n 1]]∧H sid=.arr 1 ((List.range n).map fun j=>[sv j])∧aV H (sv a) 3 ((S a).map c7):=by
  obtain ⟨sid,mid,sv,mi,mm,cl,h⟩:=h
  exact ⟨sid,mid,sv,h.box,h.eu,h.set a ha⟩
def gv:SC :=
  .seq (al [aK 15 .lss 14 13]) <|
  .seq (.cond (.tmp 15) (.skip) (.exit 0)) <|
  .seq (.block 1 (.seq (al [aa 16 14,aX 17 3 12 14,aO 18 3 17,((some 7),.op (.alloc [(.val (.int .i64 0)),(.emp 1),(.val (.int .i64 0))])),aa 6 16,(none,.op (.store 3 (.tmp 7) (.tmp 18)))]) <|
  .seq (al [aq 19 0 7,ao 20 19,aa 21 2,aK 22 .eql 20 21]) <|
  .cond (.tmp 22) (al [aa 23 0,aa 24 1,aa 25 6,aa 26 1,((some 27),.op (.build [(.val (.int .i64 0)),(.val (.int .i64 0)),(.val (.int .i64 0))] [(0,1,(.tmp 25)),(1,1,(.val (.val (.int .i64 0)))),(2,1,(.tmp 26))])),aF 28 100 [23,24,27]]) (.skip))) <|
  al [ax 29 .add 14 1,aa 14 29]
def il:SF:=⟨.seq (al [aa 8 0,bh 9 8,aq 10 0 9,aq 11 2 10,ao 12 11,aI 13 12,aG 14 0]) <|
  .block 0 (.loop gv),
  [],30⟩
theorem nd:aR Tryz.prog 55 []=some il:=by kernel_rfl
def fN:SC :=
  .seq (.seq (al [aa 11 8,aa 12 0,bh 13 12,aq 14 6 13,ao 15 14,aa 16 3,aX 17 1 15 16,ao 18 17,aI 19 18,aK 20 .lss 11 19]) <|
  .cond (.tmp 20) (.skip) (.exit 0)) <|
  .seq (.block 1 (.seq (al [aa 23 0,bh 24 23,aq 25 6 24,ao 26 25,aa 27 3,aX 28 1 26 27,ao 29 28,aa 30 8,aX 31 3 29 30,aO 32 3 31,((some 9),.op (.alloc [(.val (.int .i64 0)),(.val (.int .i64 0)),(.val (.int .i64 0))])),(none,.op (.store 3 (.tmp 9) (.tmp 32)))]) <|
  .seq (al [aa 33 0,bh 34 33,aq 35 0 34,aq 36 2 35,ao 37 36,aq 38 0 9,ao 39 38,aX 40 3 37 39,aq 41 1 40,ao 42 41,aa 10 42]) <|
  .seq (.region false [⟨none,[aq 43 1 9,ao 44 43,aa 45 10,aI 46 45,aK 47 .lss 44 46,aa 48 47]⟩,⟨(some (48,true)),[aa 49 10,aq 50 1 9,ao 51 50,aX 52 1 49 51,ao 53 52,aa 54 2,((some 55),.op (.arith .sub (.val (.val (.int .i64 (-1)))) (.tmp 54))),aK 56 .eql 53 55]⟩,⟨none,[bk 57 48 56]⟩]) <|
  .cond (.tmp 57) (al [aa 58 0,aa 59 1,aq 60 0 9,ao 61 60,aq 62 1 9,ao 63 62,ax 64 .add 63 1,aq 65 2 9,ao 66 65,((some 67),.op (.build [(.val (.int .i64 0)),(.val (.int .i64 0)),(.val (.int .i64 0))] [(0,1,(.tmp 61)),(1,1,(.tmp 64)),(2,1,(.tmp 66))])),aF 68 100 [58,59,67]]) (.skip))) <|
  al [aa 21 8,ax 22 .add 21 1,aa 8 22]
def hD:SF:=⟨.seq (al [aG 8 0]) <|
  .block 0 (.loop fN),
  [],69⟩
theorem mq:aR Tryz.prog 101 []=some hD:=by kernel_rfl
def kx:SF:=⟨.seq (al [b7 5 2]) <|
  .seq (al [aa 9 0,bh 10 9,aq 11 0 10,aq 12 2 11,ao 13 12,aq 14 0 5,ao 15 14,aX 16 3 13 15,aO 17 3 16,((some 6),.op (.alloc [(.val (.int .i64 0)),(.emp 1),(.val (.int .i64 0))])),(none,.op (.store 3 (.tmp 6) (.tmp 17)))]) <|
  .seq (.seq (al [aq 18 1 5,ao 19 18,aq 20 1 6,ao 21 20,aI 22 21,aK 23 .eql 19 22]) <|
  .cond (.tmp 23) (.seq (al [aa 24 0,aa 25 1,aq 26 0 6,ao 27 26,aq 28 2 5,ao 29 28,aF 30 101 [24,25,27,29]]) <|
  .ret) (.skip)) <|
  .seq (al [aq 31 0 5,ao 32 31,aq 33 1 5,ao 34 33,ax 35 .add 34 1,aq 36 2 5,ao 37 36,((some 38),.op (.build [(.val (.int .i64 0)),(.val (.int .i64 0)),(.val (.int .i64 0))] [(0,1,(.tmp 32)),(1,1,(.tmp 35)),(2,1,(.tmp 37))])),((some 7),.op (.alloc [(.val (.int .i64 0)),(.val (.int .i64 0)),(.val (.int .i64 0))])),(none,.op (.store 3 (.tmp 7) (.tmp 38)))]) <|
  .seq (al [aq 39 1 6,ao 40 39,aq 41 1 5,ao 42 41,aX 43 1 40 42,ao 44 43,aa 8 44]) <|
  .seq (.block 0 (.seq (al [aa 46 8,ax 47 .geq 46 0,aa 45 47]) <|
  .cond (.tmp 45) (.seq (.seq (.region false [⟨none,[aa 48 1,aa 49 0,bh 50 49,aq 51 4 50,ao 52 51,aI 53 52,aK 54 .lss 48 53,aa 55 54]⟩,⟨(some (55,true)),[aa 56 0,bh 57 56,aq 58 4 57,ao 59 58,aa 60 1,aX 61 1 59 60,ao 62 61,aa 63 8,aK 64 .eql 62 63,aa 65 64]⟩,⟨(some (65,false)),[aa 66 0,bh 67 66,aq 68 4 67,ao 69 68,aa 70 1,aX 71 1 69 70,ao 72 71,ax 73 .eql 72 (-1)]⟩,⟨(some (55,true)),[bf 74 65 73]⟩,⟨none,[bk 75 55 74]⟩]) <|
  .cond (.tmp 75) (al [aa 76 0,aa 77 1,ax 78 .add 77 1,aO 79 3 7,aF 80 100 [76,78,79]]) (.skip)) <|
  .ret) (.seq (al [aa 82 0,bh 83 82,aq 84 5 83,ao 85 84,aa 86 8,((some 87),.op (.arith .sub (.val (.val (.int .i64 (-1)))) (.tmp 86))),aX 88 1 85 87,ao 89 88,aa 81 89]) <|
  .cond (.tmp 81) (al [aa 90 0,aa 91 1,aO 92 3 7,aF 93 100 [90,91,92]]) (.skip)))) <|
  al [aa 94 0,aa 95 1,aa 96 8,((some 97),.op (.arith .sub (.val (.val (.int .i64 (-1)))) (.tmp 96))),aF 98 55 [94,95,97]],
  [],99⟩
theorem pn:aR Tryz.prog 56 [5]=some kx:=by kernel_rfl
set_option maxHeartbeats 4000000 in
theorem rN (c:Nat) (g:au) (hf:g.nB) (p:List Int) (hp:p.length≤60) (nu:V) (S:Nat→List Item) (B at0:Nat) (K:List (Nat × br)) (H:View) (hC:Ch H c g p nu S B (p.length+1) K) (hG:Good g p S) (ha:at0≤p.length) (hB:B+40 < 1000000000000)
    (bU:Int) (hT:yL g p bU at0):aB Tryz.prog 55 [.ptr c 0 0,ak at0,gi bU] H fun _ H'=>∃ S',Ch H' c g p nu S' (B+40) (p.length+1) K∧Good g p S'∧Grow at0 S S'∧∀ i R,g.rules[i]?=some R→R.left=bU→(⟨i,0,at0⟩:Item)∈S' at0:=by
  have hr40:=hf.rules
  refine aB.of mixed nd ?_
  obtain ⟨sid,mid,hbox⟩:=hC.box
  simp (disch:=omega) only [↓wr,↓reduceIte,wq,ai,ah,ak,ae,af,ag,aj,isNil,Nat.reduceEqDiff,Nat.reduceAdd,Nat.reduceLT,Nat.reduceLeDiff,Int.reduceNeg,Int.reduceToNat,reduceCtorEq,il,hbox]
  refine bo.up g.rules.length (fun i T' H'=>(∃ S',Ch H' c g p nu S' (B+i) (p.length+1) K∧Good g p S'∧Grow at0 S S'∧∀ j R,j < i→g.rules[j]?=some R→R.left=bU→(⟨j,0,at0⟩:Item)∈S' at0)∧T' 0=.ptr c 0 0∧T' 1=ak at0∧T' 2=gi bU∧T' 12=.aY (g.rules.map bj)∧T' 13=ak g.rules.length∧T' 14=ak i) ?_ ?_
  · exact ⟨⟨S,hC,hG,.refl _ _,fun j R hj=>by omega⟩,rfl,rfl,rfl,rfl,rfl,rfl⟩
  clear hbox hC hG
  rintro i k T' H' hk ⟨⟨S1,hC,hG,hgr,hall⟩,t0,t1,t2,t12,t13,t14⟩
  simp (disch:=omega) only [↓wr,↓reduceIte,wq,ai,ah,ak,ae,af,ag,aj,isNil,Nat.reduceEqDiff,Nat.reduceAdd,Nat.reduceLT,Nat.reduceLeDiff,Int.reduceNeg,Int.reduceToNat,reduceCtorEq,gv,t0,t1,t2,t12,t13,t14]
  refine an.dec (fun hc=>?_) (fun hc=>?_)
  · have hg2:g.rules[i]?=some (g.rules[i]'(by omega)):=List.getElem?_eq_getElem (by omega)
    have hmem:g.rules[i]'(by omega)∈g.rules:=List.getElem_mem _
    generalize g.rules[i]'(by omega)=R at hg2 hmem
    simp (disch:=omega) only [↓wr,↓reduceIte,wq,ai,ah,ak,ae,af,ag,aj,isNil,Nat.reduceEqDiff,Nat.reduceAdd,Nat.reduceLT,Nat.reduceLeDiff,Int.reduceNeg,Int.reduceToNat,reduceCtorEq,t0,t1,t2,t12,t13,t14,bj,encI,List.getElem?_map,hg2]
    intro b hb
    rw[set_set]
    have hC2:=hC.new hb (o:=.arr 3 [[gi R.left,.aY (R.right.map fun x=>[gi x]),gi R.prec]]) (by simp)
    generalize View.set H' b _=H2 at hC2 ⊢
    have hln:=hG.len hf hp at0
    refine an.eq (fun e=>?_) (fun e=>?_)
    · simp (disch:=omega) only [↓wr,↓reduceIte,wq,ai,ah,ak,ae,af,ag,aj,isNil,Nat.reduceEqDiff,Nat.reduceAdd,Nat.reduceLT,Nat.reduceLeDiff,Int.reduceNeg,Int.reduceToNat,reduceCtorEq,t0,t1]
      refine az.dg ((vQ c g p nu S1 (B+i) (p.length+1) at0 ⟨i,0,at0⟩ _ _ hC2 (by omega) (by omega) (by omega) (by omega) ⟨by simp; omega,by simp,by simp; omega⟩).mono ?_)
      intro r H3 hC3
      simp (disch:=omega) only [↓wr,↓reduceIte,wq,ai,ah,ak,ae,af,ag,aj,isNil,Nat.reduceEqDiff,Nat.reduceAdd,Nat.reduceLT,Nat.reduceLeDiff,Int.reduceNeg,Int.reduceToNat,reduceCtorEq,t14]
      have hsd:Sound g p at0 ⟨i,0,at0⟩:=⟨R,hg2,by simp,by simp,by simp; exact .nil _⟩
      refine bb hk (by omega) ⟨⟨_,hC3.drop,hG.put hsd ⟨R,hg2,e ▸ hT⟩ ha,hgr.trans (kV S1 _ (Nat.le_refl _)),fun j Q hj hQ hl=>?_⟩,t0,t1,t2,t12,t13,rfl⟩
      by_cases e2:j=i
      · subst e2; exact tK _ _ _
      · exact (kV S1 _ (Nat.le_refl at0)).mem (hall j Q (by omega) hQ hl)
    · simp (disch:=omega) only [↓wr,↓reduceIte,wq,ai,ah,ak,ae,af,ag,aj,isNil,Nat.reduceEqDiff,Nat.reduceAdd,Nat.reduceLT,Nat.reduceLeDiff,Int.reduceNeg,Int.reduceToNat,reduceCtorEq,t14]
      refine bb hk (by omega) ⟨⟨S1,hC2.drop.more (by omega),hG,hgr,fun j Q hj hQ hl=>?_⟩,t0,t1,t2,t12,t13,rfl⟩
      by_cases e2:j=i
      · subst e2
        rw[hg2] at hQ; simp at hQ; subst hQ
        exact absurd hl e
      · exact hall j Q (by omega) hQ hl
  · simp (disch:=omega) only [↓wr,↓reduceIte,wq,ai,ah,ak,ae,af,ag,aj,isNil,Nat.reduceEqDiff,Nat.reduceAdd,Nat.reduceLT,Nat.reduceLeDiff,Int.reduceNeg,Int.reduceToNat,reduceCtorEq]
    exact ⟨S1,hC.more (by omega),hG,hgr,fun i R hR hl=>hall i R (by have:=(List.getElem?_eq_some_iff.1 hR).1; omega) hR hl⟩
def Dw (g:au) (bU:Int) (S:Nat→List Item) (at_:Nat) (x:Item):Prop:=∀ R,g.rules[x.bq]?=some R→R.right[x.dot]?=some (-1 - bU)→(⟨x.bq,x.dot+1,x.b8⟩:Item)∈S at_
theorem Sound.on {g:au} {p:List Int} {f a:Nat} {x:Item} (h:Sound g p f x) {R:aZ} (hR:g.rules[x.bq]?=some R) {s:Int} (hs:R.right[x.dot]?=some s) (hsp:Sp g p [s] f a):Sound g p a ⟨x.bq,x.dot+1,x.b8⟩:=by
  obtain ⟨R',hR',h1,h2,h3⟩:=h
  rw[hR] at hR'; simp at hR'; subst hR'
  have hlt:=(List.getElem?_eq_some_iff.1 hs).1
  refine ⟨R,hR,hlt,Nat.le_trans h2 hsp.le,?_⟩
  have:R.right.take (x.dot+1)=R.right.take x.dot ++ [s]:=by rw[List.take_add_one,hs]; rfl
  rw[this]
  exact h3.app hsp
set_option maxHeartbeats 4000000 in
theorem BA (c:Nat) (g:au) (hf:g.nB) (p:List Int) (hp:p.length≤60) (nu:V) (S:Nat→List Item) (B at0 fr:Nat) (K:List (Nat × br)) (H:View) (hC:Ch H c g p nu S B (p.length+1) K) (hG:Good g p S) (ha:at0≤p.length) (hfr:fr≤at0) (hB:B+17080 < 1000000000000)
    (bU:Int) (hn:0≤bU∧bU < 1000) (hsp:Sp g p [-1 - bU] fr at0):aB Tryz.prog 101 [.ptr c 0 0,ak at0,gi bU,ak fr] H fun _ H'=>∃ S',Ch H' c g p nu S' (B+17080) (p.length+1) K∧Good g p S'∧Grow at0 S S'∧∀ x∈S' fr,Dw g bU S' at0 x:=by
  have hr40:=hf.rules
  refine aB.of mixed mq ?_
  simp (disch:=omega) only [↓wr,↓reduceIte,wq,ai,ah,ak,ae,af,ag,aj,isNil,Nat.reduceEqDiff,Nat.reduceAdd,Nat.reduceLT,Nat.reduceLeDiff,Int.reduceNeg,Int.reduceToNat,reduceCtorEq,hD]
  refine bo.up 17080 (fun i T' H'=>(∃ S',Ch H' c g p nu S' (B+i) (p.length+1) K∧Good g p S'∧Grow at0 S S'∧i≤(S' fr).length∧∀ x∈(S' fr).take i,Dw g bU S' at0 x)∧T' 0=.ptr c 0 0∧T' 1=ak at0∧T' 2=gi bU∧T' 3=ak fr∧T' 8=ak i) ?_ ?_
  · exact ⟨⟨S,hC,hG,.refl _ _,Nat.zero_le _,fun x hx=>by simp at hx⟩,rfl,rfl,rfl,rfl,rfl⟩
  clear hC hG
  rintro i k T' H' hk ⟨⟨S1,hC,hG,hgr,hil,hall⟩,t0,t1,t2,t3,t8⟩
  obtain ⟨sid,mid,sv,hbox,hsets,ho⟩:=hC.set (a:=fr) (by omega)
  have hfl:fr < p.length+1:=by omega
  simp (disch:=omega) only [↓wr,↓reduceIte,wq,ai,ah,ak,ae,af,ag,aj,isNil,Nat.reduceEqDiff,Nat.reduceAdd,Nat.reduceLT,Nat.reduceLeDiff,Int.reduceNeg,Int.reduceToNat,reduceCtorEq,fN,t0,t1,t2,t3,t8,hbox,hsets,dn hfl,ho.len]
  refine ⟨by omega,by simp; omega,?_⟩
  refine an.dec (fun hc=>?_) (fun hc=>?_)
  · obtain ⟨m,hsv,hm⟩:=ho.sl (by simp; omega)
    have hxi:(S1 fr)[i]?=some ((S1 fr)[i]'(by omega)):=List.getElem?_eq_getElem (by omega)
    have hxm:(S1 fr)[i]'(by omega)∈S1 fr:=List.getElem_mem _
    have htk:(S1 fr).take (i+1)=(S1 fr).take i ++ [(S1 fr)[i]'(by omega)]:=by rw[List.take_add_one,hxi]; rfl
    generalize (S1 fr)[i]'(by omega)=x at hxi hxm htk
    have hgx:((S1 fr).map c7).getD i []=[ak x.bq,ak x.dot,ak x.b8]:=by simp[List.getD_eq_getElem?_getD,hxi,c7]
    have hxs:=hG.sound _ _ hxm
    have hsm:=hxs.small hf
    have hxs0:=hxs
    obtain ⟨R,hR,hdl,hff,hxsp⟩:=hxs
    simp (disch:=omega) only [↓wr,↓reduceIte,wq,ai,ah,ak,ae,af,ag,aj,isNil,Nat.reduceEqDiff,Nat.reduceAdd,Nat.reduceLT,Nat.reduceLeDiff,Int.reduceNeg,Int.reduceToNat,reduceCtorEq,t0,t1,t2,t3,t8,hbox,hsets,dn hfl,hsv,hm,hgx]
    refine ⟨hfl,by simp; omega,by omega,by omega,fun b hb=>?_⟩
    have hcb:c≠b:=by rintro rfl; rw[hbox] at hb; simp at hb
    simp only[if_neg hcb]
    rw[set_set]
    have hC2:=hC.new hb (o:=.arr 3 [[.val (.int .i64 x.bq),.val (.int .i64 x.dot),.val (.int .i64 x.b8)]]) (by simp)
    generalize View.set H' b _=H2 at hC2 ⊢
    have hb2:=hC2.kept _ (List.mem_cons_self ..)
    simp only at hb2
    have hmem:=List.mem_of_getElem? hR
    have hrl:=hf.right R hmem
    simp (disch:=omega) only [↓wr,↓reduceIte,wq,ai,ah,ak,ae,af,ag,aj,isNil,Nat.reduceEqDiff,Nat.reduceAdd,Nat.reduceLT,Nat.reduceLeDiff,Int.reduceNeg,Int.reduceToNat,reduceCtorEq,t0,t1,t2,t3,t8,hb2,bj,encI,List.getElem?_map,hR]
    have hkeep:∀ S2,Grow at0 S1 S2→(∀ R',g.rules[x.bq]?=some R'→R'.right[x.dot]?=some (-1 - bU)→(⟨x.bq,x.dot+1,x.b8⟩:Item)∈S2 at0)→i+1≤(S2 fr).length∧∀ y∈(S2 fr).take (i+1),Dw g bU S2 at0 y:=by
      intro S2 hg2 hx2
      obtain ⟨t,ht⟩:=(hg2 fr).1
      refine ⟨by rw[← ht]; simp; omega,?_⟩
      rw[← ht,List.take_append_of_le_length (by omega),htk]
      intro y hy
      rcases List.mem_append.1 hy with hy | hy
      · exact fun R' h1 h2=>hg2.mem (hall y hy R' h1 h2)
      · simp at hy; subst hy; exact hx2
    have hlf:=hG.len hf hp fr
    have hla:=hG.len hf hp at0
    refine an.dec (fun h1=>?_) (fun h1=>?_)
    · have hs:R.right[x.dot]?=some (R.right[x.dot]'(by omega)):=List.getElem?_eq_getElem (by omega)
      generalize R.right[x.dot]'(by omega)=s at hs
      simp (disch:=omega) only [↓wr,↓reduceIte,wq,ai,ah,ak,ae,af,ag,aj,isNil,Nat.reduceEqDiff,Nat.reduceAdd,Nat.reduceLT,Nat.reduceLeDiff,Int.reduceNeg,Int.reduceToNat,reduceCtorEq,t0,t1,t2,t3,t8,hb2,hs,List.getElem?_map]
      refine an.eq (fun e=>?_) (fun e=>?_)
      · simp (disch:=omega) only [↓wr,↓reduceIte,wq,ai,ah,ak,ae,af,ag,aj,isNil,Nat.reduceEqDiff,Nat.reduceAdd,Nat.reduceLT,Nat.reduceLeDiff,Int.reduceNeg,Int.reduceToNat,reduceCtorEq,t0,t1,t2,t3,t8,hb2]
        have hsd:Sound g p at0 ⟨x.bq,x.dot+1,x.b8⟩:=hxs0.on hR hs (e ▸ hsp)
        have hsm2:=hsd.small hf
        simp only at hsm2
        refine az.dg ((vQ c g p nu S1 (B+i) (p.length+1) at0 ⟨x.bq,x.dot+1,x.b8⟩ _ _ hC2 (by omega) (by omega) (by omega) (by omega) ⟨by simp; omega,by simp; omega,by simp; omega⟩).mono ?_)
        intro r H3 hC3
        simp (disch:=omega) only [↓wr,↓reduceIte,wq,ai,ah,ak,ae,af,ag,aj,isNil,Nat.reduceEqDiff,Nat.reduceAdd,Nat.reduceLT,Nat.reduceLeDiff,Int.reduceNeg,Int.reduceToNat,reduceCtorEq,t8]
        obtain ⟨k1,k2⟩:=hkeep _ (kV S1 _ (Nat.le_refl _)) (fun R' _ _=>tK _ _ _)
        exact bb hk (by omega) ⟨⟨_,hC3.drop,hG.put hsd (hG.top _ x hxm) ha,hgr.trans (kV S1 _ (Nat.le_refl _)),k1,k2⟩,t0,t1,t2,t3,rfl⟩
      · simp (disch:=omega) only [↓wr,↓reduceIte,wq,ai,ah,ak,ae,af,ag,aj,isNil,Nat.reduceEqDiff,Nat.reduceAdd,Nat.reduceLT,Nat.reduceLeDiff,Int.reduceNeg,Int.reduceToNat,reduceCtorEq,t8]
        obtain ⟨k1,k2⟩:=hkeep _ (.refl _ _) (fun R' h2 h3=>by
          rw[hR] at h2; simp at h2; subst h2
          rw[hs] at h3; simp at h3
          exact absurd h3 e)
        exact bb hk (by omega) ⟨⟨_,hC2.drop.more (by omega),hG,hgr,k1,k2⟩,t0,t1,t2,t3,rfl⟩
    · simp (disch:=omega) only [↓wr,↓reduceIte,wq,ai,ah,ak,ae,af,ag,aj,isNil,Nat.reduceEqDiff,Nat.reduceAdd,Nat.reduceLT,Nat.reduceLeDiff,Int.reduceNeg,Int.reduceToNat,reduceCtorEq,t8]
      obtain ⟨k1,k2⟩:=hkeep _ (.refl _ _) (fun R' h2 h3=>by
        rw[hR] at h2; simp at h2; subst h2
        have:=(List.getElem?_eq_some_iff.1 h3).1
        omega)
      exact bb hk (by omega) ⟨⟨_,hC2.drop.more (by omega),hG,hgr,k1,k2⟩,t0,t1,t2,t3,rfl⟩
  · simp (disch:=omega) only [↓wr,↓reduceIte,wq,ai,ah,ak,ae,af,ag,aj,isNil,Nat.reduceEqDiff,Nat.reduceAdd,Nat.reduceLT,Nat.reduceLeDiff,Int.reduceNeg,Int.reduceToNat,reduceCtorEq]
    have hil2:i=(S1 fr).length:=by omega
    rw[hil2,List.take_length] at hall
    exact ⟨S1,hC.more (by have:=hG.len hf hp fr; omega),hG,hgr,hall⟩
structure ry (g:au) (p:List Int) (S:Nat→List Item) (a:Nat) (x:Item):Prop where
  term:∀ R s,g.rules[x.bq]?=some R→R.right[x.dot]?=some s→0≤s→fc p a s→(⟨x.bq,x.dot+1,x.b8⟩:Item)∈S (a+1)
  pred:∀ R s i R',g.rules[x.bq]?=some R→R.right[x.dot]?=some s→s < 0→g.rules[i]?=some R'→R'.left = -1 - s→(⟨i,0,a⟩:Item)∈S a
  null:∀ R s,g.rules[x.bq]?=some R→R.right[x.dot]?=some s→s < 0→(aH g false).getD (-1 - s).toNat false=true→(⟨x.bq,x.dot+1,x.b8⟩:Item)∈S a
  comp:∀ R,g.rules[x.bq]?=some R→x.dot=R.right.length→x.b8 < a→∀ y∈S x.b8,Dw g R.left S a y
theorem ry.grow {g:au} {p:List Int} {S S':Nat→List Item} {a:Nat} {x:Item} (h:ry g p S a x) (hg:Grow a S S'):ry g p S' a x where
  term:=fun R s h1 h2 h3 h4=>hg.mem (h.term R s h1 h2 h3 h4)
  pred:=fun R s i R' h1 h2 h3 h4 h5=>hg.mem (h.pred R s i R' h1 h2 h3 h4 h5)
  null:=fun R s h1 h2 h3 h4=>hg.mem (h.null R s h1 h2 h3 h4)
  comp:=fun R h1 h2 h3 y hy R' h4 h5=>hg.mem (h.comp R h1 h2 h3 y (by rw[(hg x.b8).2 h3] at hy; exact hy) R' h4 h5)
set_option maxHeartbeats 4000000 in
theorem HV (c:Nat) (g:au) (hr:aT g=true) (p:List Int) (hp:p.length≤60) (S:Nat→List Item) (B at0:Nat) (x:Item) (K:List (Nat × br)) (H:View) (hC:Ch H c g p (cE (aH g false)) S B (p.length+1) K) (hG:Good g p S) (ha:at0≤p.length) (hB:B+17200 < 1000000000000)
    (hx:x∈S at0):aB Tryz.prog 56 [.ptr c 0 0,ak at0,.agg (c7 x)] H fun _ H'=>∃ S',Ch H' c g p (cE (aH g false)) S' (B+17200) (p.length+1) K∧Good g p S'∧Grow at0 S S'∧ry g p S' at0 x:=by
  have hf:=bt hr
  have hxs:=hG.sound _ _ hx
  have hsm:=hxs.small hf
  have hxs0:=hxs
  obtain ⟨R,hR,hdl,hff,hxsp⟩:=hxs
  have hmem:=List.mem_of_getElem? hR
  have hrl:=hf.right R hmem
  have hlf:=hf.left R hmem
  have hns:=hf.aD
  obtain ⟨sid,mid,hbox⟩:=hC.box
  refine aB.of mixed pn ?_
  simp (disch:=omega) only [↓wr,↓reduceIte,wq,ai,ah,ak,ae,af,ag,aj,isNil,Nat.reduceEqDiff,Nat.reduceAdd,Nat.reduceLT,Nat.reduceLeDiff,Int.reduceNeg,Int.reduceToNat,reduceCtorEq,kx,c7,hbox,bj,encI,List.getElem?_map,hR]
  refine fun b hb=>?_
  rw[set_set]
  have hC2:=hC.new hb (o:=.arr 3 [[gi R.left,.aY (R.right.map fun x=>[gi x]),gi R.prec]]) (by simp)
  generalize View.set H b _=H2 at hC2 ⊢
  have hb2:=hC2.kept _ (List.mem_cons_self ..)
  simp only at hb2
  refine an.eq (fun e=>?_) (fun e=>?_)
  · have e2:x.dot=R.right.length:=by omega
    have hsp:Sp g p [-1 - R.left] x.b8 at0:=by
      rw[e2,List.take_length] at hxsp
      exact .bU _ _ R x.b8 at0 at0 (by omega) hmem (by omega) hxsp (.nil _)
    simp (disch:=omega) only [↓wr,↓reduceIte,wq,ai,ah,ak,ae,af,ag,aj,isNil,Nat.reduceEqDiff,Nat.reduceAdd,Nat.reduceLT,Nat.reduceLeDiff,Int.reduceNeg,Int.reduceToNat,reduceCtorEq,hb2]
    refine az.dg ((BA c g hf p hp _ S B at0 x.b8 _ _ hC2 hG ha hff (by omega) R.left (by omega) hsp).mono ?_)
    rintro r H3 ⟨S1,hC3,hG1,hgr,hw⟩
    simp (disch:=omega) only [↓wr,↓reduceIte,wq,ai,ah,ak,ae,af,ag,aj,isNil,Nat.reduceEqDiff,Nat.reduceAdd,Nat.reduceLT,Nat.reduceLeDiff,Int.reduceNeg,Int.reduceToNat,reduceCtorEq]
    refine ⟨S1,hC3.drop.more (by omega),hG1,hgr,⟨fun R' s h1 h2 h3 h4=>?_,fun R' s i Q h1 h2=>?_,fun R' s h1 h2=>?_,fun R' h1 h2 h3=>?_⟩⟩
    · rw[hR] at h1; simp at h1; subst h1
      have:=(List.getElem?_eq_some_iff.1 h2).1
      omega
    · rw[hR] at h1; simp at h1; subst h1
      have:=(List.getElem?_eq_some_iff.1 h2).1
      omega
    · rw[hR] at h1; simp at h1; subst h1
      have:=(List.getElem?_eq_some_iff.1 h2).1
      omega
    · rw[hR] at h1; simp at h1; subst h1
      exact hw
  · have hlt:x.dot < R.right.length:=by omega
    have hs:R.right[x.dot]?=some (R.right[x.dot]'(by omega)):=List.getElem?_eq_getElem (by omega)
    generalize R.right[x.dot]'(by omega)=s at hs
    simp (disch:=omega) only [↓wr,↓reduceIte,wq,ai,ah,ak,ae,af,ag,aj,isNil,Nat.reduceEqDiff,Nat.reduceAdd,Nat.reduceLT,Nat.reduceLeDiff,Int.reduceNeg,Int.reduceToNat,reduceCtorEq,hb2]
    refine fun b3 hb3=>?_
    rw[set_set]
    have hC3:=hC2.new hb3 (o:=.arr 3 [[.val (.int .i64 x.bq),.val (.int .i64 (x.dot+1)),.val (.int .i64 x.b8)]]) (by simp)
    have hbb:b≠b3:=by rintro rfl; rw[hb2] at hb3; simp at hb3
    simp only[if_neg hbb]
    generalize View.set H2 b3 _=H3 at hC3 ⊢
    have hb4:=hC3.kept _ (List.mem_cons_self ..)
    simp only at hb4
    obtain ⟨sid3,mid3,hbox3⟩:=hC3.box
    have hb5:=hC3.kept (b,_) (List.mem_cons_of_mem _ (List.mem_cons_self ..))
    simp only at hb5
    have hsym:=fun hn:s < 0=>hf.neg hmem (List.mem_of_getElem? hs) hn
    have hla:=hG.len hf hp at0
    simp (disch:=omega) only [↓wr,↓reduceIte,wq,ai,ah,ak,ae,af,ag,aj,isNil,Nat.reduceEqDiff,Nat.reduceAdd,Nat.reduceLT,Nat.reduceLeDiff,Int.reduceNeg,Int.reduceToNat,reduceCtorEq,hb2,hs,List.getElem?_map]
    have hdone:∀ S1:Nat→List Item,(0≤s→fc p at0 s→(⟨x.bq,x.dot+1,x.b8⟩:Item)∈S1 (at0+1))→(s < 0→∀ i R',g.rules[i]?=some R'→R'.left = -1 - s→(⟨i,0,at0⟩:Item)∈S1 at0) →
        (s < 0→(aH g false).getD (-1 - s).toNat false=true→(⟨x.bq,x.dot+1,x.b8⟩:Item)∈S1 at0)→ry g p S1 at0 x:=by
      intro S1 k1 k2 k3
      refine ⟨fun R' s' h1 h2 h3 h4=>?_,fun R' s' i Q h1 h2 h3 h4 h5=>?_,fun R' s' h1 h2 h3 h4=>?_,fun R' h1 h2 h3=>?_⟩
      · rw[hR] at h1; simp at h1; subst h1
        rw[hs] at h2; simp at h2; subst h2
        exact k1 h3 h4
      · rw[hR] at h1; simp at h1; subst h1
        rw[hs] at h2; simp at h2; subst h2
        exact k2 h3 i Q h4 h5
      · rw[hR] at h1; simp at h1; subst h1
        rw[hs] at h2; simp at h2; subst h2
        exact k3 h3 h4
      · rw[hR] at h1; simp at h1; subst h1
        omega
    have hla1:=hG.len hf hp (at0+1)
    refine an.dec (fun h0=>?_) (fun h0=>?_)
    · have hput:fc p at0 s→at0 < p.length→aB Tryz.prog 100 [.ptr c 0 0,ak (at0+1),.agg (c7 ⟨x.bq,x.dot+1,x.b8⟩)] H3 fun _ H'=>∃ S',Ch H' c g p (cE (aH g false)) S' (B+17200) (p.length+1) K∧Good g p S'∧Grow at0 S S'∧ry g p S' at0 x:=by
        intro hfit hap
        have hsd:Sound g p (at0+1) ⟨x.bq,x.dot+1,x.b8⟩:=hxs0.on hR hs (.term s [] at0 (at0+1) h0 hfit (.nil _))
        refine (vQ c g p _ S B (p.length+1) (at0+1) ⟨x.bq,x.dot+1,x.b8⟩ _ _ hC3 (by omega) (by omega) (by omega) (by omega) ⟨by simp; omega,by simp; omega,by simp; omega⟩).mono fun r H4 hC4=>?_
        exact ⟨_,hC4.drop.drop.more (by omega),hG.put hsd (hG.top _ x hx) (by omega),kV S _ (by omega),hdone _ (fun _ _=>tK _ _ _) (fun h=>by omega) (fun h=>by omega)⟩
      simp (disch:=omega) only [↓wr,↓reduceIte,wq,ai,ah,ak,ae,af,ag,aj,isNil,Nat.reduceEqDiff,Nat.reduceAdd,Nat.reduceLT,Nat.reduceLeDiff,Int.reduceNeg,Int.reduceToNat,reduceCtorEq,hbox3,encI]
      refine an.dec (fun h1=>?_) (fun h1=>?_)
      · have hpc:p[at0]?=some (p[at0]'(by omega)):=List.getElem?_eq_getElem (by omega)
        generalize p[at0]'(by omega)=pc at hpc
        simp (disch:=omega) only [↓wr,↓reduceIte,wq,ai,ah,ak,ae,af,ag,aj,isNil,Nat.reduceEqDiff,Nat.reduceAdd,Nat.reduceLT,Nat.reduceLeDiff,Int.reduceNeg,Int.reduceToNat,reduceCtorEq,hbox3,encI,hpc,List.getElem?_map]
        refine an.eq (fun e1=>?_) (fun e1=>?_)
        · simp (disch:=omega) only [↓wr,↓reduceIte,wq,ai,ah,ak,ae,af,ag,aj,isNil,Nat.reduceEqDiff,Nat.reduceAdd,Nat.reduceLT,Nat.reduceLeDiff,Int.reduceNeg,Int.reduceToNat,reduceCtorEq,hb4]
          refine az.dg ((hput ⟨pc,hpc,.inl e1⟩ (by omega)).mono fun r H4 h4=>?_)
          simp (disch:=omega) only [↓wr,↓reduceIte,wq,ai,ah,ak,ae,af,ag,aj,isNil,Nat.reduceEqDiff,Nat.reduceAdd,Nat.reduceLT,Nat.reduceLeDiff,Int.reduceNeg,Int.reduceToNat,reduceCtorEq]
          exact h4
        · simp (disch:=omega) only [↓wr,↓reduceIte,wq,ai,ah,ak,ae,af,ag,aj,isNil,Nat.reduceEqDiff,Nat.reduceAdd,Nat.reduceLT,Nat.reduceLeDiff,Int.reduceNeg,Int.reduceToNat,reduceCtorEq,hbox3,encI,hpc,List.getElem?_map]
          refine an.eq (fun e2=>?_) (fun e2=>?_)
          · simp (disch:=omega) only [↓wr,↓reduceIte,wq,ai,ah,ak,ae,af,ag,aj,isNil,Nat.reduceEqDiff,Nat.reduceAdd,Nat.reduceLT,Nat.reduceLeDiff,Int.reduceNeg,Int.reduceToNat,reduceCtorEq,hb4]
            refine az.dg ((hput ⟨pc,hpc,.inr e2⟩ (by omega)).mono fun r H4 h4=>?_)
            simp (disch:=omega) only [↓wr,↓reduceIte,wq,ai,ah,ak,ae,af,ag,aj,isNil,Nat.reduceEqDiff,Nat.reduceAdd,Nat.reduceLT,Nat.reduceLeDiff,Int.reduceNeg,Int.reduceToNat,reduceCtorEq]
            exact h4
          · simp (disch:=omega) only [↓wr,↓reduceIte,wq,ai,ah,ak,ae,af,ag,aj,isNil,Nat.reduceEqDiff,Nat.reduceAdd,Nat.reduceLT,Nat.reduceLeDiff,Int.reduceNeg,Int.reduceToNat,reduceCtorEq]
            refine ⟨S,hC3.drop.drop.more (by omega),hG,.refl _ _,hdone _ (fun _ hfit=>?_) (fun h=>by omega) (fun h=>by omega)⟩
            obtain ⟨pc',h5,h6⟩:=hfit
            rw[hpc] at h5; simp at h5; subst h5
            omega
      · simp (disch:=omega) only [↓wr,↓reduceIte,wq,ai,ah,ak,ae,af,ag,aj,isNil,Nat.reduceEqDiff,Nat.reduceAdd,Nat.reduceLT,Nat.reduceLeDiff,Int.reduceNeg,Int.reduceToNat,reduceCtorEq]
        refine ⟨S,hC3.drop.drop.more (by omega),hG,.refl _ _,hdone _ (fun _ hfit=>?_) (fun h=>by omega) (fun h=>by omega)⟩
        obtain ⟨pc',h5,h6⟩:=hfit
        have:=(List.getElem?_eq_some_iff.1 h5).1
        omega
    · have hlen:=pA hr false
      have hsy:=hsym (by omega)
      have hnb:(aH g false)[(-1 - s).toNat]?=some ((aH g false).getD (-1 - s).toNat false):=by
        simp[List.getD_eq_getElem?_getD,show (-1 - s).toNat < (aH g false).length by omega]
      generalize hnv:(aH g false).getD (-1 - s).toNat false=nb at hnb
      simp (disch:=omega) only [↓wr,↓reduceIte,wq,ai,ah,ak,ae,af,ag,aj,isNil,Nat.reduceEqDiff,Nat.reduceAdd,Nat.reduceLT,Nat.reduceLeDiff,Int.reduceNeg,Int.reduceToNat,reduceCtorEq,hbox3,cE,hnb,List.getElem?_map]
      refine an.split (fun hnt=>?_) (fun hnt=>?_)
      · have hsd:Sound g p at0 ⟨x.bq,x.dot+1,x.b8⟩:=hxs0.on hR hs (by
          obtain ⟨Q,hQ,hQl,hQs⟩:=Db hr _ (hnv.trans hnt)
          have:=(hf.left Q hQ).1
          exact .bU s [] Q at0 at0 at0 (by omega) hQ (by omega) (hQs p at0) (.nil _))
        simp (disch:=omega) only [↓wr,↓reduceIte,wq,ai,ah,ak,ae,af,ag,aj,isNil,Nat.reduceEqDiff,Nat.reduceAdd,Nat.reduceLT,Nat.reduceLeDiff,Int.reduceNeg,Int.reduceToNat,reduceCtorEq,hb4]
        refine az.dg ((vQ c g p _ S B (p.length+1) at0 ⟨x.bq,x.dot+1,x.b8⟩ _ _ hC3 (by omega) (by omega) (by omega) (by omega) ⟨by simp; omega,by simp; omega,by simp; omega⟩).mono fun r H4 hC4=>?_)
        simp (disch:=omega) only [↓wr,↓reduceIte,wq,ai,ah,ak,ae,af,ag,aj,isNil,Nat.reduceEqDiff,Nat.reduceAdd,Nat.reduceLT,Nat.reduceLeDiff,Int.reduceNeg,Int.reduceToNat,reduceCtorEq]
        refine az.dg ((rN c g hf p hp _ _ _ at0 _ _ hC4 (hG.put hsd (hG.top _ x hx) ha) ha (by omega) (-1 - s) ((hG.top _ x hx).ask hxs0 hR hs)).mono ?_)
        rintro r2 H5 ⟨S2,hC5,hG5,hgr5,hp5⟩
        simp (disch:=omega) only [↓wr,↓reduceIte,wq,ai,ah,ak,ae,af,ag,aj,isNil,Nat.reduceEqDiff,Nat.reduceAdd,Nat.reduceLT,Nat.reduceLeDiff,Int.reduceNeg,Int.reduceToNat,reduceCtorEq]
        exact ⟨S2,hC5.drop.drop.more (by omega),hG5,(kV S _ (Nat.le_refl _)).trans hgr5,hdone _ (fun h=>by omega) (fun _=>hp5) (fun _ _=>hgr5.mem (tK _ _ _))⟩
      · simp (disch:=omega) only [↓wr,↓reduceIte,wq,ai,ah,ak,ae,af,ag,aj,isNil,Nat.reduceEqDiff,Nat.reduceAdd,Nat.reduceLT,Nat.reduceLeDiff,Int.reduceNeg,Int.reduceToNat,reduceCtorEq]
        refine az.dg ((rN c g hf p hp _ _ _ at0 _ _ hC3 hG ha (by omega) (-1 - s) ((hG.top _ x hx).ask hxs0 hR hs)).mono ?_)
        rintro r2 H5 ⟨S2,hC5,hG5,hgr5,hp5⟩
        simp (disch:=omega) only [↓wr,↓reduceIte,wq,ai,ah,ak,ae,af,ag,aj,isNil,Nat.reduceEqDiff,Nat.reduceAdd,Nat.reduceLT,Nat.reduceLeDiff,Int.reduceNeg,Int.reduceToNat,reduceCtorEq]
        exact ⟨S2,hC5.drop.drop.more (by omega),hG5,hgr5,hdone _ (fun h=>by omega) (fun _=>hp5) (fun _ h=>by rw[hnv,hnt] at h; simp at h)⟩
end Gv
set_option linter.unusedSimpArgs false
set_option maxRecDepth 100000
namespace Gv
open Go Go.Proofs
structure pj (H:View) (c sid:Nat) (u:V) (mi:Nat→Nat) (g:au) (p:List Int) (nu:V) (n k:Nat):Prop where
  box:H c=.arr 8 [[.aY (g.aw.map cZ),encS g.aD,.aY (g.rules.map bj),gi g.start,encI p,nu,.sl sid 0 n 1,u]]
  eu:H sid=.arr 1 ((List.range n).map fun _=>[.emp 1])
  seen:aV H u 1 ((List.range k).map fun j=>[.mp (mi j)])
  map:∀ j,j < k→H (mi j)=.map [] 0
  inj:∀ i j,i < k→j < k→mi i=mi j→i=j
theorem pj.IG {H:View} {c sid:Nat} {u:V} {mi:Nat→Nat} {g:au} {p:List Int} {nu:V} {n k:Nat} (h:pj H c sid u mi g p nu n k) (hn:0 < n):owner u≠some sid:=fun e=>by
  have h1:=(h.seen.live e).1
  rw[h.eu] at h1
  simp only[br.arr.injEq,true_and] at h1
  have h2:=congrArg (·[0]?) h1
  simp[hn] at h2
  by_cases hk:0 < k
  · simp[hk] at h2
  · have:k=0:=by omega
    subst this
    simp at h2
theorem pj.I9 {H:View} {c sid:Nat} {u:V} {mi:Nat→Nat} {g:au} {p:List Int} {nu:V} {n k:Nat} (h:pj H c sid u mi g p nu n k):owner u≠some c:=fun e=>by
  have h1:=(h.seen.live e).1
  rw[h.box] at h1
  simp at h1
theorem pj.Jy {H:View} {c sid:Nat} {u:V} {mi:Nat→Nat} {g:au} {p:List Int} {nu:V} {n:Nat} (h:pj H c sid u mi g p nu n n) (hn:0 < n):Ch H c g p nu (fun _=>[]) 0 n []:=by
  obtain ⟨mid,hu,hm⟩:=h.seen.sl (by simp; omega)
  have hoff:=h.IG hn
  refine ⟨sid,mid,fun _=>.emp 1,mi,fun _=>[],fun _=>0,?_,h.eu,hm,fun j hj=>aV.nil,fun j hj=>⟨h.map j hj,?_,fun x=>⟨fun hx=>by simp at hx,fun _=>rfl⟩⟩,?_,fun i j o _ _ h1=>by simp[owner] at h1,fun i j hi hj e=>h.inj i j hi hj e,fun q hq=>by simp at hq⟩
  · have:=h.box
    rw[hu] at this
    simpa using this
  · exact ⟨by simp,fun x hx=>by simp at hx⟩
  · rintro rfl
    rw[hu] at hoff
    exact hoff rfl
theorem pj.next {H H2:View} {c sid m:Nat} {u u':V} {mi:Nat→Nat} {g:au} {p:List Int} {nu:V} {n k:Nat} (h:pj H c sid u mi g p nu n k) (hn:0 < n) (hm:H m=.dead) (ho:aV H2 u' 1 (((List.range k).map fun j=>[.mp (mi j)]) ++ [[.mp m]])) (hm2:H2 m=.map [] 0)
    (hl:∀ id,H id≠.dead→owner u≠some id→H2 id=H id∧owner u'≠some id) :
    pj (H2.set c (.arr 8 [[.aY (g.aw.map cZ),encS g.aD,.aY (g.rules.map bj),gi g.start,encI p,nu,.sl sid 0 n 1,u']])) c sid u' (fun j=>if j=k then m else mi j) g p nu n (k+1):=by
  have hC:=hl c (by rw[h.box]; simp) h.I9
  have hS:=hl sid (by rw[h.eu]; simp) (h.IG hn)
  have hcs:sid≠c:=by rintro rfl; have:=h.box; rw[h.eu] at this; simp at this
  have hmn:∀ j,j < k→mi j≠m:=fun j hj e=>by have:=h.map j hj; rw[e,hm] at this; simp at this
  refine ⟨by simp[View.set],?_,?_,fun j hj=>?_,fun i j hi hj e=>?_⟩
  · simp only[View.set,if_neg hcs]
    rw[hS.1]; exact h.eu
  · refine aV.other ?_ hC.2
    have:(List.range (k+1)).map (fun j=>[V.mp (if j=k then m else mi j)])=(List.range k).map (fun j=>[V.mp (mi j)]) ++ [[.mp m]]:=by
      rw[List.range_succ,List.map_append,List.map_cons,List.map_nil,if_pos rfl]
      congr 1
      apply List.map_congr_left
      intro j hj
      rw[if_neg (by have:=List.mem_range.1 hj; omega)]
    rw[this]; exact ho
  · by_cases e:j=k
    · simp only[if_pos e]
      have:m≠c:=by rintro rfl; rw[h.box] at hm; simp at hm
      simp only[View.set,if_neg this]
      exact hm2
    · simp only[if_neg e]
      have h1:=h.map j (by omega)
      have:mi j≠c:=by intro e2; rw[e2,h.box] at h1; simp at h1
      simp only[View.set,if_neg this]
      rw[(hl (mi j) (by rw[h1]; simp) (fun e2=>by have:=(h.seen.live e2).1; rw[h1] at this; simp at this)).1]
      exact h1
  · by_cases e1:i=k
    · by_cases e2:j=k
      · omega
      · simp only[if_pos e1,if_neg e2] at e
        exact absurd e.symm (hmn j (by omega))
    · by_cases e2:j=k
      · simp only[if_neg e1,if_pos e2] at e
        exact absurd e (hmn i (by omega))
      · simp only[if_neg e1,if_neg e2] at e
        exact h.inj i j (by omega) (by omega) e
def oP:SC :=
  .seq (al [aK 22 .lss 21 20]) <|
  .seq (.cond (.tmp 22) (.skip) (.exit 0)) <|
  .seq (.block 1 (al [aa 23 6,aa 24 6,bh 25 24,aq 26 7 25,ao 27 26,((some 28),.op (.qF)),((some 29),.op (.bu 1 1 [(.val (.map none))] [(0,(.tmp 28))])),((some 30),.op (.app 1 8 (.tmp 27) (.tmp 29))),bh 31 23,aq 32 7 31,(none,.op (.store 1 (.tmp 32) (.tmp 30)))])) <|
  al [ax 33 .add 21 1,aa 21 33]
def oO:SC :=
  .seq (.seq (al [aa 42 8,aa 43 6,bh 44 43,aq 45 6 44,ao 46 45,aa 47 7,aX 48 1 46 47,ao 49 48,aI 50 49,aK 51 .lss 42 50]) <|
  .cond (.tmp 51) (.skip) (.exit 4)) <|
  .seq (.block 5 (al [aa 54 6,aa 55 7,aa 56 6,bh 57 56,aq 58 6 57,ao 59 58,aa 60 7,aX 61 1 59 60,ao 62 61,aa 63 8,aX 64 3 62 63,aO 65 3 64,aF 66 56 [54,55,65]])) <|
  al [aa 52 8,ax 53 .add 52 1,aa 8 53]
def oq:SC :=
  .seq (al [aK 40 .lss 39 38]) <|
  .seq (.cond (.tmp 40) (.skip) (.exit 2)) <|
  .seq (.block 3 (.seq (al [aa 41 39,aa 7 41]) <|
  .seq (al [aG 8 0]) <|
  .block 4 (.loop oO))) <|
  al [ax 67 .add 39 1,aa 39 67]
def sd:SF:=⟨.seq (al [b7 2 0,((some 4),.op (.bg (.val (.val (.pointer none)))))]) <|
  .seq (al [aa 9 1,aI 10 9,ax 11 .add 10 1,aa 5 11]) <|
  .seq (.region true [⟨none,[aO 12 4 2,aa 13 1,aO 14 4 2,aF 15 54 [14],aa 16 5,((some 17),.op (.make 1 24 [(.emp 1)] (.tmp 16) (.tmp 16))),((some 18),.op (.build [(.emp 1),(.emp 1),(.emp 1),(.val (.int .i64 0)),(.emp 1),(.emp 1),(.emp 1),(.emp 1)] [(0,4,(.tmp 12)),(4,1,(.tmp 13)),(5,1,(.tmp 15)),(6,1,(.tmp 17))])),((some 19),.op (.box (.tmp 18))),aa 6 19]⟩]) <|
  .seq (.seq (al [aa 20 5,aG 21 0]) <|
  .block 0 (.loop oP)) <|
  .seq (al [aa 34 6,aq 35 3 2,ao 36 35,bT 37 55 [(.tmp 34),(.val (.val (.int .i64 0))),(.tmp 36)]]) <|
  .seq (.seq (al [aa 38 5,aG 39 0]) <|
  .block 2 (.loop oq)) <|
  .seq (al [aa 68 6,aa 4 68]) <|
  .ret,
  [.tmp 4],69⟩
theorem uY:aR Tryz.prog 35 [2]=some sd:=by kernel_rfl
set_option maxHeartbeats 4000000 in
theorem HT (g:au) (hg:g.Ok) (hr:aT g=true) (hsm:g.Small) (p:List Int) (hp:p.length≤60) (H:View):aB Tryz.prog 35 [.agg (ar g),encI p] H fun r H'=>∃ c S B,r=.ptr c 0 0∧Ch H' c g p (cE (aH g false)) S B (p.length+1) []∧Good g p S∧wP g p S:=by
  have hf:=bt hr
  refine aB.of mixed uY ?_
  simp (disch:=omega) only [↓wr,↓reduceIte,wq,ai,ah,ak,ae,af,ag,aj,isNil,Nat.reduceEqDiff,Nat.reduceAdd,Nat.reduceLT,Nat.reduceLeDiff,Int.reduceNeg,Int.reduceToNat,reduceCtorEq,sd,ar,encI]
  have hcl:=(zK g hg hsm).pure
  simp only[ar] at hcl
  refine ⟨rfl,az.pure hcl (by kernel_rfl) ?_⟩
  have hM:((p.length:Int)+1).toNat=p.length+1:=by omega
  have hcs:aN (encS g.aD)=true:=rfl
  simp (disch:=omega) only [↓wr,↓reduceIte,wq,ai,ah,ak,ae,af,ag,aj,isNil,Nat.reduceEqDiff,Nat.reduceAdd,Nat.reduceLT,Nat.reduceLeDiff,Int.reduceNeg,Int.reduceToNat,reduceCtorEq,hM,cE,hcs,Bool.and_self]
  refine ⟨⟨Nat.le_refl _,by unfold aM; omega,by unfold aM; omega⟩,fun sid hsid=>?_⟩
  intro c hc
  obtain ⟨hcsid,hcd⟩:=gS hc (by simp)
  refine bo.up (p.length+1) (fun k T' H'=>(∃ u mi,pj H' c sid u mi g p (cE (aH g false)) (p.length+1) k)∧T' 2=.aJ (ar g) 0∧T' 5=gi (p.length+1)∧T' 6=.ptr c 0 0∧T' 20=gi (p.length+1)∧T' 21=gi k) ?_ ?_
  · refine ⟨⟨.emp 1,fun _=>0,⟨by simp[View.set,cE,encI],?_,aV.nil,fun j hj=>by omega,fun i j hi=>by omega⟩⟩,rfl,rfl,rfl,rfl,rfl⟩
    simp[View.set,Ne.symm hcsid]
    apply List.ext_getElem (by simp)
    intro n h1 h2
    cases n <;> simp
  clear hc hcd hsid
  rintro k m T' H' hk ⟨⟨u,mi,hh⟩,t2,t5,t6,t20,t21⟩
  simp (disch:=omega) only [↓wr,↓reduceIte,wq,ai,ah,ak,ae,af,ag,aj,isNil,Nat.reduceEqDiff,Nat.reduceAdd,Nat.reduceLT,Nat.reduceLeDiff,Int.reduceNeg,Int.reduceToNat,reduceCtorEq,oP,t2,t5,t6,t20,t21]
  refine an.dec (fun hlt=>?_) (fun hlt=>?_)
  · simp (disch:=omega) only [↓wr,↓reduceIte,wq,ai,ah,ak,ae,af,ag,aj,isNil,Nat.reduceEqDiff,Nat.reduceAdd,Nat.reduceLT,Nat.reduceLeDiff,Int.reduceNeg,Int.reduceToNat,reduceCtorEq,t2,t5,t6,t20,t21,hh.box]
    intro m1 hm1 b1 hb1
    obtain ⟨hne,hb1⟩:=gS hb1 (by simp)
    rw[dG]
    have ho:=(hh.seen.fresh (o:=.map [] 0) hm1).fresh (o:=.arr 1 [[.mp m1]]) (m:=b1) (by simp[View.set,hne,hb1])
    simp (disch:=omega) only [↓wr,↓reduceIte,wq,ai,ah,ak,ae,af,ag,aj,isNil,Nat.reduceEqDiff,Nat.reduceAdd,Nat.reduceLT,Nat.reduceLeDiff,Int.reduceNeg,Int.reduceToNat,reduceCtorEq]
    refine ot ho (by simp) (by simp[V.cells,aN]) (by simp[aM]; omega) (by simp[aM]; omega) fun u' H3 ho' hl'=>?_
    have hlv:∀ id,H' id≠.dead→owner u≠some id→H3 id=H' id∧owner u'≠some id:=fun id h1 h2=>by
      have n1:id≠m1:=by rintro rfl; exact h1 hm1
      have n2:id≠b1:=by rintro rfl; exact h1 hb1
      have:=hl' id (by simp[View.set,n1,n2,h1]) h2
      rw[this.1]
      exact ⟨by simp[View.set,n1,n2],this.2⟩
    have hcc:=(hlv c (by rw[hh.box]; simp) hh.I9).1
    rw[hh.box] at hcc
    have hm3:H3 m1=.map [] 0:=by
      have n3:owner u≠some m1:=hh.seen.ne hm1
      rw[(hl' m1 (by simp[View.set,Ne.symm hne]) n3).1]
      simp[View.set,Ne.symm hne]
    simp (disch:=omega) only [↓wr,↓reduceIte,wq,ai,ah,ak,ae,af,ag,aj,isNil,Nat.reduceEqDiff,Nat.reduceAdd,Nat.reduceLT,Nat.reduceLeDiff,Int.reduceNeg,Int.reduceToNat,reduceCtorEq,hcc,ho'.cells,ho'.r7,t21]
    exact bb hk (by omega) ⟨⟨u',_,hh.next (by omega) hm1 ho' hm3 hlv⟩,t2,t5,t6,t20,rfl⟩
  · have hkn:k=p.length+1:=by omega
    subst hkn
    have hC:=hh.Jy (by omega)
    clear hh t20 t21
    simp (disch:=omega) only [↓wr,↓reduceIte,wq,ai,ah,ak,ae,af,ag,aj,isNil,Nat.reduceEqDiff,Nat.reduceAdd,Nat.reduceLT,Nat.reduceLeDiff,Int.reduceNeg,Int.reduceToNat,reduceCtorEq,t2,t5,t6,ar]
    have hG0:Good g p (fun _=>[]):=⟨fun _=>by simp,fun a x hx=>by simp at hx,fun a x hx=>by simp at hx,fun _ _=>rfl⟩
    refine az.dg ((rN c g hf p hp _ _ _ 0 _ _ hC hG0 (by omega) (by omega) g.start .start).mono ?_)
    rintro r0 H2 ⟨S0,hC,hG,hgr,hst⟩
    simp (disch:=omega) only [↓wr,↓reduceIte,wq,ai,ah,ak,ae,af,ag,aj,isNil,Nat.reduceEqDiff,Nat.reduceAdd,Nat.reduceLT,Nat.reduceLeDiff,Int.reduceNeg,Int.reduceToNat,reduceCtorEq,t2,t5,t6]
    refine bo.up (p.length+1) (fun a T' H'=>(∃ S,Ch H' c g p (cE (aH g false)) S (40+a * 293776000) (p.length+1) []∧Good g p S∧(∀ i R,g.rules[i]?=some R→R.left=g.start→(⟨i,0,0⟩:Item)∈S 0)∧∀ b,b < a→∀ x∈S b,ry g p S b x)∧T' 5=gi (p.length+1)∧T' 6=.ptr c 0 0∧T' 38=gi (p.length+1)∧T' 39=gi a) ?_ ?_
    · exact ⟨⟨S0,hC.more (by omega),hG,hst,fun b hb=>by omega⟩,t5,t6,rfl,rfl⟩
    clear hC hG hgr hst t2 t5 t6
    rintro a m T' H hk ⟨⟨S,hC,hG,hst,hall⟩,t5,t6,t38,t39⟩
    simp (disch:=omega) only [↓wr,↓reduceIte,wq,ai,ah,ak,ae,af,ag,aj,isNil,Nat.reduceEqDiff,Nat.reduceAdd,Nat.reduceLT,Nat.reduceLeDiff,Int.reduceNeg,Int.reduceToNat,reduceCtorEq,oq,t5,t6,t38,t39]
    refine an.dec (fun hlt=>?_) (fun hlt=>?_)
    · simp (disch:=omega) only [↓wr,↓reduceIte,wq,ai,ah,ak,ae,af,ag,aj,isNil,Nat.reduceEqDiff,Nat.reduceAdd,Nat.reduceLT,Nat.reduceLeDiff,Int.reduceNeg,Int.reduceToNat,reduceCtorEq,t5,t6,t38,t39]
      refine bo.up 17080 (fun i T' H'=>(∃ S,Ch H' c g p (cE (aH g false)) S (40+a * 293776000+i * 17200) (p.length+1) []∧Good g p S∧(∀ i R,g.rules[i]?=some R→R.left=g.start→(⟨i,0,0⟩:Item)∈S 0)∧(∀ b,b < a→∀ x∈S b,ry g p S b x)∧i≤(S a).length∧∀ x∈(S a).take i,ry g p S a x)∧T' 5=gi (p.length+1)∧T' 6=.ptr c 0 0∧T' 7=gi a∧T' 8=gi i∧T' 38=gi (p.length+1)∧T' 39=gi a) ?_ ?_
      · exact ⟨⟨S,hC.more (by omega),hG,hst,hall,Nat.zero_le _,fun x hx=>by simp at hx⟩,t5,t6,rfl,rfl,t38,t39⟩
      clear hC hG hst hall t5 t6 t38 t39
      rintro i k T' H hi ⟨⟨S,hC,hG,hst,hall,hil,hdn⟩,t5,t6,t7,t8,t38,t39⟩
      have han:a < p.length+1:=by omega
      obtain ⟨sid,mid,sv,hbox,hsets,ho⟩:=hC.set (a:=a) han
      simp (disch:=omega) only [↓wr,↓reduceIte,wq,ai,ah,ak,ae,af,ag,aj,isNil,Nat.reduceEqDiff,Nat.reduceAdd,Nat.reduceLT,Nat.reduceLeDiff,Int.reduceNeg,Int.reduceToNat,reduceCtorEq,oO,t5,t6,t7,t8,t38,t39,hbox,hsets,dn han,ho.len]
      refine ⟨han,by simp; omega,?_⟩
      have hla:=hG.len hf hp a
      refine an.dec (fun hc=>?_) (fun hc=>?_)
      · obtain ⟨m,hsv,hm⟩:=ho.sl (by simp; omega)
        have hxi:(S a)[i]?=some ((S a)[i]'(by omega)):=List.getElem?_eq_getElem (by omega)
        have hxm:(S a)[i]'(by omega)∈S a:=List.getElem_mem _
        have htk:(S a).take (i+1)=(S a).take i ++ [(S a)[i]'(by omega)]:=by rw[List.take_add_one,hxi]; rfl
        generalize (S a)[i]'(by omega)=x at hxi hxm htk
        have hgx:((S a).map c7).getD i []=[ak x.bq,ak x.dot,ak x.b8]:=by simp[List.getD_eq_getElem?_getD,hxi,c7]
        simp (disch:=omega) only [↓wr,↓reduceIte,wq,ai,ah,ak,ae,af,ag,aj,isNil,Nat.reduceEqDiff,Nat.reduceAdd,Nat.reduceLT,Nat.reduceLeDiff,Int.reduceNeg,Int.reduceToNat,reduceCtorEq,t5,t6,t7,t8,t38,t39,hbox,hsets,dn han,hsv,hm,hgx]
        refine ⟨han,by simp; omega,by omega,by omega,?_⟩
        refine az.dg ((HV c g hr p hp S _ a x _ _ hC hG (by omega) (by omega) hxm).mono ?_)
        rintro r1 H4 ⟨S',hC',hG',hgr',hd'⟩
        simp (disch:=omega) only [↓wr,↓reduceIte,wq,ai,ah,ak,ae,af,ag,aj,isNil,Nat.reduceEqDiff,Nat.reduceAdd,Nat.reduceLT,Nat.reduceLeDiff,Int.reduceNeg,Int.reduceToNat,reduceCtorEq,t8]
        refine bb hi (by omega) ⟨⟨S',hC'.more (by omega),hG',fun j R h1 h2=>hgr'.mem (hst j R h1 h2),fun b hb x hx=>(hall b hb x (by rw[(hgr' b).2 hb] at hx; exact hx)).grow (hgr'.low (by omega)),?_,?_⟩,t5,t6,t7,rfl,t38,t39⟩
        · have:=(hgr' a).1.length_le
          omega
        · obtain ⟨t,ht⟩:=(hgr' a).1
          rw[← ht,List.take_append_of_le_length (by omega),htk]
          intro y hy
          rcases List.mem_append.1 hy with hy | hy
          · exact (hdn y hy).grow hgr'
          · simp at hy; subst hy; exact hd'
      · simp (disch:=omega) only [↓wr,↓reduceIte,wq,ai,ah,ak,ae,af,ag,aj,isNil,Nat.reduceEqDiff,Nat.reduceAdd,Nat.reduceLT,Nat.reduceLeDiff,Int.reduceNeg,Int.reduceToNat,reduceCtorEq,t5,t6,t7,t8,t38,t39]
        have hil2:i=(S a).length:=by omega
        rw[hil2,List.take_length] at hdn
        refine bb hk (by omega) ⟨⟨S,hC.more (by omega),hG,hst,fun b hb x hx=>?_⟩,t5,t6,t38,rfl⟩
        by_cases e:b=a
        · subst e; exact hdn x hx
        · exact hall b (by omega) x hx
    · simp (disch:=omega) only [↓wr,↓reduceIte,wq,ai,ah,ak,ae,af,ag,aj,isNil,Nat.reduceEqDiff,Nat.reduceAdd,Nat.reduceLT,Nat.reduceLeDiff,Int.reduceNeg,Int.reduceToNat,reduceCtorEq,t5,t6,t38,t39]
      have hpa:∀ b x,x∈S b→b≤p.length:=fun b x hx=>by
        apply Decidable.byContradiction
        intro hn
        rw[hG.out b (by omega)] at hx
        simp at hx
      have hd:=fun b x (hx:x∈S b)=>hall b (by have:=hpa b x hx; omega) x hx
      refine ⟨c,S,_,rfl,hC,hG,⟨hst,fun a x R s hx h1 h2 h3 h4=>(hd a x hx).term R s h1 h2 h3 h4,fun a x R s i R' hx h1 h2 h3 h4 h5 _=>(hd a x hx).pred R s i R' h1 h2 h3 h4 h5,fun a x R s hx h1 h2 h3 h4 _=>(hd a x hx).null R s h1 h2 h3 h4,fun a y R' x R s hy h1 h2 h3 hx h4 h5 h6 h7 _=>?_⟩⟩
      refine (hd a y hy).comp R' h1 h2 h3 x hx R h4 ?_
      rw[h5,h7]
      congr 1
      omega
end Gv
