/-
  Part 10 of the proof: what the machine does and what the functions answer.
  Conditions: those that each lemma names.
-/
import Derived.Shelf.SlSortCmp.NoneTotal
import Derived.Shelf.SlicesG.Cmp
import Derived.StillTailTactics
import Derived.Test.YtihmlbdfcmfbdaaGreatSGzB1I
set_option linter.unusedSimpArgs false
set_option linter.unusedVariables false
set_option maxRecDepth 100000
namespace Gv
open Go Go.Proofs
def bw {κ:Type} (kv:κ→V) (m:bF κ):List (V × V × Nat):=m.map fun x=>(kv x.1,x.2.1,x.2.2)
structure Ei {κ:Type} [BEq κ] (P:Program) (kt:TypeId) (kv:κ→V):Prop where
 find:∀ k e m,kV P kt (kv k) e (bw kv m)=some (fT k m)
 same:∀ k,sameKey (kv k) (kv k)=true
def fH {κ:Type} (m:bF κ) (c:Nat):Prop:=(m.map (·.2.2)).Nodup∧∀ x∈m,x.2.2 < c
def jg {κ:Type} [BEq κ] (m:bF κ) (k:κ):Option Nat:=(m.find? fun x=>k == x.1).map (·.2.2)
section
variable {κ:Type} [BEq κ] [LawfulBEq κ] {kv:κ→V}
theorem lF (k:κ):∀ m:bF κ,match fT k m with
  | some i=>∃ x,m[i]?=some x∧x.1=k∧getM m k=some x.2.1∧jg m k=some x.2.2∧(bw kv m)[i]?=some (kv k,x.2.1,x.2.2)∧∀ v c,(bw kv m).set i (kv k,v,x.2.2)=bw kv (bu k v c m)∧jg (bu k v c m) k=some x.2.2∧(bu k v c m).map (·.2.2)=m.map (·.2.2)
  | none=>getM m k=none∧jg m k=none∧∀ v c,bw kv m ++ [(kv k,v,c)]=bw kv (bu k v c m)∧jg (bu k v c m) k=some c∧(bu k v c m).map (·.2.2)=m.map (·.2.2) ++ [c]
 | []=>⟨rfl,rfl,fun v c=>⟨rfl,by simp[bu,jg],rfl⟩⟩
 | x :: r=>by
  have ih:=lF k r
  simp only[fT]
  cases hk:k == x.1 with
  | true =>
   have hx:x.1=k:=(eq_of_beq hk).symm
   exact ⟨x,rfl,hx,by simp[getM,hk],by simp[jg,hk],by simp[bw,hx],fun v c=>by simp[bu,hk,bw,jg]⟩
  | false =>
   simp only[Ru,if_false]
   cases hi:fT k r with
   | some i =>
    rw[hi] at ih
    obtain ⟨y,h1,h2,h3,h4,h5,h6⟩:=ih
    refine ⟨y,by simpa using h1,h2,by simpa [getM,hk] using h3,by simpa [jg,hk] using h4,by simpa [bw] using h5,fun v c=>?_⟩
    obtain ⟨g1,g2,g3⟩:=h6 v c
    exact ⟨by simp only[bw] at g1 ⊢; simp[bu,hk,g1],by simpa [bu,hk,jg] using g2,by simp[bu,hk,g3]⟩
   | none =>
    rw[hi] at ih
    refine ⟨by simpa [getM,hk] using ih.1,by simpa [jg,hk] using ih.2.1,fun v c=>?_⟩
    obtain ⟨g1,g2,g3⟩:=ih.2.2 v c
    exact ⟨by simp only[bw] at g1 ⊢; simp[bu,hk,g1],by simpa [bu,hk,jg] using g2,by simp[bu,hk,g3]⟩
theorem fH.put {m:bF κ} {c:Nat} (h:fH m c) (k:κ) (v:V):fH (bu k v c m) (c+1):=by
 have hg:=lF (kv:=fun _=>V.any) k m
 cases hj:fT k m with
 | some j =>
  rw[hj] at hg
  obtain ⟨y,_,_,_,_,_,h6⟩:=hg
  have e:=(h6 v c).2.2
  refine ⟨by rw[e]; exact h.1,fun x hx=>?_⟩
  have:x.2.2∈m.map (·.2.2):=by rw[← e]; exact Rv.2 ⟨x,hx,rfl⟩
  obtain ⟨y,hy,e2⟩:=Rv.1 this
  have:=h.2 y hy
  omega
 | none =>
  rw[hj] at hg
  have e:=(hg.2.2 v c).2.2
  refine ⟨?_,fun x hx=>?_⟩
  ·rw[e,RV]
   refine ⟨h.1,by simp,fun a ha b hb=>?_⟩
   simp at hb; subst hb
   obtain ⟨y,hy,rfl⟩:=Rv.1 ha
   have:=h.2 y hy
   omega
  ·have:x.2.2∈m.map (·.2.2) ++ [c]:=by rw[← e]; exact Rv.2 ⟨x,hx,rfl⟩
   rcases Ry.1 this with h1 | h1
   ·obtain ⟨y,hy,e2⟩:=Rv.1 h1
    have:=h.2 y hy
    omega
   ·simp at h1; omega
theorem fH.MX {m:bF κ} {c:Nat} (h:fH m c) {k:κ} {b:Nat} (hb:jg m k=some b) (v:V) (c':Nat):fH (bu k v c' m) c:=by
 have hg:=lF (kv:=fun _=>V.any) k m
 cases hj:fT k m with
 | some j =>
  rw[hj] at hg
  obtain ⟨y,_,_,_,_,_,h6⟩:=hg
  have e:=(h6 v c').2.2
  refine ⟨by rw[e]; exact h.1,fun x hx=>?_⟩
  have:x.2.2∈m.map (·.2.2):=by rw[← e]; exact Rv.2 ⟨x,hx,rfl⟩
  obtain ⟨y,hy,e2⟩:=Rv.1 this
  have:=h.2 y hy
  omega
 | none =>
  rw[hj] at hg
  rw[hg.2.1] at hb; simp at hb
omit [BEq κ] [LawfulBEq κ] in
theorem find_born (b:Nat):∀ (m:bF κ) (i:Nat) (x:κ × V × Nat),(m.map (·.2.2)).Nodup→m[i]?=some x→x.2.2=b→(bw kv m).findIdx? (fun e=>e.2.2 == b)=some i
 | [],i,x,_,h,_=>by simp at h
 | y :: m,0,x,hn,h,e=>by
  simp at h; subst h
  simp[bw,List.findIdx?_cons,e]
 | y :: m,i+1,x,hn,h,e=>by
  simp only[RE,RW] at hn
  have h:m[i]?=some x:=by simpa using h
  have hx:x∈m:=Re h
  have hne:¬ y.2.2=b:=fun e2=>hn.1 (by rw[e2,← e]; exact Rv.2 ⟨x,hx,rfl⟩)
  have ih:=find_born b m i x hn.2 h e
  simp only[bw] at ih
  simp[bw,List.findIdx?_cons,hne,ih]
variable {P:Program} {T:Env} {H:View} {kt et t ty:TypeId}
theorem Db {K:V→View→Prop} {w:bX (T,H,K)} {x i:Operand} {z:V} {id c:Nat} {m:bF κ} {k:κ} (hm:cT P t=some (kt,et)) (hz:zeroV P et=some z) (hk:Ei P kt kv)
  (hx:ev T x=.mp id) (hi:ev T i=kv k) (hH:H id=.map (bw kv m) c) (h:K ((getM m k).getD z) H):jD P (.lookup t x i false) ty T H K w:=by
 intro n _
 have hf:=hk.find k (bw kv m).isEmpty m
 have hg:=lF (kv:=kv) k m
 refine ⟨(getM m k).getD z,.none,[id],?_,h⟩
 simp only[sI,bV,oper,eV,hm,hz,hx,hi,hH,hf]
 cases hj:fT k m with
 | some j =>
  rw[hj] at hg
  obtain ⟨y,h1,h2,h3,h4,h5,_⟩:=hg
  simp[h5,h3]
 | none =>
  rw[hj] at hg
  simp[hg.1]
theorem KT {z:V} {id c:Nat} {m:bF κ} {k:κ} (hm:cT P t=some (kt,et)) (hz:zeroV P et=some z) (hk:Ei P kt kv) (hH:H id=.map (bw kv m) c) (hb:fH m c) :
  ∃ b c',dH P t (.mp id) (kv k) H=some (.bt [(getM m k).getD z,ak b],.ep id (.map (bw kv (bu k ((getM m k).getD z) c m)) c'),[id])∧fH (bu k ((getM m k).getD z) c m) c'∧jg (bu k ((getM m k).getD z) c m) k=some b:=by
 have hf:=hk.find k false m
 have hg:=lF (kv:=kv) k m
 cases hj:fT k m with
 | some j =>
  rw[hj] at hg hf
  obtain ⟨y,h1,h2,h3,h4,h5,h6⟩:=hg
  refine ⟨y.2.2,c,?_,?_,?_⟩
  ·simp only[dH,hm,hH,hf,h5,hk.same k,if_true,h3,Rq]
   rw[(h6 y.2.1 c).1]
  ·exact hb.MX h4 _ _
  ·rw[h3]; exact (h6 _ c).2.1
 | none =>
  rw[hj] at hg hf
  refine ⟨c,c+1,?_,hb.put k _,?_⟩
  ·simp only[dH,hm,hH,hf,hz,hg.1,Option.getD_none]
   rw[(hg.2.2 z c).1]
  ·rw[hg.1]; exact (hg.2.2 _ c).2.1
theorem PC {K:V→View→Prop} {w:bX (T,H,K)} {x i:Operand} {z:V} {id c:Nat} {m:bF κ} {k:κ} (hm:cT P t=some (kt,et)) (hz:zeroV P et=some z) (hk:Ei P kt kv)
  (hx:ev T x=.mp id) (hi:ev T i=kv k) (hH:H id=.map (bw kv m) c) (hb:fH m c)
  (h:∀ b c',fH (bu k ((getM m k).getD z) c m) c'→jg (bu k ((getM m k).getD z) c m) k=some b→K (.bt [(getM m k).getD z,ak b]) (H.set id (.map (bw kv (bu k ((getM m k).getD z) c m)) c'))):jD P (.mapEntry t x i) ty T H K w:=by
 intro n _
 obtain ⟨b,c',h1,h2,h3⟩:=KT (k:=k) hm hz hk hH hb
 refine ⟨.bt [(getM m k).getD z,ak b],.ep id (.map (bw kv (bu k ((getM m k).getD z) c m)) c'),[id],?_,h b c' h2 h3⟩
 simp only[sI,bV,oper,hx,hi]
 exact h1
theorem Pn {K:V→View→Prop} {w:bX (T,H,K)} {x s y:Operand} {id c b:Nat} {m:bF κ} {k:κ} {v:V} (hx:ev T x=.mp id) (hs:ev T s=ak b) (hy:ev T y=v) (hH:H id=.map (bw kv m) c) (hb:fH m c) (hbk:jg m k=some b)
  (h:∀ c0,K .any (H.set id (.map (bw kv (bu k v c0 m)) c))):jD P (.entryStore t x s y) ty T H K w:=by
 intro n _
 have hg:=lF (kv:=kv) k m
 cases hj:fT k m with
 | none=>rw[hj] at hg; rw[hg.2.1] at hbk; simp at hbk
 | some j =>
  rw[hj] at hg
  obtain ⟨z,h1,h2,h3,h4,h5,h6⟩:=hg
  rw[hbk] at h4
  have e:z.2.2=b:=by simp at h4; exact h4.symm
  have hf:=find_born (kv:=kv) b m j z hb.1 h1 e
  refine ⟨.any,.ep id (.map (bw kv (bu k v c m)) c),[id],?_,h c⟩
  have hn:asNat (ak b)=some b:=by simp[asNat,ak]
  simp only[sI,bV,oper,hx,hs,hy,jo,hn,hH,hf,h5]
  rw[(h6 v c).1]
end
theorem uV {P:Program} {α:Type} (x:α):bp P (pure x:Sem α)=some x:=rfl
def N5:List Int:=[37,37,32,115,32,58,32,39,97,39,32,115,32,124,32,59]
def qX:ao:=⟨[⟨⟨#[39,97,39]⟩,0,0⟩],[⟨#[115]⟩],[⟨0,[0,(-1)],0⟩,⟨0,[],(-1)⟩],0⟩
theorem PJ:de Tryz.prog 49 [yk N5] (pS qX):=Gw (by kernel_rfl)
section
variable {g:ao} {p:List Int} {T:Tb} {N:Nat}
end
theorem fh.MR {H:View} {u:V} {l:List Int} (h:bc H u 1 (dD l)):fh H u (encI l):=fh.own h fun e he v hv=>by
 obtain ⟨x,_,rfl⟩:=Rv.1 he
 simp at hv; subst hv; exact .val _
section
variable {g r:ao} {p q:List Bool} {o:List Int}
end
section
variable {fit:List Int→Bool} {T b:Nat}
end
section
variable {P:Program} {T:Env} {H:View} {K:V→View→Prop} {w:bX (T,H,K)} {t t1 e ty:TypeId}
end
def I5:Value→Value→Bool
 | .int k a,.int k' b=>decide (k=k') && decide (a=b)
 | .bool a,.bool b=>a == b
 | .string a,.string b=>ir a b
 | .pointer none,.pointer none=>true
 | _,_=>false
theorem Np:∀ (a b:Value),I5 a b=true→a=b:=by
 intro a b h
 unfold I5 at h
 split at h
 ·simp only[Rg,Rn] at h
  rw[h.1,h.2]
 ·rename_i a b
  rw[show a=b by simpa using h]
 ·rename_i a b
  obtain ⟨a⟩:=a
  obtain ⟨b⟩:=b
  simp only[ir,Sd] at h
  rw[show a=b from Array.toList_inj.1 h]
 ·rfl
 ·simp at h
def xD (q:V→V→Bool):List V→List V→Bool
 | [],[]=>true
 | a :: l,b :: m=>q a b && xD q l m
 | _,_=>false
def G4 (q:V→V→Bool):List (List V)→List (List V)→Bool
 | [],[]=>true
 | a :: l,b :: m=>xD q a b && G4 q l m
 | _,_=>false
def BN:Nat→V→V→Bool
 | 0,_,_=>false
 | k+1,a,b=>match a,b with
  | .val x,.val y=>I5 x y
  | .aH x,.aH y=>G4 (BN k) x y
  | .agg x,.agg y=>xD (BN k) x y
  | .bt x,.bt y=>xD (BN k) x y
  | _,_=>false
theorem sV {q:V→V→Bool} (hq:∀ a b,q a b=true→a=b):∀ (l m:List V),xD q l m=true→l=m
 | [],[],_=>rfl
 | a :: l,b :: m,h=>by
  simp only[xD,Rg] at h
  rw[hq a b h.1,sV hq l m h.2]
 | [],_ :: _,h=>by simp[xD] at h
 | _ :: _,[],h=>by simp[xD] at h
theorem KH {q:V→V→Bool} (hq:∀ a b,q a b=true→a=b):∀ (l m:List (List V)),G4 q l m=true→l=m
 | [],[],_=>rfl
 | a :: l,b :: m,h=>by
  simp only[G4,Rg] at h
  rw[sV hq a b h.1,KH hq l m h.2]
 | [],_ :: _,h=>by simp[G4] at h
 | _ :: _,[],h=>by simp[G4] at h
theorem DX:∀ (k:Nat) (a b:V),BN k a b=true→a=b
 | 0,_,_,h=>by simp[BN] at h
 | k+1,a,b,h=>by
  have ih:=DX k
  unfold BN at h
  split at h
  ·rw[Np _ _ h]
  ·rw[KH ih _ _ h]
  ·rw[sV ih _ _ h]
  ·rw[sV ih _ _ h]
  ·simp at h
def rl:Nat→V→Bool
 | 0,_=>false
 | k+1,v=>match v with
  | .val _=>true
  | .emp _=>true
  | .dt=>true
  | .aH es=>es.all fun e=>e.all (rl k)
  | .agg cs=>cs.all (rl k)
  | .bt cs=>cs.all (rl k)
  | _=>false
theorem tU {q:V→Bool} {l:List V} (h:l.all q=true) {i:Nat} (hi:i < l.length):q (l.getD i .any)=true:=by
 have e:l.getD i .any=l[i]:=by simp[Q6,hi]
 rw[e]
 exact RD.1 h _ (Rj _)
theorem xX:∀ (k:Nat) (v:V),rl k v=true→Tree v
 | 0,_,h=>by simp[rl] at h
 | k+1,v,h=>by
  have ih:=xX k
  unfold rl at h
  split at h
  ·exact .val _
  ·exact .emp _
  ·exact .dt
  ·rename_i es
   refine .aH _ fun i j hi hj=>ih _ ?_
   have e:es.getD i []=es[i]:=by simp[Q6,hi]
   have h1:=RD.1 h _ (Rj hi)
   rw[e] at hj ⊢
   exact tU h1 hj
  ·exact .agg _ fun i hi=>ih _ (tU h hi)
  ·exact .bt _ fun i hi=>ih _ (tU h hi)
  ·simp at h
noncomputable def tn (H:View):Nat→V→Option V
 | 0,_=>none
 | k+1,v=>match v with
  | .val x=>some (.val x)
  | .emp _=>some (.aH [])
  | .aH es=>match rl 60 (.aH es) with
   | true=>some (.aH es)
   | false=>none
  | .sl id off len _=>match H id with
   | .arr _ es=>match Nat.ble (off+len) es.length with
    | true=>(AF (tn H k) ((es.drop off).take len)).map .aH
    | false=>none
   | _=>none
  | .agg cs=>(mO (tn H k) cs).map .agg
  | .bt cs=>(mO (tn H k) cs).map .bt
  | _=>none
theorem AN (h:aE):∀ (k:Nat) (v t:V),tn h.view k v=some t→Fr h v t
 | 0,v,t,hf=>by simp[tn] at hf
 | k+1,v,t,hf=>by
  have ih:=AN h k
  simp only[tn] at hf
  split at hf
  ·simp only[Q8] at hf; subst hf; exact .tree _ (.val _)
  ·simp only[Q8] at hf; subst hf; exact .emp _
  ·split at hf
   ·rename_i ht
    simp only[Q8] at hf; subst hf; exact .tree _ (xX _ _ ht)
   ·simp at hf
  ·rename_i id off len esz
   split at hf
   ·rename_i z es hH
    split at hf
    ·rename_i hle
     have hle:=Nat.le_of_ble_eq_true hle
     simp only[Rf] at hf
     obtain ⟨es',he,rfl⟩:=hf
     obtain ⟨g1,g2⟩:=AX _ _ he
     have hlen:es'.length=len:=by rw[g1]; simp; omega
     have hg:∀ i,i < len→((es.drop off).take len).getD i []=es.getD (off+i) []:=fun i hi=>by
      simp[Q6,SE,hi]
     have g3:∀ i,i < len→mO (tn h.view k) (es.getD (off+i) [])=some (es'.getD i []):=fun i hi=>by
      rw[← hg i hi]; exact g2 i (by rw[← g1,hlen]; exact hi)
     exact .sl id off len esz z es es' hH hle hlen (fun i hi=>(gI _ _ (g3 i hi)).1) (fun i j hi hj=>ih _ _ ((gI _ _ (g3 i hi)).2 j (by rw[← (gI _ _ (g3 i hi)).1]; exact hj)))
    ·simp at hf
   ·simp at hf
  ·simp only[Rf] at hf
   obtain ⟨l,hl,rfl⟩:=hf
   obtain ⟨g1,g2⟩:=gI _ _ hl
   exact .agg _ _ g1 (fun i hi=>ih _ _ (g2 i hi))
  ·simp only[Rf] at hf
   obtain ⟨l,hl,rfl⟩:=hf
   obtain ⟨g1,g2⟩:=gI _ _ hl
   exact .bt _ _ g1 (fun i hi=>ih _ _ (g2 i hi))
  ·simp at hf
theorem aG.seen {P:Program} {f:FuncId} {vs ts:List V} {t:V} (hc:aG P f ts t) (ht:∀ i,i < vs.length→Tree (vs.getD i .any)) (hl:ts.length=vs.length) (hfr:∀ i,i < vs.length→Fr [] (vs.getD i .any) (ts.getD i .any)):aG P f vs t:=by
 intro Z μ w xs hrel hz
 have hr0:gu Z (fun _=>none) w.heap (cat [] fun _=>.dead):=by
  rw[AI]
  exact ⟨fun _=>trivial,fun i j b o s o' s' _ h=>by simp at h,fun id b o s h=>by simp at h,hz,fun id b o s h=>by simp at h⟩
 have hno:∀ b,¬ iG (fun _=>none) b:=fun b ⟨_,_,_,h⟩=>by simp at h
 have hts:fi (fun b=>Z b∨iG (fun _=>none) b) μ w.heap ts xs:=⟨by rw[hl,hrel.1],fun i hi=>zj hr0 (hfr i (by omega)) (tt (hrel.2 i (by omega)) (ht i (by omega)))⟩
 refine (hc _ μ w xs hts (fun b hb=>hb.elim (hz b) (fun h=>absurd h (hno b)))).mono ?_
 rintro e w' ⟨x,Z',rfl,hv,hs,h1,h2,ho⟩
 exact ⟨x,Z',rfl,hv,hs,fun b hb=>h1 b (.inl hb),fun b hb=>(h2 b hb).elim (fun h=>h.elim .inl (fun h=>absurd h (hno b))) .inr,ho⟩
abbrev wN:=FuncId × List V × V × Bool
def wN.Ok (P:Program) (x:wN):Prop:=db P x.1=true∧if x.2.2.2=true then aG P x.1 x.2.1 x.2.2.1 else (de P x.1 x.2.1 x.2.2.1∨(aG P x.1 x.2.1 x.2.2.1∧yw x.2.2.1))
noncomputable def N0 (g:FuncId) (vs:List V) (H:View) (x:wN):Bool:=Nat.beq x.1 g && (match x.2.2.2 with
 | true=>vs.all (rl 60) && (match mO (tn (fun _=>.dead) 60) vs with
  | some ts=>xD (BN 60) ts x.2.1
  | none=>false)
 | false=>match mO (tn H 60) vs with
  | some ts=>xD (BN 60) ts x.2.1
  | none=>false)
noncomputable def NX (l:List wN):vd:=fun g vs H=>(l.find? (N0 g vs H)).map fun x=>x.2.2.1
theorem Ni {P:Program} {l:List wN} (hl:∀ x∈l,x.Ok P):qw P (NX l):=by
 intro g vs H t h
 unfold NX at h
 simp only[Rf] at h
 obtain ⟨⟨f,ts,r,b⟩,hx,rfl⟩:=h
 obtain ⟨h1,h2⟩:=hl _ (List.mem_of_find?_eq_some hx)
 have hq:=List.find?_some hx
 simp only[N0,Rg] at hq
 obtain ⟨hg,hq⟩:=hq
 have hg:=Tf hg
 simp only at hg h1 h2 hq
 subst hg
 refine ⟨h1,?_⟩
 rintro h rfl
 cases b with
 | true =>
  simp only[Rg] at hq
  obtain ⟨hq1,hq2⟩:=hq
  split at hq2
  ·rename_i us hus
   obtain ⟨g1,g2⟩:=gI _ _ hus
   have:=sV (DX 60) _ _ hq2
   subst this
   simp only[if_true] at h2
   exact bH.fy (h2.seen (fun i hi=>xX _ _ (tU hq1 hi)) g1 fun i hi=>AN [] 60 _ _ (g2 i hi)) h
  ·simp at hq2
 | false =>
  simp only at hq
  split at hq
  ·rename_i us hus
   obtain ⟨g1,g2⟩:=gI _ _ hus
   have:=sV (DX 60) _ _ hq
   subst this
   have hfr:=fun i hi=>AN h 60 _ _ (g2 i hi)
   simp only[Ru,if_false] at h2
   rcases h2 with h2 | ⟨h2,h3⟩
   ·exact bH.s6 h2 g1 hfr
   ·exact bH.borrow h2 h3 g1 hfr
  ·simp at hq
def rB (x:Int):Bool:=decide (-9223372036854775808≤x) && decide (x≤9223372036854775807)
theorem nT {x:Int} (h:rB x=true):cm x:=by
 unfold rB at h
 simp only[Rg,Rn] at h
 exact h
def okB (g:ao):Bool:=decide (g.av.length≤900) && decide (g.az.length≤100) && decide (g.rules.length≤900) && rB g.start && g.av.all (fun t=>rB t.level && rB t.assoc) && g.rules.all fun r=>rB r.left && rB r.prec && decide (r.right.length≤900) && r.right.all rB
theorem JG {g:ao} (h:okB g=true):g.Ok∧g.Small:=by
 unfold okB at h
 simp only[Rg,Rn,RD] at h
 obtain ⟨⟨⟨⟨⟨h1,h2⟩,h3⟩,h4⟩,h5⟩,h6⟩:=h
 refine ⟨⟨by unfold aV; omega,by unfold aV; omega,by unfold aV; omega,nT h4,fun t ht=>⟨nT (h5 t ht).1,nT (h5 t ht).2⟩,fun r hr=>?_⟩,⟨by omega⟩⟩
 have:=h6 r hr
 exact ⟨nT this.1.1.1,nT this.1.1.2,by unfold aV; have:=this.1.2; omega,fun x hx=>nT (this.2 x hx)⟩
theorem rE:qX.Ok∧qX.Small:=JG (by kernel_rfl)
structure c8 where
 sym:Int
 to:Int
 deriving DecidableEq
def kr (x:c8):List V:=[gi x.sym,gi x.to]
def bD {α:Type} (A:List (V × α)):List (List V):=A.map fun x=>[x.1]
structure aJ where
 aD:Int
 dot:Int
 deriving DecidableEq
def gW (x:aJ):List V:=[gi x.aD,gi x.dot]
def bT (l:List aJ):List (List V):=l.map gW
def cP (a b:aJ):Bool:=decide (a.aD < b.aD) || (decide (a.aD=b.aD) && decide (a.dot < b.dot))
def ma:List aJ→aJ→List aJ
 | [],x=>[x]
 | y :: l,x=>if cP y x=true then y :: ma l x else if y=x then y :: l else x :: y :: l
theorem Ci (x y:aJ):fu Tryz.prog 9998 #[.int .i64 x.aD,.int .i64 x.dot] #[.int .i64 y.aD,.int .i64 y.dot]
  [{ name:= "Rule",type:=3,offset:=0,embedded:=false,tag:= "",pkgPath:= "",byteOffset:=0 },{ name:= "Dot",type:=3,offset:=1,embedded:=false,tag:= "",pkgPath:= "",byteOffset:=8 }] ((x.aD == y.aD) && ((x.dot == y.dot) && true)) :=
 .int _ _ _ .i64 _ _ (by decide) Tryz.underlying3 rfl rfl (.int _ _ _ .i64 _ _ (by decide) Tryz.underlying3 rfl rfl .nil)
theorem JW (x y:aJ):((x.aD == y.aD) && ((x.dot == y.dot) && true))=decide (x=y):=by
 cases x; cases y; rw[Si]; simp
def aI (g:ao) (r:Int):List Int:=if r = -1 then [-1 - g.start] else (ax g r).right
def bO (g:ao) (x:aJ):Int × Bool:=if x.dot=(aI g x.aD).length then (0,false) else ((aI g x.aD).getD x.dot.toNat 0,true)
theorem eu {a b:aJ} : cP a b=true↔a.aD < b.aD∨a.aD=b.aD∧a.dot < b.dot:=by
 simp[cP]
theorem mr {a b c:aJ} (h:cP a b=true) (k:cP b c=true):cP a c=true:=by
 rw[eu] at h k ⊢; omega
theorem mA {a:aJ} : cP a a=false:=by
 cases h:cP a a with
 | false=>rfl
 | true=>rw[eu] at h; omega
theorem FN {a b:aJ} (h:cP a b=true):cP b a=false:=by
 cases k:cP b a with
 | false=>rfl
 | true=>have:=mr h k; rw[mA] at this; exact absurd this (by simp)
theorem tK {a b:aJ} (h:cP a b=false) (hne:¬ a=b):cP b a=true:=by
 rw[eu]
 have h1:¬ cP a b=true:=by simp[h]
 rw[eu] at h1
 obtain ⟨ar,ad⟩:=a
 obtain ⟨br,bd⟩:=b
 simp only[aJ.mk.injEq] at hne
 simp only at h1 ⊢
 omega
abbrev cz (l:List aJ):Prop:=l.Pairwise fun a b=>cP a b=true
theorem uX:∀ {l:List aJ} {x y:aJ},y∈ma l x↔y=x∨y∈l
 | [],x,y=>by simp[ma]
 | z :: l,x,y=>by
  rw[ma]
  split
  ·simp only[Rm,uX (l:=l)]
   constructor
   ·rintro (h | h | h) <;> simp[h]
   ·rintro (h | h | h) <;> simp[h]
  ·split
   ·rename_i h; subst h; simp
   ·simp
theorem yP:∀ {l:List aJ} {x:aJ},cz l→cz (ma l x)
 | [],x,_=>by simp[ma,cz]
 | z :: l,x,h=>by
  rw[cz,Sv] at h
  rw[ma]
  split
  ·rename_i hz
   rw[cz,Sv]
   refine ⟨fun y hy=>?_,yP h.2⟩
   rcases uX.1 hy with rfl | hy
   ·exact hz
   ·exact h.1 y hy
  ·rename_i hz
   split
   ·exact Sv.2 h
   ·rename_i hne
    have hxz:=tK (by simpa using hz) hne
    rw[cz,Sv]
    refine ⟨fun y hy=>?_,Sv.2 h⟩
    rcases Rm.1 hy with rfl | hy
    ·exact hxz
    ·exact mr hxz (h.1 y hy)
theorem wb:∀ {a b:List aJ},cz a→cz b→(∀ x,x∈a↔x∈b)→a=b
 | [],[],_,_,_=>rfl
 | [],y :: b,_,_,h=>by have:=(h y).2 (by simp); simp at this
 | x :: a,[],_,_,h=>by have:=(h x).1 (by simp); simp at this
 | x :: a,y :: b,ha,hb,h=>by
  rw[cz,Sv] at ha hb
  have hxy:x=y:=by
   have h1:=(h x).1 (by simp)
   have h2:=(h y).2 (by simp)
   rcases Rm.1 h1 with h1 | h1
   ·exact h1
   ·rcases Rm.1 h2 with h2 | h2
    ·exact h2.symm
    ·have:=mr (ha.1 y h2) (hb.1 x h1)
     rw[mA] at this; exact absurd this (by simp)
  subst hxy
  congr 1
  refine wb ha.2 hb.2 fun z=>?_
  have hz:=h z
  simp only[Rm] at hz
  constructor
  ·intro hm
   rcases hz.1 (.inr hm) with rfl | h
   ·have:=ha.1 z hm; rw[mA] at this; exact absurd this (by simp)
   ·exact h
  ·intro hm
   rcases hz.2 (.inr hm) with rfl | h
   ·have:=hb.1 z hm; rw[mA] at this; exact absurd this (by simp)
   ·exact h
theorem DH:∀ (l:List Int) (a n:Int),l.Pairwise (· < ·)→(∀ x∈l,a≤x∧x < a+n)→0≤n→(l.length:Int)≤n
 | [],a,n,_,_,hn=>by simpa using hn
 | x :: l,a,n,hp,hm,hn=>by
  rw[Sv] at hp
  have h1:=hm x (by simp)
  have:=DH l (x+1) (a+n - (x+1)) hp.2 (fun y hy=>by have:=hp.1 y hy; have:=hm y (by simp[hy]); omega) (by omega)
  simp only[Rp]; omega
def dc (g:ao) (x:aJ):Prop:=(-1≤x.aD∧x.aD < (g.rules.length:Int))∧0≤x.dot∧x.dot≤(aI g x.aD).length
theorem iz {g:ao} (hf:g.dL) {r:Int} (h : -1≤r∧r < (g.rules.length:Int)):(aI g r).length≤6:=by
 unfold aI
 split
 ·simp
 ·have hR:g.rules[r.toNat]?=some (ax g r):=by unfold ax; exact getD_some (by omega)
  exact hf.right _ (Re hR)
theorem yH {g:ao} (hf:g.dL) {l:List aJ} (hs:cz l) (hl:∀ x∈l,dc g x):l.length≤287:=by
 have hd:∀ x∈l,0≤x.dot∧x.dot≤6:=fun x hx=>by
  have h1:=hl x hx
  have:=iz hf h1.1
  exact ⟨h1.2.1,by have:=h1.2.2; omega⟩
 have h1:(l.map fun x=>(x.aD+1) * 7+x.dot).Pairwise (· < ·):=by
  rw[Tm]
  refine List.Pairwise.imp_of_mem ?_ hs
  intro a b ha hb hab
  rw[eu] at hab
  have:=hd a ha; have:=hd b hb
  omega
 have:=DH _ 0 287 h1 (fun y hy=>by
  obtain ⟨x,hx,rfl⟩:=Rv.1 hy
  have h2:=(hl x hx).1
  have:=hd x hx; have:=hf.rules
  omega) (by omega)
 simp at this
 omega
inductive p8 (g:ao) (l:List aJ):aJ→Prop
 | base {x:aJ} : x∈l→p8 g l x
 | step {x:aJ} {s:Int} {k:Nat} {R:aM} : p8 g l x→bO g x=(s,true)→s < 0→g.rules[k]?=some R→R.left = -1 - s→p8 g l ⟨k,0⟩
theorem p8.has {g:ao} {l:List aJ} (hl:∀ x∈l,dc g x) {x:aJ} (h:p8 g l x):dc g x:=by
 induction h with
 | base h=>exact hl _ h
 | step _ _ _ hk _ _ =>
  have:=(Rl.1 hk).1
  exact ⟨⟨by simp only; omega,by simp only; omega⟩,by simp only; omega,by simp only; omega⟩
def EF (g:ao):List aJ:=(List.range (g.rules.length+1)).flatMap fun (r:Nat)=>(List.range 7).map fun (d:Nat)=>(⟨(r:Int) - 1,(d:Int)⟩:aJ)
theorem I1 {g:ao} (hf:g.dL) {x:aJ} (h:dc g x):x∈EF g:=by
 have:=iz hf h.1
 obtain ⟨⟨h1,h2⟩,h3,h4⟩:=h
 simp only[EF,List.mem_flatMap,Rv,R3]
 refine ⟨(x.aD+1).toNat,by omega,x.dot.toNat,by omega,?_⟩
 obtain ⟨r,d⟩:=x
 simp only at h1 h2 h3 h4 this
 simp only[aJ.mk.injEq]; omega
theorem qz:∀ (l a:List aJ),cz a→cz (l.foldl ma a)∧∀ x,x∈l.foldl ma a↔x∈a∨x∈l
 | [],a,h=>⟨h,fun x=>by simp⟩
 | y :: l,a,h=>by
  obtain ⟨h1,h2⟩:=qz l (ma a y) (yP h)
  refine ⟨h1,fun x=>?_⟩
  rw[Rx,h2,uX,Rm]
  constructor
  ·rintro ((h | h) | h) <;> simp[h]
  ·rintro (h | h | h) <;> simp[h]
open Classical in
noncomputable def cQ (g:ao) (l:List aJ):List aJ:=((EF g).filter fun x=>decide (p8 g l x)).foldl ma []
theorem ki (g:ao) (l:List aJ):cz (cQ g l):=(qz _ [] .nil).1
theorem df {g:ao} (hf:g.dL) {l:List aJ} (hl:∀ x∈l,dc g x) {x:aJ} : x∈cQ g l↔p8 g l x:=by
 classical
 rw[cQ,(qz _ [] .nil).2]
 simp only[List.not_mem_nil,false_or,RQ,Rn]
 exact ⟨fun h=>h.2,fun h=>⟨I1 hf (h.has hl),h⟩⟩
theorem M8 {g:ao} (hf:g.dL) {l o:List aJ} (hl:∀ x∈l,dc g x) (hs:cz o) (h1:∀ x∈o,p8 g l x) (h2:∀ x∈l,x∈o)
  (h3:∀ x∈o,∀ (s:Int) (k:Nat) (R:aM),bO g x=(s,true)→s < 0→g.rules[k]?=some R→R.left = -1 - s→(⟨k,0⟩:aJ)∈o):cQ g l=o:=by
 refine wb (ki g l) hs fun x=>?_
 rw[df hf hl]
 refine ⟨fun h=>?_,h1 x⟩
 induction h with
 | base h=>exact h2 _ h
 | step _ hn hs hk hL ih=>exact h3 _ ih _ _ _ hn hs hk hL
def bC (g:ao) (l:List aJ) (s:Int):List aJ:=(l.filter fun x=>decide (bO g x=(s,true))).map fun x=>⟨x.aD,x.dot+1⟩
theorem lE {g:ao} {l:List aJ} {s:Int} {y:aJ} : y∈bC g l s↔∃ x∈l,bO g x=(s,true)∧y=⟨x.aD,x.dot+1⟩:=by
 simp only[bC,Rv,RQ,Rn]
 constructor
 ·rintro ⟨x,⟨h1,h2⟩,rfl⟩; exact ⟨x,h1,h2,rfl⟩
 ·rintro ⟨x,h1,h2,rfl⟩; exact ⟨x,⟨h1,h2⟩,rfl⟩
theorem BQ {g:ao} {l:List aJ} (s:Int) (h:cz l):cz (bC g l s):=by
 rw[cz,bC,Tm]
 refine (h.filter _).imp ?_
 intro a b hab
 rw[eu] at hab ⊢
 simp only; omega
theorem rV {g:ao} {x:aJ} {s:Int} (h:bO g x=(s,true)):x.dot≠(aI g x.aD).length∧(aI g x.aD).getD x.dot.toNat 0=s:=by
 unfold bO at h
 split at h
 ·simp at h
 ·rename_i hd; exact ⟨hd,by simpa using h⟩
theorem Dw {g:ao} {l:List aJ} {s:Int} (hl:∀ x∈l,dc g x):∀ y∈bC g l s,dc g y:=by
 intro y hy
 obtain ⟨x,hx,hn,rfl⟩:=lE.1 hy
 have h1:=hl x hx
 have h2:=(rV hn).1
 exact ⟨h1.1,by simp only; have:=h1.2; omega,by simp only; have:=h1.2; omega⟩
theorem x9 {g:ao} {l:List aJ} {s:Int} : (bC g l s).length≤l.length:=by
 rw[bC,Ro]; exact Sg _ _
structure aP where
 bh:List aJ
 aX:List c8
 deriving DecidableEq
abbrev bm:aP:=⟨[],[]⟩
def aZ (g:ao) (i:Nat):Int:=if i < g.av.length then i else -1 - ((i:Int) - g.av.length)
def findD:List aP→List aJ→Int
 | [],_=>-1
 | s :: l,k=>if s.bh=k then 0 else if findD l k < 0 then -1 else findD l k+1
theorem tj:∀ (l:List aP) (k:List aJ),-1≤findD l k
 | [],_=>by simp[findD]
 | s :: l,k=>by
  have:=tj l k
  rw[findD]; split
  ·omega
  ·split <;> omega
theorem x5:∀ (l:List aP) (k:List aJ),findD l k < l.length
 | [],_=>by simp[findD]
 | s :: l,k=>by
  have:=x5 l k
  rw[findD]; simp only[Rp]; split
  ·omega
  ·split <;> omega
theorem DJ:∀ (l:List aP) (k:List aJ) (i:Nat),findD l k=i→∃ s,l[i]?=some s∧s.bh=k
 | [],_,i,h=>by simp[findD] at h
 | s :: l,k,i,h=>by
  rw[findD] at h
  split at h
  ·rename_i e
   have:i=0:=by omega
   subst this
   exact ⟨s,rfl,e⟩
  ·split at h
   ·omega
   ·obtain ⟨j,rfl⟩:∃ j,i=j+1:=⟨i - 1,by omega⟩
    obtain ⟨t,h1,h2⟩:=DJ l k j (by omega)
    exact ⟨t,by simpa using h1,h2⟩
theorem Dr:∀ (l:List aP) (k:List aJ),findD l k < 0→∀ s∈l,s.bh≠k
 | [],_,_,s,hs=>by simp at hs
 | t :: l,k,h,s,hs=>by
  rw[findD] at h
  split at h
  ·omega
  ·rename_i hne
   have hl:findD l k < 0:=by
    split at h
    ·assumption
    ·omega
   rcases Rm.1 hs with rfl | hs
   ·exact hne
   ·exact Dr l k hl s hs
def dG (g:ao) (l:List aJ) (at_:Nat) (out:List aP) (i:Nat):List aP :=
 if bC g l (aZ g i)=[] then out else
 if findD out (bC g l (aZ g i)) < 0 then (out ++ [(⟨bC g l (aZ g i),[]⟩:aP)]).modify at_ fun s=>(⟨s.bh,s.aX ++ [⟨aZ g i,out.length⟩]⟩:aP)
 else out.modify at_ fun s=>(⟨s.bh,s.aX ++ [⟨aZ g i,findD out (bC g l (aZ g i))⟩]⟩:aP)
noncomputable def Br (g:ao) (at_:Nat) (out:List aP) (n:Nat):List aP:=(List.range n).foldl (dG g (cQ g (out.getD at_ bm).bh) at_) out
noncomputable def gg (g:ao):Nat→Nat→List aP→List aP × Int
 | 0,_,out=>(out,0)
 | f+1,at_,out=>if at_ < out.length then
   (if 300 < (Br g at_ out (g.av.length+g.az.length)).length then ([],5) else gg g f (at_+1) (Br g at_ out (g.av.length+g.az.length)))
  else (out,0)
def dU:List aP:=[⟨[⟨-1,0⟩],[]⟩]
abbrev BV:=BitVec 32
def dI (n:Int):BV:=if 0≤n∧n≤31 then BitVec.twoPow 32 n.toNat else 0
theorem KD {a b:BV} (h:∀ i,i < 32→a.getLsbD i=b.getLsbD i):a=b:=BitVec.eq_of_getLsbD_eq fun i hi=>h i hi
def j5 (a b:BV):Prop:=∀ i,a.getLsbD i=true→b.getLsbD i=true
theorem F3 {a b:BV} : (a &&& ~~~b)=0↔j5 a b:=by
 constructor
 ·intro h i hi
  have hl:i < 32:=BitVec.lt_of_getLsbD hi
  have:=Sp (fun x:BV=>x.getLsbD i) h
  simp only[BitVec.getLsbD_and,BitVec.getLsbD_not,hi] at this
  simpa [hl] using this
 ·intro h
  refine KD fun i hl=>?_
  simp only[BitVec.getLsbD_and,BitVec.getLsbD_not]
  cases ha:a.getLsbD i with
  | false=>simp
  | true=>rw[h i ha]; simp
def eN (null:List Bool) (first:List BV) (rest:BV):List Int→BV
 | []=>rest
 | s :: l=>if 0≤s then dI s else if null.getD (-1 - s).toNat false=true then first.getD (-1 - s).toNat 0 ||| eN null first rest l else first.getD (-1 - s).toNat 0
def jI (null:List Bool) (fs:List BV) (r:aM):List BV:=fs.set r.left.toNat (fs.getD r.left.toNat 0 ||| eN null fs 0 r.right)
theorem BU (null:List Bool) (fs:List BV) (r:aM):(jI null fs r).length=fs.length:=by simp[jI]
def qy (g:ao) (null:List Bool) (fs:List BV):List BV:=g.rules.foldl (jI null) fs
theorem BL (null:List Bool):∀ (l:List aM) (fs:List BV),(l.foldl (jI null) fs).length=fs.length
 | [],_=>rfl
 | r :: l,fs=>by rw[Rx,BL null l,BU]
theorem Is (g:ao) (null:List Bool) (fs:List BV):(qy g null fs).length=fs.length:=BL _ _ _
def cD (g:ao) (null:List Bool):List BV:=iter (qy g null) g.az.length (List.replicate g.az.length 0)
theorem vC {f:List BV→List BV} (hf:∀ l,(f l).length=l.length):∀ (n:Nat) (l:List BV),(iter f n l).length=l.length
 | 0,_=>rfl
 | n+1,l=>by rw[iter,vC hf n,hf]
theorem yL (g:ao) (null:List Bool):(cD g null).length=g.az.length:=by
 rw[cD,vC (Is g null)]; simp
def jH:List c8→Int→Int
 | [],_=>-1
 | e :: l,s=>if e.sym=s then e.to else jH l s
def kI (a:List aP):Int→List Int→Int × Bool
 | at_,[]=>(at_,true)
 | at_,s :: l=>if 0≤jH (a.getD at_.toNat bm).aX s∧jH (a.getD at_.toNat bm).aX s < a.length then kI a (jH (a.getD at_.toNat bm).aX s) l else (0,false)
def jB (a:List aP) (at_:Int) (l:List Int):Int × Bool:=if at_ < 0∨(a.length:Int)≤at_ then (0,false) else kI a at_ l
abbrev Sets:=List (List BV)
theorem gz {α:Type} (l:List α) (i j:Nat) (x d:α):(l.set i x).getD j d=if i=j∧i < l.length then x else l.getD j d:=by
 simp only[Q6,Sz]
 by_cases e:i=j
 ·subst e
  by_cases h:i < l.length
  ·simp[h]
  ·simp[h]
 ·simp[e]
def iS (g:ao) (x:aJ):List Int:=if 0≤x.aD then (ax g x.aD).right.drop (x.dot+1).toNat else []
inductive nt (g:ao) (null:List Bool) (a:List aP) (ls:List (List aJ)):Nat→aJ→Nat→Prop
 | start:(⟨-1,0⟩:aJ)∈ls.getD 0 []→nt g null a ls 0 ⟨-1,0⟩ g.av.length
 | move {i:Nat} {x:aJ} {t:Nat} {s:Int} : nt g null a ls i x t→bO g x=(s,true)→(⟨x.aD,x.dot+1⟩:aJ)∈ls.getD (jB a i [s]).1.toNat []→nt g null a ls (jB a i [s]).1.toNat ⟨x.aD,x.dot+1⟩ t
 | begin {i:Nat} {x:aJ} {t u:Nat} {s:Int} {k:Nat} : nt g null a ls i x t→bO g x=(s,true)→s < 0→k < g.rules.length→(ax g k).left = -1 - s→(⟨k,0⟩:aJ)∈ls.getD i [] →
  (eN null (cD g null) (BitVec.twoPow 32 t) (iS g x)).getLsbD u=true→nt g null a ls i ⟨k,0⟩ u
theorem nt.mem {g:ao} {null:List Bool} {a:List aP} {ls:List (List aJ)} {i:Nat} {x:aJ} {t:Nat} (h:nt g null a ls i x t):x∈ls.getD i []:=by
 cases h <;> assumption
section
variable {g:ao} {null:List Bool} {a:List aP} {ls:List (List aJ)}
end
theorem zm {g:ao} (hf:g.dL) : -100≤g.start∧g.start≤100:=by
 have:=hf.jT; have:=hf.start; have:=hf.az; omega
theorem yX {l:List aJ} {i:Nat} {y:aJ} (h:l[i]?=some y):(bT l).getD i []=[gi y.aD,gi y.dot]:=by simp[bT,Q6,h,gW]
theorem bI (l:List aJ):(bT l).length=l.length:=by simp[bT]
theorem As {g:ao} {x:aJ} {s:Int} {b:Bool} (hf:g.dL) (hx:dc g x) (h:bO g x=(s,b)) : -1000≤s∧s≤1000:=by
 have hsym:∀ s∈aI g x.aD,-1000≤s∧s≤1000:=by
  intro s hs
  unfold aI at hs
  split at hs
  ·simp at hs; subst hs; have:=zm hf; omega
  ·have hR:g.rules[x.aD.toNat]?=some (ax g x.aD):=by unfold ax; exact getD_some (by have:=hx.1; omega)
   have h1:=hf.sym _ (Re hR) s hs
   have:=hf.av; have:=hf.az
   unfold gP at h1
   split at h1 <;> simp at h1 <;> omega
 unfold bO at h
 split at h
 ·simp at h; omega
 ·rename_i hd
  simp only[Rb] at h
  have hlt:x.dot.toNat < (aI g x.aD).length:=by have:=hx.2; omega
  rw[← h.1]
  exact hsym _ (Re (getD_some hlt))
theorem HY {g:ao} (hf:g.dL) {i:Nat} (hi:i < g.av.length+g.az.length) : -100≤aZ g i∧aZ g i≤100:=by
 have:=hf.av; have:=hf.az
 unfold aZ; split <;> omega
theorem Ob (l:List aJ):Tree (.aH (bT l)):=eT _ _ fun x _ v hv=>by simp[gW] at hv; rcases hv with rfl | rfl <;> exact .val _
def AY (p:Nat→Bool):Nat→BV
 | 0=>0
 | n+1=>if p n=true then AY p n ||| BitVec.twoPow 32 n else AY p n
theorem yh (p:Nat→Bool):∀ (n i:Nat),n≤32→((AY p n).getLsbD i=true↔i < n∧p i=true)
 | 0,i,_=>by simp[AY]
 | n+1,i,h=>by
  have ih:=yh p n i (by omega)
  rw[AY]
  split
  ·rename_i hp
   rw[R4,Se,ih,Tg]
   simp only[Rg,Rn]
   constructor
   ·rintro (⟨h1,h2⟩ | ⟨h1,rfl⟩)
    ·exact ⟨by omega,h2⟩
    ·exact ⟨by omega,hp⟩
   ·rintro ⟨h1,h2⟩
    rcases Rw i n with h3 | h3
    ·exact .inl ⟨h3,h2⟩
    ·exact .inr ⟨by omega,by omega⟩
  ·rename_i hp
   rw[ih]
   constructor
   ·rintro ⟨h1,h2⟩; exact ⟨by omega,h2⟩
   ·rintro ⟨h1,h2⟩
    refine ⟨?_,h2⟩
    rcases Rw i n with h3 | h3
    ·exact h3
    ·have:i=n:=by omega
     subst this; exact absurd h2 hp
structure eF where
 aD:Int
 set:BV
 deriving DecidableEq
noncomputable def ct (g:ao):List aP × Int:=if isRed g=true then gg g 302 0 dU else ([],1)
noncomputable def fj (g:ao) (a:List aP):List (List aJ):=a.map fun s=>cQ g s.bh
open Classical in
noncomputable def Bn (g:ao) (a:List aP) (i:Nat) (x:aJ):BV:=AY (fun t=>decide (nt g (au g false) a (fj g a) i x t)) 32
noncomputable def lg (g:ao) (a:List aP) (i:Nat):List eF:=((fj g a).getD i []).filterMap fun x=>if (bO g x).2=false∧0≤x.aD then some ⟨x.aD,Bn g a i x⟩ else none
noncomputable def pC (g:ao) (a:List aP):List (List eF):=(List.range a.length).map (lg g a)
noncomputable def C9 (g:ao):List (List eF) × Int:=if (ct g).2=0 then (pC g (ct g).1,0) else ([],(ct g).2)
structure dy (g:ao) (at_ i:Nat) (out:List aP):Prop where
 bh:∀ s∈out,cz s.bh∧s.bh≠[]∧∀ x∈s.bh,dc g x
 aX:∀ j s,out[j]?=some s→s.aX.length≤40∧(j=at_→s.aX.length≤i)∧(at_ < j→s.aX=[])
 to:∀ s∈out,∀ e∈s.aX,0≤e.to∧e.to < out.length
 sym:∀ s∈out,∀ e∈s.aX,-1000≤e.sym∧e.sym≤1000
theorem mem_modify {α:Type} {l:List α} {i:Nat} {f:α→α} {y:α} (h:y∈l.modify i f):y∈l∨∃ x,l[i]?=some x∧y=f x:=by
 obtain ⟨j,hj,e⟩:=Sk.1 h
 simp only[List.length_modify] at hj
 rw[List.getElem_modify] at e
 split at e
 ·rename_i hij
  subst hij
  exact .inr ⟨l[i],Q7 hj,e.symm⟩
 ·exact .inl (e ▸ Rj hj)
theorem Jl (g:ao) (l:List aJ) (at_:Nat) (out:List aP) (i:Nat):out.length≤(dG g l at_ out i).length∧(dG g l at_ out i).length≤out.length+1:=by
 unfold dG
 split
 ·omega
 ·split
  ·simp
  ·simp
theorem dy.put {g:ao} {at_ i:Nat} {out:List aP} (h:dy g at_ i out) (hi:i < 40) {s:Int} (hs : -1000≤s∧s≤1000) {to:Int} (ht:0≤to∧to < out.length):dy g at_ (i+1) (out.modify at_ fun x=>(⟨x.bh,x.aX ++ [⟨s,to⟩]⟩:aP)):=by
 refine ⟨fun y hy=>?_,fun j y hy=>?_,fun y hy e he=>?_,fun y hy e he=>?_⟩
 rotate_right
 ·rcases mem_modify hy with hy | ⟨x,hx,rfl⟩
  ·exact h.sym y hy e he
  ·rcases Ry.1 he with he | he
   ·exact h.sym x (Re hx) e he
   ·simp at he; subst he; exact hs
 ·rcases mem_modify hy with hy | ⟨x,hx,rfl⟩
  ·exact h.bh y hy
  ·exact h.bh x (Re hx)
 ·rw[List.getElem?_modify] at hy
  cases hx:out[j]? with
  | none=>rw[hx] at hy; simp at hy
  | some x =>
   rw[hx] at hy
   have h1:=h.aX j x hx
   by_cases e:at_=j
   ·subst e
    simp at hy
    subst hy
    have:=h1.2.1 rfl
    refine ⟨by simp; omega,fun _=>by simp; omega,fun h=>by omega⟩
   ·simp[e] at hy
    subst hy
    exact ⟨h1.1,fun h=>absurd h.symm e,h1.2.2⟩
 ·rw[List.length_modify]
  rcases mem_modify hy with hy | ⟨x,hx,rfl⟩
  ·exact h.to y hy e he
  ·rcases Ry.1 he with he | he
   ·exact h.to x (Re hx) e he
   ·simp at he; subst he; exact ht
theorem dy.up {g:ao} {at_ i:Nat} {out:List aP} (h:dy g at_ i out):dy g at_ (i+1) out :=
 ⟨h.bh,fun j s hs=>by have:=h.aX j s hs; exact ⟨this.1,fun e=>by have:=this.2.1 e; omega,this.2.2⟩,h.to,h.sym⟩
theorem dy.add {g:ao} {at_ i:Nat} {out:List aP} (h:dy g at_ i out) {k:List aJ} (hk:cz k∧k≠[]∧∀ x∈k,dc g x):dy g at_ i (out ++ [⟨k,[]⟩]):=by
 refine ⟨fun y hy=>?_,fun j y hy=>?_,fun y hy e he=>?_,fun y hy e he=>?_⟩
 rotate_right
 ·rcases Ry.1 hy with hy | hy
  ·exact h.sym y hy e he
  ·simp at hy; subst hy; simp at he
 ·rcases Ry.1 hy with hy | hy
  ·exact h.bh y hy
  ·simp at hy; subst hy; exact hk
 ·rcases Rw j out.length with hj | hj
  ·rw[Rt hj] at hy; exact h.aX j y hy
  ·rw[RL hj] at hy
   cases hq:j - out.length with
   | zero=>rw[hq] at hy; simp at hy; subst hy; exact ⟨by simp,fun _=>by simp,fun _=>rfl⟩
   | succ q=>rw[hq] at hy; simp at hy
 ·rcases Ry.1 hy with hy | hy
  ·have:=h.to y hy e he; simp; omega
  ·simp at hy; subst hy; simp at he
theorem dy.step {g:ao} {l:List aJ} (hs:cz l) (hl:∀ x∈l,dc g x) {at_ i:Nat} {out:List aP} (h:dy g at_ i out) (hi:i < 40):dy g at_ (i+1) (dG g l at_ out i):=by
 unfold dG
 split
 ·exact h.up
 ·rename_i hne
  have hb : -1000≤aZ g i∧aZ g i≤1000:=by unfold aZ; split <;> omega
  split
  ·exact (h.add ⟨BQ _ hs,hne,Dw hl⟩).put hi hb (by simp; omega)
  ·have:=x5 out (bC g l (aZ g i))
   exact h.put hi hb ⟨by omega,this⟩
theorem dy.next {g:ao} {at_ i:Nat} {out:List aP} (h:dy g at_ i out):dy g (at_+1) 0 out :=
 ⟨h.bh,fun j s hs=>by
  have:=h.aX j s hs
  exact ⟨this.1,fun e=>by have:=this.2.2 (by omega); simp[this],fun e=>this.2.2 (by omega)⟩,h.to,h.sym⟩
theorem dy.row {g:ao} {l:List aJ} (hs:cz l) (hl:∀ x∈l,dc g x) {at_:Nat} {out:List aP} (h:dy g at_ 0 out):∀ n:Nat,n≤40→dy g at_ n ((List.range n).foldl (dG g l at_) out)∧out.length≤((List.range n).foldl (dG g l at_) out).length∧((List.range n).foldl (dG g l at_) out).length≤out.length+n
 | 0,_=>⟨h,Ri _,Ri _⟩
 | n+1,hn=>by
  obtain ⟨h1,h2,h3⟩:=dy.row hs hl h n (by omega)
  rw[Sb,RR]
  simp only[Rx,SD]
  have:=Jl g l at_ ((List.range n).foldl (dG g l at_) out) n
  exact ⟨h1.step hs hl (by omega),by omega,by omega⟩
theorem oC {g:ao} : dy g 0 0 dU:=by
 refine ⟨fun s hs=>?_,fun j s hs=>?_,fun s hs e he=>?_,fun s hs e he=>?_⟩
 rotate_right
 ·simp[dU] at hs; subst hs; simp at he
 ·simp[dU] at hs; subst hs
  refine ⟨by simp[cz],by simp,fun x hx=>?_⟩
  simp at hx; subst hx
  exact ⟨⟨by simp,by simp only; omega⟩,by simp,by simp[aI]⟩
 ·have:=Re hs
  simp[dU] at this; subst this; simp
 ·simp[dU] at hs; subst hs; simp at he
theorem dy.pa {g:ao} (hf:g.dL) {at_ i:Nat} {out:List aP} (h:dy g at_ i out) {j:Nat} (hj:j < out.length):cz (cQ g (out.getD j bm).bh)∧∀ x∈cQ g (out.getD j bm).bh,dc g x:=by
 have hm:=Re (getD_some (d:=bm) hj)
 exact ⟨ki _ _,fun x hx=>((df hf (h.bh _ hm).2.2).1 hx).has (h.bh _ hm).2.2⟩
structure Da (g:ao) (a:List aP):Prop where
 bh:∀ s∈a,cz s.bh∧s.bh≠[]∧∀ x∈s.bh,dc g x
 aX:∀ s∈a,s.aX.length≤40
 to:∀ s∈a,∀ e∈s.aX,0≤e.to∧e.to < a.length
 sym:∀ s∈a,∀ e∈s.aX,-1000≤e.sym∧e.sym≤1000
theorem dy.ok {g:ao} {at_ i:Nat} {out:List aP} (h:dy g at_ i out):Da g out :=
 ⟨h.bh,fun s hs=>by obtain ⟨j,hj,e⟩:=Sk.1 hs; exact (h.aX j s (by rw[Q7 hj,e])).1,h.to,h.sym⟩
theorem EL {g:ao} (hf:g.dL):∀ (f at_:Nat) (out:List aP),dy g at_ 0 out→1≤out.length→out.length≤300→(gg g f at_ out).2=0→Da g (gg g f at_ out).1∧1≤(gg g f at_ out).1.length∧(gg g f at_ out).1.length≤300
 | 0,_,out,h,h1,h2,_=>⟨h.ok,h1,h2⟩
 | f+1,at_,out,h,h1,h2,h3=>by
  rw[gg] at h3 ⊢
  split
  ·rename_i ha
   rw[Ra ha] at h3
   have hr:=dy.row (h.pa hf ha).1 (h.pa hf ha).2 h (g.av.length+g.az.length) (by have:=hf.av; have:=hf.az; omega)
   rw[show (List.range (g.av.length+g.az.length)).foldl (dG g (cQ g (out.getD at_ bm).bh) at_) out=Br g at_ out (g.av.length+g.az.length) from rfl] at hr
   split
   ·rename_i hc; rw[Ra hc] at h3; simp at h3
   ·rename_i hc
    rw[Q9 hc] at h3
    exact EL hf f (at_+1) _ hr.1.next (by omega) (by omega) h3
  ·exact ⟨h.ok,h1,h2⟩
theorem FF {g:ao} (hf:g.dL) (h:(ct g).2=0):Da g (ct g).1∧1≤(ct g).1.length∧(ct g).1.length≤300:=by
 unfold ct at h ⊢
 split
 ·rename_i hr
  rw[Ra hr] at h
  exact EL hf 302 0 dU oC (by simp[dU]) (by simp[dU]) h
 ·rename_i hr
  rw[Q9 hr] at h
  simp at h
def gH (l:List c8):List (List V):=l.map kr
def kZ (s:aP):List V:=[.aH (bT s.bh),.aH (gH s.aX)]
def bS (a:List aP):V:=.aH (a.map kZ)
theorem Oz (l:List c8):Tree (.aH (gH l)):=eT _ _ fun x _ v hv=>by simp[kr] at hv; rcases hv with rfl | rfl <;> exact .val _
theorem IB (s:aP):∀ v∈kZ s,Tree v:=by
 intro v hv; simp[kZ] at hv
 rcases hv with rfl | rfl
 ·exact Ob _
 ·exact Oz _
theorem xJ (a:List aP):Tree (bS a):=eT _ _ fun x _=>IB x
abbrev sk:=V × V × aP
def iN (A:List sk):List (List V):=A.map fun x=>[x.1,x.2.1]
def qS (A:List sk):List cb:=A.flatMap fun x=>[(x.1,2,bT x.2.2.bh),(x.2.1,2,gH x.2.2.aX)]
theorem ga (A:List sk):(iN A).length=A.length:=by simp[iN]
theorem A8 {A:List sk} {x:sk} (hx:x∈A):(x.1,2,bT x.2.2.bh)∈qS A∧(x.2.1,2,gH x.2.2.aX)∈qS A:=by
 constructor <;> exact List.mem_flatMap.2 ⟨x,hx,by simp⟩
theorem Oy {h:aE} {u:V} {A:List sk} (ho:bc h.view u 2 (iN A)) (hb:∀ x∈A,bc h.view x.1 2 (bT x.2.2.bh)∧bc h.view x.2.1 2 (gH x.2.2.aX)):eh h u (bS (A.map fun x=>x.2.2)):=by
 have hg:∀ i (hi:i < A.length),(iN A).getD i []=[(A[i]).1,(A[i]).2.1]∧(((A.map fun x=>x.2.2).map kZ).getD i [])=kZ (A[i]).2.2:=fun i hi=>by
  simp[iN,Q6,hi]
 refine eh.own ho (by simp[iN]) (fun i hi=>?_) (fun i j hi hj=>?_)
 ·have hi':i < A.length:=by simpa [iN] using hi
  rw[(hg i hi').1,(hg i hi').2]; rfl
 ·have hi':i < A.length:=by simpa [iN] using hi
  rw[(hg i hi').2] at hj ⊢
  rw[(hg i hi').1]
  have hx:=hb _ (Rj hi')
  generalize A[i]'hi'=y at hx hj
  obtain ⟨h1,h2⟩:=hx
  match j,hj with
  | 0,_ =>
   refine eh.own h1 rfl (fun i _=>rfl) (fun i j hi hj=>?_)
   rw[bI] at hi
   have e:(bT y.2.2.bh).getD i []=gW y.2.2.bh[i]:=by simp[bT,Q6,hi]
   rw[e] at hj ⊢
   match j,hj with
   | 0,_=>exact .val _
   | 1,_=>exact .val _
  | 1,_ =>
   refine eh.own h2 rfl (fun i _=>rfl) (fun i j hi hj=>?_)
   simp only[gH,Ro] at hi
   have e:(gH y.2.2.aX).getD i []=kr y.2.2.aX[i]:=by simp[gH,Q6,hi]
   rw[e] at hj ⊢
   match j,hj with
   | 0,_=>exact .val _
   | 1,_=>exact .val _
  | n+2,hj=>exact absurd hj (by simp[kZ])
theorem sN {h:aE} {u v:V} {e:Int} (h1:eh h u v):eh h (.bt [u,gi e]) (.bt [v,gi e]):=.bt _ _ rfl fun i hi=>by
 match i,hi with
 | 0,_=>exact h1
 | 1,_=>exact .val _
theorem qH {α:Type} {l:List α} {i:Nat} (h:i < l.length):∃ a x b,l=a ++ x :: b∧a.length=i∧l[i]?=some x :=
 ⟨l.take i,l[i],l.drop (i+1),by rw[← RX h,List.take_append_drop],by simp; omega,Q7 h⟩
theorem IF {α:Type} (a:List α) (x:α) (b:List α) (f:α→α):(a ++ x :: b).modify a.length f=a ++ f x :: b:=by
 induction a with
 | nil=>rfl
 | cons y a ih=>simp only[RM,Rp,List.modify_succ_cons,ih]
theorem iC {g:ao} (h:isRed g=true):bE g=true:=by
 unfold isRed at h
 simp only[Rg,Sd,Rn] at h
 refine RY fun hn=>?_
 have h1:=h.1
 unfold gL at h1
 simp[hn] at h1
theorem pw {g:ao} (h:isRed g=true):g.dL:=bL (iC h)
theorem Ge (A:List sk) (x:sk) (B:List sk):qS (A ++ x :: B)=qS A ++ (x.1,2,bT x.2.2.bh) :: (x.2.1,2,gH x.2.2.aX) :: qS B:=by simp[qS]
abbrev gw (s:BV):V:=.val (.int .u32 s.toNat)
abbrev bQ (l:List BV):List (List V):=l.map fun x=>[gw x]
abbrev jv (l:List BV):V:=.aH (bQ l)
theorem KQ (l:List BV):Tree (jv l):=eT _ _ fun x _ v hv=>by simp at hv; subst hv; exact .val _
theorem IT {x:Int} (h1:0≤x) (h2:x < 4294967296):IntKind.wrap .u32 x=x:=by
 unfold IntKind.wrap
 have e1:(2:Int) ^ IntKind.u32.bits=4294967296:=by rfl
 have e3:IntKind.u32.signed=false:=by rfl
 simp only[e1,e3,SL,Rn]
 simp
 omega
theorem NU (s:BV):IntKind.wrap .u32 (s.toNat:Int)=s.toNat:=IT (by omega) (by have:=s.isLt; omega)
theorem zE (s:BV):BitVec.ofInt IntKind.u32.bits (s.toNat:Int)=s:=by
 show BitVec.ofInt 32 (s.toNat:Int)=s
 rw[BitVec.ofInt_natCast,BitVec.ofNat_toNat,BitVec.setWidth_eq]
theorem qq (s t:BV):IntKind.wrap .u32 ((BitVec.ofInt IntKind.u32.bits (s.toNat:Int) ||| BitVec.ofInt IntKind.u32.bits (t.toNat:Int)).toNat:Int)=((s ||| t).toNat:Int):=by
 rw[zE,zE]; exact NU (s ||| t)
theorem M4 (s t:BV):IntKind.wrap .u32 ((BitVec.ofInt IntKind.u32.bits (s.toNat:Int) &&& ~~~(BitVec.ofInt IntKind.u32.bits (t.toNat:Int))).toNat:Int)=((s &&& ~~~t).toNat:Int):=by
 rw[zE,zE]; exact NU (s &&& ~~~t)
theorem toNat_zero {s:BV} : ((s.toNat:Nat):Int)=0↔s=0:=by
 constructor
 ·intro h; exact BitVec.eq_of_toNat_eq (by simpa using h)
 ·rintro rfl; rfl
def na:SC :=
 .seq (.seq (an [aj 11 4,aj 12 0,bz 13 .lss 11 12]) <|
 .cond (.tmp 13) (.skip) (.exit 0)) <|
 .seq (.block 1 (an [aj 16 3,((some 17),.op (.arith .mul (.tmp 16) (.val (.val (.int .u32 2))))),aj 3 17])) <|
 an [aj 14 4,aR 15 .add 14 1,aj 4 15]
def pg:SF:=⟨.seq (an [((some 2),.op (.bN (.val (.val (.int .u32 0)))))]) <|
 .seq (.seq (.region false [⟨none,[aj 5 0,aR 6 .lss 5 0,aj 7 6]⟩,⟨(some (7,false)),[aj 8 0,aR 9 .gtr 8 31]⟩,⟨none,[cU 10 7 9]⟩]) <|
 .cond (.tmp 10) (.seq (an [((some 2),.op (.bN (.val (.val (.int .u32 0)))))]) <|
 .ret) (.skip)) <|
 .seq (an [((some 3),.op (.bN (.val (.val (.int .u32 1)))))]) <|
 .seq (.seq (an [bA 4 0]) <|
 .block 0 (.loop na)) <|
 .seq (an [aj 18 3,aj 2 18]) <|
 .ret,
 [.tmp 2],19⟩
theorem th:aU Tryz.prog 77 []=some pg:=by kernel_rfl
def oM:SC :=
 .seq (.seq (an [aj 11 10,aj 12 0,bj 13 12,bz 14 .lss 11 13]) <|
 .cond (.tmp 14) (.skip) (.exit 0)) <|
 .seq (.block 1 (.seq (.seq (an [aj 17 0,aj 18 10,aY 19 1 17 18,ay 20 19,aR 21 .geq 20 0]) <|
 .cond (.tmp 21) (.seq (an [aj 22 9,aj 23 0,aj 24 10,aY 25 1 23 24,ay 26 25,bJ 27 77 [26],bz 28 .or 22 27,aj 8 28]) <|
 .ret) (.skip)) <|
 .seq (an [aj 29 9,aj 30 2,aj 31 0,aj 32 10,aY 33 1 31 32,ay 34 33,((some 35),.op (.arith .sub (.val (.val (.int .i64 (-1)))) (.tmp 34))),aY 36 1 30 35,ay 37 36,bz 38 .or 29 37,aj 9 38]) <|
 .seq (an [aj 39 1,aj 40 0,aj 41 10,aY 42 1 40 41,ay 43 42,((some 44),.op (.arith .sub (.val (.val (.int .i64 (-1)))) (.tmp 43))),aY 45 1 39 44,ay 46 45,dm 47 46]) <|
 .cond (.tmp 47) (.seq (an [aj 48 9,aj 8 48]) <|
 .ret) (.skip))) <|
 an [aj 15 10,aR 16 .add 15 1,aj 10 16]
def qf:SF:=⟨.seq (an [((some 8),.op (.bN (.val (.val (.int .u32 0)))))]) <|
 .seq (an [((some 9),.op (.bN (.val (.val (.int .u32 0)))))]) <|
 .seq (.seq (an [bA 10 0]) <|
 .block 0 (.loop oM)) <|
 .seq (an [aj 49 9,aj 50 3,bz 51 .or 49 50,aj 8 51]) <|
 .ret,
 [.tmp 8],52⟩
theorem uQ:aU Tryz.prog 83 []=some qf:=by kernel_rfl
def lG:SC :=
 .seq (.seq (an [aj 24 6,aC 25 2 1,ay 26 25,bj 27 26,bz 28 .lss 24 27]) <|
 .cond (.tmp 28) (.skip) (.exit 2)) <|
 .seq (.block 3 (.seq (an [aC 31 2 1,ay 32 31,aj 33 6,aY 34 3 32 33,bM 35 3 34,((some 7),.op (.alloc [(.val (.int .i64 0)),(.emp 1),(.val (.int .i64 0))])),(none,.op (.store 3 (.tmp 7) (.tmp 35)))]) <|
 .region true [⟨none,[aj 36 4,aC 37 0 7,ay 38 37,aj 39 4,aC 40 0 7,ay 41 40,aY 42 1 39 41,ay 43 42,aC 44 1 7,ay 45 44,aj 46 3,aj 47 4,p7 48 83 [(.tmp 45),(.tmp 46),(.tmp 47),(.val (.val (.int .u32 0)))],bz 49 .or 43 48,aY 50 1 36 38,(none,.op (.store 1 (.tmp 50) (.tmp 49)))]⟩])) <|
 an [aj 29 6,aR 30 .add 29 1,aj 6 30]
def lR:SC :=
 .seq (.seq (an [aj 17 5,aC 18 1 1,ay 19 18,bj 20 19,bz 21 .lss 17 20]) <|
 .cond (.tmp 21) (.skip) (.exit 0)) <|
 .seq (.block 1 (.seq (an [bA 6 0]) <|
 .block 2 (.loop lG))) <|
 an [aj 22 5,aR 23 .add 22 1,aj 5 23]
def nb:SF:=⟨.seq (an [dN 1 0,((some 2),.op (.bN (.val (.emp 1))))]) <|
 .seq (.seq (an [bM 8 4 1,bJ 9 54 [8],dm 10 9]) <|
 .cond (.tmp 10) (.seq (an [((some 2),.op (.bN (.val (.emp 1))))]) <|
 .ret) (.skip)) <|
 .seq (an [bM 11 4 1,bJ 12 81 [11],aj 3 12]) <|
 .seq (an [aC 13 1 1,ay 14 13,bj 15 14,((some 16),.op (.make 1 4 [(.val (.int .u32 0))] (.tmp 15) (.tmp 15))),aj 4 16]) <|
 .seq (.seq (an [bA 5 0]) <|
 .block 0 (.loop lR)) <|
 .seq (an [aj 51 4,aj 2 51]) <|
 .ret,
 [.tmp 2],52⟩
theorem rK:aU Tryz.prog 82 [1]=some nb:=by kernel_rfl
theorem DY {n:Int} (h:0≤n∧n≤31):(dI n).toNat=2 ^ n.toNat:=by
 rw[dI,Ra h,BitVec.toNat_twoPow]
 exact Nat.mod_eq_of_lt (Nat.pow_lt_pow_right (by omega) (by omega))
theorem EI (n:Int):aG Tryz.prog 77 [gi n] (gw (dI n)):=by
 refine aG.val (by intro v hv; simp at hv; subst hv; exact .val _) fun H=>?_
 refine aB.of mixed th ?_
 simp (disch:=omega) only [↓wr,seval,wq,ah,ag,ak,aa,ab,af,ai,ae,pg]
 have bad:¬ (0≤n∧n≤31)→dI n=0:=fun h=>by rw[dI,Q9 h]
 refine aq.dec (fun h1=>?_) (fun h1=>?_)
 ·simp (disch:=omega) only [↓wr,seval,wq,ah,ag,ak,aa,ab,af,ai,ae]
  rw[bad (by omega)]; rfl
 simp (disch:=omega) only [↓wr,seval,wq,ah,ag,ak,aa,ab,af,ai,ae]
 refine aq.dec (fun h2=>?_) (fun h2=>?_)
 ·simp (disch:=omega) only [↓wr,seval,wq,ah,ag,ak,aa,ab,af,ai,ae]
  rw[bad (by omega)]; rfl
 simp (disch:=omega) only [↓wr,seval,wq,ah,ag,ak,aa,ab,af,ai,ae]
 refine bg.up n.toNat (fun i T H'=>T 0=gi n∧T 3=.val (.int .u32 ((2 ^ i:Nat):Int))∧T 4=gi i) ⟨rfl,rfl,rfl⟩ ?_
 rintro i k T H' hk ⟨t0,t3,t4⟩
 simp (disch:=omega) only [↓wr,seval,wq,ah,ag,ak,aa,ab,af,ai,ae,na,t0,t3,t4]
 refine aq.dec (fun hc=>?_) (fun hc=>?_)
 ·have h31:2 ^ (i+1)≤2 ^ 31:=Nat.pow_le_pow_right (by omega) (by omega)
  have e:2 ^ (i+1)=2 ^ i * 2:=Nat.pow_succ _ _
  have hw:IntKind.wrap .u32 (((2 ^ i:Nat):Int) * 2)=((2 ^ (i+1):Nat):Int):=by
   rw[e,Int.natCast_mul]
   exact IT (by omega) (by omega)
  simp (disch:=omega) only [↓wr,seval,wq,ah,ag,ak,aa,ab,af,ai,ae,t0,t3,t4,hw]
  exact aQ hk (by omega) ⟨t0,rfl,rfl⟩
 ·simp (disch:=omega) only [↓wr,seval,wq,ah,ag,ak,aa,ab,af,ai,ae,t0,t3,t4]
  rw[DY (by omega),show i=n.toNat by omega]
theorem sR {l:List BV} {i:Nat} {x:BV} (h:l[i]?=some x):(bQ l).getD i []=[gw x]:=by simp[Q6,h]
set_option maxHeartbeats 4000000 in
theorem HF (syms:List Int) (null:List Bool) (first:List BV) (rest:BV) (hs:aV syms) (hn:∀ s∈syms,cm s∧(s < 0→(-1 - s).toNat < null.length∧(-1 - s).toNat < first.length)) :
  aG Tryz.prog 83 [encI syms,bG null,jv first,gw rest] (gw (eN null first rest syms)):=by
 unfold aV at hs
 refine aG.val (by
  intro v hv; simp at hv
  rcases hv with rfl | rfl | rfl | rfl
  ·exact gD _
  ·exact gG _
  ·exact KQ _
  ·exact .val _) fun H=>?_
 refine aB.of mixed uQ ?_
 simp (disch:=omega) only [↓wr,seval,wq,ah,ag,ak,aa,ab,af,ai,ae,qf,encI,bG]
 refine bg.up syms.length (fun i T H'=>∃ s:BV,s ||| eN null first rest (syms.drop i)=eN null first rest syms∧T 0=encI syms∧T 1=bG null∧T 2=jv first∧T 3=gw rest∧T 9=gw s∧T 10=gi i) ⟨0,by simp,rfl,rfl,rfl,rfl,rfl,rfl⟩ ?_
 rintro i k T H' hk ⟨s,he,t0,t1,t2,t3,t9,t10⟩
 simp (disch:=omega) only [↓wr,seval,wq,ah,ag,ak,aa,ab,af,ai,ae,oM,t0,t1,t2,t3,t9,t10,encI]
 refine aq.dec (fun hc=>?_) (fun hc=>?_)
 ·have hx:syms[i]?=some (syms[i]'(by omega)):=Q7 (by omega)
  have hdr:syms.drop i=syms[i]'(by omega) :: syms.drop (i+1):=RX (by omega)
  have hm:=hn _ (Rj (show i < syms.length by omega))
  generalize syms[i]'(by omega)=x at hx hdr hm
  obtain ⟨hm1,hm2⟩:=hm
  unfold cm at hm1
  rw[hdr,eN] at he
  simp (disch:=omega) only [↓wr,seval,wq,ah,ag,ak,aa,ab,af,ai,ae,t0,t1,t2,t3,t9,t10,encI,Rc,hx,Rk]
  refine aq.dec (fun h0=>?_) (fun h0=>?_)
  ·rw[Ra h0] at he
   simp (disch:=omega) only [↓wr,seval,wq,ah,ag,ak,aa,ab,af,ai,ae,t0,t1,t2,t3,t9,t10,encI,Rc,hx,Rk]
   refine aF.pure (EI x) (by kernel_rfl) ?_
   simp (disch:=omega) only [↓wr,seval,wq,ah,ag,ak,aa,ab,af,ai,ae,qq]
   rw[he]
  ·rw[Q9 h0] at he
   obtain ⟨q1,q2⟩:=hm2 (by omega)
   have hb:null[(-1 - x).toNat]?=some (null.getD (-1 - x).toNat false):=getD_some q1
   have hf:first[(-1 - x).toNat]?=some (first.getD (-1 - x).toNat 0):=getD_some q2
   simp (disch:=omega) only [↓wr,seval,wq,ah,ag,ak,aa,ab,af,ai,ae,t0,t1,t2,t3,t9,t10,encI,bG,jv,Rc,hx,hb,hf,Rk,qq]
   refine aq.split (fun hnb=>?_) (fun hnb=>?_)
   ·simp (disch:=omega) only [↓wr,seval,wq,ah,ag,ak,aa,ab,af,ai,ae,t0,t1,t2,t3,t9,t10]
    rw[Ra hnb,← BitVec.or_assoc] at he
    exact aQ hk (by omega) ⟨_,he,t0,t1,t2,t3,rfl,rfl⟩
   ·simp (disch:=omega) only [↓wr,seval,wq,ah,ag,ak,aa,ab,af,ai,ae]
    rw[Q9 (by rw[hnb]; simp)] at he
    exact Sp (fun z:BV=>gw z) he
 ·rw[RB (by omega),eN] at he
  simp (disch:=omega) only [↓wr,seval,wq,ah,ag,ak,aa,ab,af,ai,ae,t3,t9,qq]
  rw[he]
theorem Cw {h:aE} {u:V} {l:List BV} (ho:bc h.view u 1 (bQ l)):eh h u (jv l):=eh.Ng (f:=fun x:BV=>.int .u32 x.toNat) ho
theorem HQ {H:View} {u:V} {l:List BV} (h:bc H u 1 (bQ l)):fh H u (jv l) :=
 fh.own h fun e he v hv=>by
  obtain ⟨x,_,rfl⟩:=Rv.1 he
  simp at hv; subst hv; exact .val _
def EU (g:ao):List BV:=if bE g=true then cD g (au g false) else []
set_option maxHeartbeats 8000000 in
theorem I0 (g:ao) (hg:g.Ok):de Tryz.prog 82 [.agg (aw g)] (jv (EU g)):=by
 refine de.of (eU g) ?_
 have hr9:=ud g hg
 have hnl:=uK g hg
 refine aB.of mixed rK ?_
 simp only[aw,encS] at hr9 hnl
 simp (disch:=omega) only [↓wr,seval,wq,ah,ag,ak,aa,ab,af,ai,ae,nb,aw,encS]
 refine aF.pure hr9 (by kernel_rfl) ?_
 unfold EU
 simp (disch:=omega) only [↓wr,seval,wq,ah,ag,ak,aa,ab,af,ai,ae]
 refine aq.split (fun hr=>?_) (fun hr=>?_)
 rotate_left
 ·simp (disch:=omega) only [↓wr,seval,wq,ah,ag,ak,aa,ab,af,ai,ae]
  rintro h' _
  rw[Q9 (by rw[hr]; simp)]
  exact .emp _
 have hf:=bL hr
 have hN:=hf.az; have hN1:=hf.pN
 rw[Ra hr]
 have hnlen:=fG hr false
 simp (disch:=omega) only [↓wr,seval,wq,ah,ag,ak,aa,ab,af,ai,ae,aw,encS]
 refine aF.pure hnl (by kernel_rfl) ?_
 generalize au g false=null at hnlen ⊢
 simp (disch:=omega) only [↓wr,seval,wq,ah,ag,ak,aa,ab,af,ai,ae,aw,encS]
 refine ⟨⟨by omega,by unfold aK; omega,by unfold aK; omega⟩,fun hz=>absurd hz (by omega),fun _ m=>?_⟩
 have hrep:List.replicate g.az.length [V.val (Value.int IntKind.u32 0)]=bQ (List.replicate g.az.length (0:BV)):=by simp
 rw[hrep]
 have h0l:(List.replicate g.az.length (0:BV)).length=g.az.length:=by simp
 unfold cD
 generalize List.replicate g.az.length (0:BV)=fs0 at h0l ⊢
 refine bg.intro (fun k T H'=>∃ (i:Nat) (fs:List BV),i+k=g.az.length∧fs.length=g.az.length∧iter (qy g null) k fs=iter (qy g null) g.az.length fs0∧T 1=.aL (aw g) 0∧T 3=bG null∧T 4=.sl m 0 g.az.length 1∧H' m=.arr 1 (bQ fs)∧T 5=gi i) g.az.length
  ⟨0,fs0,by omega,h0l,rfl,rfl,rfl,rfl,by simp[View.set],rfl⟩ ?_
 rintro k T H' ⟨i,fs,hk,hlen,hi,t1,t3,t4,tm,t5⟩
 simp (disch:=omega) only [↓wr,seval,wq,ah,ag,ak,aa,ab,af,ai,ae,lR,t1,t3,t4,t5,aw,encS]
 refine aq.dec (fun hc=>?_) (fun hc=>?_)
 ·simp (disch:=omega) only [↓wr,seval,wq,ah,ag,ak,aa,ab,af,ai,ae,t1,t3,t4,t5]
  refine bg.up g.rules.length (fun j T H'=>∃ fs':List BV,fs'.length=g.az.length∧(g.rules.drop j).foldl (jI null) fs'=qy g null fs∧T 1=.aL (aw g) 0∧T 3=bG null∧T 4=.sl m 0 g.az.length 1∧H' m=.arr 1 (bQ fs')∧T 5=gi i∧T 6=gi j)
   ⟨fs,hlen,rfl,t1,t3,t4,tm,t5,rfl⟩ ?_
  clear t1 t3 t4 tm t5
  rintro j k2 T2 H2 hk2 ⟨fs',hl',hj,t1,t3,t4,tm,t5,t6⟩
  simp (disch:=omega) only [↓wr,seval,wq,ah,ag,ak,aa,ab,af,ai,ae,lG,t1,t3,t4,t5,t6,aw]
  refine aq.dec (fun hd=>?_) (fun hd=>?_)
  ·have hru:=hf.rules
   have hg2:g.rules[j]?=some (g.rules[j]'(by omega)):=Q7 (by omega)
   rw[eC (show j < g.rules.length by omega)] at hj
   have hmem:g.rules[j]'(by omega)∈g.rules:=Rj _
   generalize g.rules[j]'(by omega)=R at hg2 hj hmem
   simp only[Rx] at hj
   obtain ⟨hl1,hl2⟩:=hf.left R hmem
   obtain ⟨_,_,hs1,hs2⟩:=hg.aD R hmem
   have hof:=HF R.right null fs' 0 hs1 fun s hs=>⟨hs2 s hs,fun hn=>by have:=hf.neg hmem hs hn; omega⟩
   have hfl:fs'[R.left.toNat]?=some (fs'.getD R.left.toNat 0):=getD_some (by omega)
   simp (disch:=omega) only [↓wr,seval,wq,ah,ag,ak,aa,ab,af,ai,ae,t1,t3,t4,t5,t6,aw,encS,aO,Rc,hg2,Rk]
   intro b hb
   have hbm:¬ m=b:=by rintro rfl; rw[tm] at hb; simp at hb
   rw[set_set]
   simp (disch:=omega) only [↓wr,seval,wq,ah,ag,ak,aa,ab,af,ai,ae,t1,t3,t4,t5,t6,tm,hbm,sR hfl]
   refine ⟨rfl,by omega,by omega,?_⟩
   refine aF.Ds hof (by kernel_rfl) (.val _) ⟨.tree (gD _),.tree (gG _),HQ (.inr ⟨m,by simp[hl'],by simp[View.set,hbm,tm]⟩),.tree (.val _),trivial⟩ ?_
   simp (disch:=omega) only [↓wr,seval,wq,ah,ag,ak,aa,ab,af,ai,ae,t1,t3,t4,t5,t6,tm,hbm,sR hfl,qq]
   refine ⟨by omega,by first | omega | (simp; omega),aQ hk2 (by omega) ⟨jI null fs' R,by rw[BU]; exact hl',hj,t1,t3,t4,?_,t5,rfl⟩⟩
   rw[show bQ (jI null fs' R)=(bQ fs').set R.left.toNat [gw (fs'.getD R.left.toNat 0 ||| eN null fs' 0 R.right)] from by rw[jI,bQ,Sr]]
   simp only[View.set,if_true]
   rfl
  ·rw[RB (by omega),SD] at hj
   simp (disch:=omega) only [↓wr,seval,wq,ah,ag,ak,aa,ab,af,ai,ae,t1,t3,t4,t5]
   obtain ⟨q,rfl⟩:∃ q,k=q+1:=⟨k - 1,by omega⟩
   exact ⟨q,by omega,i+1,fs',by omega,hl',by rw[hj]; exact hi,rfl,tm,rfl⟩
 ·simp (disch:=omega) only [↓wr,seval,wq,ah,ag,ak,aa,ab,af,ai,ae,t4]
  have:k=0:=by omega
  subst this
  rintro h' rfl
  rw[← hi,← hlen]
  exact Cw (.inr ⟨m,by simp[iter],tm⟩)
instance (g:ao) (x:aJ):Decidable (dc g x):=by unfold dc; infer_instance
theorem J8 {α:Type} {l:List α} {p:α→Bool} {i:Nat} {x:α} (h:l[i]?=some x):(l.take (i+1)).filter p=if p x=true then (l.take i).filter p ++ [x] else (l.take i).filter p:=by
 rw[RG,h,Sw]
 split
 ·rename_i hp; simp[hp]
 ·rename_i hp; simp[hp]
section
variable {H:View} {b:Nat} {g:ao} {a:List aP} {ul us:V} {vs:List V} {ls:List (List aJ)} {ss:Sets} {more:Bool} {L:List cb}
end
section
variable {H:View} {b:Nat} {g:ao} {a:List aP} {ul us:V} {vs:List V} {ls:List (List aJ)} {ss:Sets} {more:Bool} {L:List cb}
end
section
variable {H:View} {b:Nat} {g:ao} {a:List aP} {ul us:V} {vs:List V} {ls:List (List aJ)} {ss:Sets} {more:Bool} {L:List cb}
end
def pJ (p:eF):List V:=[gi p.aD,gw p.set]
def jY (l:List eF):List (List V):=l.map pJ
def gR (l:List (List eF)):V:=.aH (l.map fun r=>[.aH (jY r)])
abbrev G7:=List (V × List eF)
def nq (B:G7):List cb:=B.map fun x=>(x.1,2,jY x.2)
theorem Ov {h:aE} {u:V} {B:G7} (ho:bc h.view u 1 (bD B)) (hb:∀ x∈B,bc h.view x.1 2 (jY x.2)):eh h u (gR (B.map (·.2))):=by
 have hg:∀ i (hi:i < B.length),(bD B).getD i []=[(B[i]).1]∧(((B.map (·.2)).map fun r=>[V.aH (jY r)]).getD i [])=[.aH (jY (B[i]).2)]:=fun i hi=>by
  simp[bD,Q6,hi]
 refine eh.own ho (by simp[bD]) (fun i hi=>?_) (fun i j hi hj=>?_)
 ·have hi':i < B.length:=by simpa [bD] using hi
  rw[(hg i hi').1,(hg i hi').2]; rfl
 ·have hi':i < B.length:=by simpa [bD] using hi
  rw[(hg i hi').2] at hj ⊢
  rw[(hg i hi').1]
  have:j=0:=by simp at hj; omega
  subst this
  simp only[Sh]
  have hx:=hb _ (Rj hi')
  generalize (B[i]'hi').2=l at hx
  refine eh.own hx rfl (fun i _=>rfl) (fun i j hi hj=>?_)
  simp only[jY,Ro] at hi
  have e:(jY l).getD i []=pJ l[i]:=by simp[jY,Q6,hi]
  rw[e] at hj ⊢
  match j,hj with
  | 0,_=>exact .val _
  | 1,_=>exact .val _
open Go Go.Proofs Go.Shelf Go.RowKit Go.Sort
theorem bH.cut {P:Program} {f:FuncId} {vs:List V} {h h':aE} {r:V} (hc:bH P f vs h r h') {id sz:Nat} {es rest:List (List V)} (hid:h'.view id=.arr sz (es ++ rest)):bH P f vs h r (h'.set id (.arr sz es)):=by
 have hlt:id < h'.length:=gJ (by rw[hid]; simp)
 refine ⟨by simpa using hc.1,fun Z μ F w xs hr hh hf=>(hc.2 Z μ F w xs hr hh (by simpa using hf)).mono ?_⟩
 rintro e w' ⟨x,Z',μ',rfl,hv,hh',hex,hmu⟩
 refine ⟨x,Z',μ',rfl,hv,?_,hex,by simpa using hmu⟩
 have e1:∀ k,cat (h'.set id (.arr sz es)) F k=if k=id then .arr sz es else cat h' F k:=fun k=>by
  simp only[cat,List.length_set]
  by_cases hk:k < h'.length
  ·rw[Ra hk,Ra hk,jj hlt]; rfl
  ·rw[Q9 hk,Q9 hk,Q9 (by omega)]
 have e2:cat h' F id=.arr sz (es ++ rest):=by simp only[cat]; rw[Ra hlt,hid]
 refine ⟨fun k=>?_,fun i j b o s o' s' hne h1 h2=>?_,hh'.lt,hh'.cg,hh'.gf⟩
 ·rw[e1]
  split
  ·rename_i hk
   subst hk
   have h3:=hh'.obj k
   rw[e2] at h3
   intro b o0 s hm
   obtain ⟨k1,⟨c,e,f,hc,hf,hs⟩,k3,k4⟩:=h3 b o0 s hm
   have hg:∀ i,i < es.length→(es ++ rest).getD i []=es.getD i []:=fun i hi=>by
    simp[Q6,Rt hi]
   refine ⟨k1,⟨c,e,f,hc,hf,?_⟩,fun i hi=>?_,fun i j hi hj=>?_⟩
   ·rw[R5,RP] at hs; omega
   ·rw[← hg i hi]; exact k3 i (by rw[R5]; omega)
   ·rw[← hg i hi]; exact k4 i j (by rw[R5]; omega) hj
  ·exact hh'.obj k
 ·have h3:=hh'.inj i j b o s o' s' hne h1 h2
  rw[e1,e1]
  rcases h3 with h3 | h3
  ·left
   rw[Q9 (fun e=>by rw[e,e2] at h3; simp at h3)]; exact h3
  ·right
   rw[Q9 (fun e=>by rw[e,e2] at h3; simp at h3)]; exact h3
theorem aB.cut {P:Program} {f:FuncId} {vs:List V} {H:View} {K K':V→View→Prop} (h:aB P f vs H K) (hk:∀ r H',K r H'→K' r H'∨∃ id sz es rest,H' id=.arr sz (es ++ rest)∧K' r (H'.set id (.arr sz es))):aB P f vs H K':=by
 refine ⟨h.1,fun h0 hv=>?_⟩
 obtain ⟨r,h',ha,hs,hK⟩:=h.2 h0 hv
 rcases hk r _ hK with h1 | ⟨id,sz,es,rest,hid,h1⟩
 ·exact ⟨r,h',ha,hs,h1⟩
 ·have hlt:id < h'.length:=gJ (by rw[hid]; simp)
  refine ⟨r,h'.set id (.arr sz es),ha.cut hid,fun k hk0 hd=>?_,by rw[jj hlt]; exact h1⟩
  have h2:=hs k hk0 hd
  rw[jj hlt]
  simp only[View.set]
  rw[Q9 (fun e=>by rw[e,hid] at h2; simp at h2)]
  exact h2
instance:Inhabited aJ:=⟨⟨0,0⟩⟩
def ia (x:aJ):List Value:=[.int .i64 x.aD,.int .i64 x.dot]
def mq (a b:aJ):Int:=if Lib.compareInt a.aD b.aD≠0 then Lib.compareInt a.aD b.aD else Lib.compareInt a.dot b.dot
theorem Mh (a b:aJ):(Lib.compareInt a.aD b.aD≠0→mq a b=Lib.compareInt a.aD b.aD)∧(Lib.compareInt a.aD b.aD=0→mq a b=Lib.compareInt a.dot b.dot):=by
 unfold mq
 exact ⟨fun h=>by rw[Ra h],fun h=>by rw[Q9 (by simp[h])]⟩
theorem p9 (a b:aJ):ltOf mq a b=cP a b:=by
 have hc:∀ x y:Int,(x < y∧Lib.compareInt x y = -1)∨(x=y∧Lib.compareInt x y=0)∨(y < x∧Lib.compareInt x y=1):=fun x y=>by
  unfold Lib.compareInt; (repeat' split) <;> omega
 rw[Si,eu]
 simp only[ltOf,Rn,mq]
 rcases hc a.aD b.aD with ⟨h,e⟩ | ⟨h,e⟩ | ⟨h,e⟩ <;> rcases hc a.dot b.dot with ⟨k,e2⟩ | ⟨k,e2⟩ | ⟨k,e2⟩ <;> simp[e,e2] <;> omega
theorem IM:SWO (ltOf mq) where
 irrefl x:=by rw[p9]; exact mA
 trans x y z h k:=by rw[p9] at *; exact mr h k
 ntrans x y z h k:=by
  rw[p9] at *
  cases e:cP x z with
  | false=>rfl
  | true =>
   have h1:¬ cP x y=true:=by simp[h]
   have h2:¬ cP y z=true:=by simp[k]
   rw[eu] at h1 h2 e
   omega
def dM (l:List aJ):List aJ:=l.mergeSort fun x y=>!cP y x
theorem Kc (l:List aJ):(l.toArray.toList.mergeSort fun x y=>!(ltOf mq) y x)=dM l:=by
 have e:(fun x y=>!(ltOf mq) y x)=fun x y=>!cP y x:=by funext x y; rw[p9]
 rw[e]; rfl
theorem xP (l:List aJ):(dM l).Perm l:=List.mergeSort_perm _ _
theorem iu (l:List aJ):(dM l).length=l.length:=(xP l).length_eq
theorem xw (l:List aJ):(dM l).Pairwise fun x y=>cP y x=false:=by
 have:=List.pairwise_mergeSort (le:=fun x y:aJ=>!cP y x) (fun a b c h k=>by
  simp only[Tx,Bool.not_eq_false'] at h k ⊢
  cases e:cP c a with
  | false=>simp
  | true =>
   have h1:¬ cP b a=true:=by simpa using h
   have h2:¬ cP c b=true:=by simpa using k
   rw[eu] at h1 h2 e
   omega) (fun a b=>by
  cases e:cP b a with
  | false=>simp
  | true=>simp[FN e]) l
 exact this.imp fun h=>by simpa using h
def Ls:Ren where
 f:=fun
  | 6=>112
  | 15=>167
  | 14=>166
  | 28=>207
  | 29=>208
  | 20=>199
  | 21=>200
  | 22=>201
  | 23=>202
  | 24=>203
  | 25=>204
  | 26=>205
  | 27=>206
  | 46=>227
  | 47=>228
  | 48=>229
  | 49=>230
  | 50=>231
  | 57=>244
  | n=>n
 t:=fun
  | 22=>27
  | 24=>33
  | 25=>164
  | 3=>3
  | 39=>212
  | 0=>0
  | 53=>67
  | 55=>249
  | 4=>4
  | 46=>242
  | 45=>241
  | 50=>30
  | 5=>5
  | 9=>9
  | 66=>269
  | 70=>273
  | 76=>282
  | 77=>283
  | n=>n
 g:=fun n=>n
theorem N1:Go.Proofs.SlLaysF0.n6 Tryz.prog Ls where
 mixed:=by kernel_rfl
 f6:=⟨Tryz.f112.name,by kernel_rfl,by kernel_rfl⟩
 f14:=⟨Tryz.f166.name,by kernel_rfl,by kernel_rfl⟩
 f15:=by kernel_rfl
 f20:=⟨Tryz.f199.name,by kernel_rfl,by kernel_rfl⟩
 f21:=⟨Tryz.f200.name,by kernel_rfl,by kernel_rfl⟩
 f22:=⟨Tryz.f201.name,by kernel_rfl,by kernel_rfl⟩
 f23:=⟨Tryz.f202.name,by kernel_rfl,by kernel_rfl⟩
 f24:=⟨Tryz.f203.name,by kernel_rfl,by kernel_rfl⟩
 f25:=⟨Tryz.f204.name,by kernel_rfl,by kernel_rfl⟩
 f26:=⟨Tryz.f205.name,by kernel_rfl,by kernel_rfl⟩
 f27:=⟨Tryz.f206.name,by kernel_rfl,by kernel_rfl⟩
 f28:=by kernel_rfl
 f29:=by kernel_rfl
 f46:=⟨Tryz.f227.name,by kernel_rfl,by kernel_rfl⟩
 f47:=by kernel_rfl
 f48:=by kernel_rfl
 f49:=⟨Tryz.f230.name,by kernel_rfl,by kernel_rfl⟩
 f50:=⟨Tryz.f231.name,by kernel_rfl,by kernel_rfl⟩
 f57:=⟨Tryz.f244.name,by kernel_rfl,by kernel_rfl⟩
 t0:=Tryz.underlying0
 a0:=Tryz.isAgg0
 z0:=Tryz.sizeOf0
 v0:=Tryz.zeroValue0
 t3:=Tryz.underlying3
 a3:=Tryz.isAgg3
 z3:=Tryz.sizeOf3
 v3:=Tryz.zeroValue3
 t4:=Tryz.underlying4
 a4:=Tryz.isAgg4
 z4:=Tryz.sizeOf4
 v4:=Tryz.zeroValue4
 t5:=Tryz.underlying5
 a5:=Tryz.isAgg5
 z5:=Tryz.sizeOf5
 v5:=Tryz.zeroValue5
 t9:=Tryz.underlying9
 a9:=Tryz.isAgg9
 z9:=Tryz.sizeOf9
 v9:=Tryz.zeroValue9
 t22:=Tryz.underlying27
 a22:=Tryz.isAgg27
 z22:=Tryz.sizeOf27
 v22:=Tryz.zeroValue27
 t25:=Tryz.underlying164
 a25:=Tryz.isAgg164
 z25:=Tryz.sizeOf164
 v25:=Tryz.zeroValue164
 t39:=Tryz.underlying212
 a39:=Tryz.isAgg212
 z39:=Tryz.sizeOf212
 v39:=Tryz.zeroValue212
 t45:=Tryz.underlying241
 a45:=Tryz.isAgg241
 z45:=Tryz.sizeOf241
 v45:=Tryz.zeroValue241
 t46:=Tryz.underlying242
 a46:=Tryz.isAgg242
 z46:=Tryz.sizeOf242
 v46:=Tryz.zeroValue242
 t50:=Tryz.underlying30
 a50:=Tryz.isAgg30
 z50:=Tryz.sizeOf30
 v50:=Tryz.zeroValue30
 t53:=Tryz.underlying67
 a53:=Tryz.isAgg67
 z53:=Tryz.sizeOf67
 v53:=Tryz.zeroValue67
 t55:=Tryz.underlying249
 a55:=Tryz.isAgg249
 z55:=Tryz.sizeOf249
 v55:=Tryz.zeroValue249
 t66:=Tryz.underlying269
 a66:=Tryz.isAgg269
 z66:=Tryz.sizeOf269
 v66:=Tryz.zeroValue269
 t70:=Tryz.underlying273
 a70:=Tryz.isAgg273
 z70:=Tryz.sizeOf273
 v70:=Tryz.zeroValue273
 t76:=Tryz.underlying282
 a76:=Tryz.isAgg282
 z76:=Tryz.sizeOf282
 v76:=Tryz.zeroValue282
 t77:=Tryz.underlying283
 a77:=Tryz.isAgg283
 z77:=Tryz.sizeOf283
 v77:=Tryz.zeroValue283
def Nb:Ren where
 f:=fun
  | 5=>126
  | 7=>173
  | n=>n
 t:=fun
  | 22=>3
  | 3=>3
  | 4=>4
  | n=>n
 g:=fun n=>n
theorem Pa:Go.Proofs.SlLaysC2.n5 Tryz.prog Nb where
 mixed:=by kernel_rfl
 f5:=⟨Tryz.f126.name,by kernel_rfl,by kernel_rfl⟩
 f7:=⟨Tryz.f173.name,by kernel_rfl,by kernel_rfl⟩
 t3:=Tryz.underlying3
 a3:=Tryz.isAgg3
 z3:=Tryz.sizeOf3
 v3:=Tryz.zeroValue3
 t4:=Tryz.underlying4
 a4:=Tryz.isAgg4
 z4:=Tryz.sizeOf4
 v4:=Tryz.zeroValue4
 t22:=Tryz.underlying3
 a22:=Tryz.isAgg3
 z22:=Tryz.sizeOf3
 v22:=Tryz.zeroValue3
section
attribute [local go_sem] Oper.semAt_some
set_option maxHeartbeats 4000000 in
theorem FP (x y:Int) (b cap:Nat) (W:World) (h0:W.cell? ⟨b,0,none⟩=some (.int .i64 x)) (h1:W.cell? ⟨b,1,none⟩=some (.int .i64 y)) (r:Int) (hr:(x≠0→r=x)∧(x=0→r=y)) :
  Calls Tryz.prog 168 #[.slice (some ⟨b,0,none⟩) 2 cap] W fun e w'=>e=.returned (.int .i64 r)∧w'=W:=by
 go_enter Tryz.func168,Tryz.ntmps168
 go_wp2
 refine wp_loop_rounds 3 ?_
 rw[rounds_succ]
 go_wp2
 ·rename_i h
  go_ret
  exact ⟨by rw[hr.1 (by simpa using h)]; rfl,rfl⟩
 ·rename_i h
  have hx:x=0:=by simpa using h
  rw[rounds_succ]
  go_wp2
  ·rename_i h
   go_ret
   exact ⟨by rw[hr.2 hx]; rfl,rfl⟩
  ·rename_i h
   rw[rounds_succ]
   go_wp2
   go_ret
   exact ⟨by rw[hr.2 hx,show y=0 by simpa using h]; rfl,rfl⟩
structure PX (p:Prop):Prop where
 out:p
set_option maxHeartbeats 4000000 in
theorem F9 (x1 x2 y1 y2:Int) (W:World) (r:Int) (hr:(Lib.compareInt x1 y1≠0→r=Lib.compareInt x1 y1)∧(Lib.compareInt x1 y1=0→r=Lib.compareInt x2 y2)) :
  Calls Tryz.prog 113 #[.agg #[.int .i64 x1,.int .i64 x2],.agg #[.int .i64 y1,.int .i64 y2]] W fun e w'=>e=.returned (.int .i64 r)∧∃ q os',w'=grow (W.drewN q) os':=by
 have hcon1:=fun W'=>AnyG.cmp_Compare_int Pa x1 y1 W'
 change ∀ W',Calls Tryz.prog 126 _ _ _ at hcon1
 have hcon2:=fun W'=>AnyG.cmp_Compare_int Pa x2 y2 W'
 change ∀ W',Calls Tryz.prog 126 _ _ _ at hcon2
 generalize Lib.compareInt x1 y1=c1 at *
 generalize Lib.compareInt x2 y2=c2 at *
 go_enter Tryz.func113,Tryz.ntmps113
 go_wp2_with (first | (go_at_call 126; refine (hcon1 _).mono ?_; rintro e w' ⟨rfl,rfl⟩) | (go_at_call 126; refine (hcon2 _).mono ?_; rintro e w' ⟨rfl,rfl⟩))
 obtain ⟨b1,hb1⟩:∃ b1,b1=W.heap.size:=⟨_,rfl⟩
 obtain ⟨b2,hb2⟩:∃ b2,b2=W.heap.size+1:=⟨_,rfl⟩
 rw[← hb2,← hb1]
 generalize hW1:(W.alloc (Obj.cells #[Value.int IntKind.i64 x1,Value.int IntKind.i64 x2] 33)).alloc (Obj.cells #[Value.int IntKind.i64 y1,Value.int IntKind.i64 y2] 33)=W1
 have hh1:W1.heap[b1]?=some (.cells #[Value.int IntKind.i64 x1,Value.int IntKind.i64 x2] 33 (0,0)):=by
  rw[← hW1,hb1]; exact (Below.heap_alloc _ _ _ (by simp)).trans (World.alloc_heap_new W _)
 have hh2:W1.heap[b2]?=some (.cells #[Value.int IntKind.i64 y1,Value.int IntKind.i64 y2] 33 (0,0)):=by
  rw[← hW1,hb2]
  have:=World.alloc_heap_new (W.alloc (Obj.cells #[Value.int IntKind.i64 x1,Value.int IntKind.i64 x2] 33)) (Obj.cells #[Value.int IntKind.i64 y1,Value.int IntKind.i64 y2] 33)
  rwa [World.size_alloc] at this
 have k0:W1.cell? ⟨b1,0,none⟩=some (.int .i64 x1):=by unfold World.cell?; rw[hh1]; rfl
 have k1:W1.cell? ⟨b1,1,none⟩=some (.int .i64 x2):=by unfold World.cell?; rw[hh1]; rfl
 have k2:W1.cell? ⟨b2,0,none⟩=some (.int .i64 y1):=by unfold World.cell?; rw[hh2]; rfl
 have k3:W1.cell? ⟨b2,1,none⟩=some (.int .i64 y2):=by unfold World.cell?; rw[hh2]; rfl
 clear hh1 hh2
 refine wp_region_still_tail 10 (by kernel_rfl) (by kernel_rfl) ?_
 change wpStill _ _ W1.drew (fun a'=>wpList _ _ _ _ a' W1.drew) _ _
 generalize hW2:W1.drew=W2
 replace k0:W2.cell? ⟨b1,0,none⟩=some (.int .i64 x1):=by rw[← hW2]; exact k0
 replace k1:W2.cell? ⟨b1,1,none⟩=some (.int .i64 x2):=by rw[← hW2]; exact k1
 replace k2:W2.cell? ⟨b2,0,none⟩=some (.int .i64 y1):=by rw[← hW2]; exact k2
 replace k3:W2.cell? ⟨b2,1,none⟩=some (.int .i64 y2):=by rw[← hW2]; exact k3
 have hgr:PX (W2=grow (W.drewN 1) #[Obj.cells #[Value.int IntKind.i64 x1,Value.int IntKind.i64 x2] 33,Obj.cells #[Value.int IntKind.i64 y1,Value.int IntKind.i64 y2] 33]):=by
  refine ⟨?_⟩
  rw[← hW2,← hW1,alloc_eq_grow,alloc_eq_grow,grow_grow]; rfl
 clear hW1 hW2 hb1 hb2
 simp only[List.take_succ_cons,List.take_zero,List.drop_succ_cons,SK]
 iterate 4 still_step
 still_call (hcon1 _)
 iterate 4 still_step
 still_call (hcon2 _)
 refine wpStill_nil ?_
 go_wp2_with (go_at_call 168; refine (FP c1 c2 _ _ _ ?_ ?_ r hr).mono ?_)
 ·unfold World.cell?; rw[World.alloc_heap_new]; rfl
 ·unfold World.cell?; rw[World.alloc_heap_new]; rfl
 ·rintro e w' ⟨rfl,rfl⟩
  go_wp2
  go_ret
  refine ⟨rfl,1,#[Obj.cells #[Value.int IntKind.i64 x1,Value.int IntKind.i64 x2] 33,Obj.cells #[Value.int IntKind.i64 y1,Value.int IntKind.i64 y2] 33,Obj.cells #[Value.int IntKind.i64 c1,Value.int IntKind.i64 c2] 3],?_⟩
  rw[hgr.out,alloc_eq_grow,grow_grow]; rfl
end
theorem Fp {Z:Nat→Prop} {μ:Mu} {hp:Array Obj} {id off len esz:Nat} {x:Value} (h:aA Z μ hp (.sl id off len esz) x) :
  (len=0∧∃ a,x=.slice a 0 0)∨∃ b o0 cap,∃ c:Array Value,∃ e f,x=.slice (some ⟨b,o0+off * esz,none⟩) len cap∧μ id=some (b,o0,esz)∧len≤cap∧hp[b]?=some (.cells c e f)∧o0+(off+cap) * esz≤c.size:=by
 cases h with
 | nh _ _ _ a=>exact .inl ⟨rfl,a,rfl⟩
 | sl _ _ _ _ b o0 cap c e f h1 h2 h3 h4=>exact .inr ⟨b,o0,cap,c,e,f,rfl,h1,h2,h3,h4⟩
theorem PA {Z:Nat→Prop} {μ:Mu} {hp:Array Obj} {f:FuncId} {x:Value} (h:aA Z μ hp (.fn f [] []) x):x=.func (.func f) #[] #[]:=by
 cases h with
 | fn _ _ _ aas bs h1 h2 _ _ =>
  rw[Array.eq_empty_of_size_eq_zero h1.symm,Array.eq_empty_of_size_eq_zero h2.symm]
theorem Bj (w:World) (b o0 m:Nat) (d:Array aJ) (os:Array Obj) {j:Nat} (hj:j < w.heap.size):(sortWorldK ia 2 w b o0 m d os).heap[j]?=if b=j then (w.heap[j]?).map (onCells (putCells id o0 (flatK ia 2 d))) else w.heap[j]?:=by
 unfold sortWorldK grow putRowK putRow mapBlock
 simp only[Sort.ahead]
 rw[Su (by simpa using hj),Array.getElem?_modify]
set_option maxHeartbeats 4000000 in
theorem NB (l:List aJ) (hl:l.length < 1152921504606846976) (u:V) (H:View) (ho:bc H u 2 (bT l)):aB Tryz.prog 112 [u,.fn 113 [] []] H fun r H'=>r=.bt []∧(∀ id,owner u≠some id→H' id=H id)∧bc H' u 2 (bT (dM l)):=by
 refine ⟨by kernel_rfl,?_⟩
 rintro h rfl
 have eg:∀ args w,(callFunc 113 args).run Tryz.prog w=.ok (.enter 113 args) w:=enters_of Tryz.func113 (by kernel_rfl) rfl
 by_cases hnil:l=[]
 ·subst hnil
  refine ⟨.bt [],h,⟨Ri _,fun Z μ F w xs hrel hr hfree=>?_⟩,.refl _,rfl,fun _ _=>rfl,by simpa [dM] using ho⟩
  obtain ⟨hlen,hv⟩:=hrel
  obtain ⟨x,y,rfl⟩:∃ x y,xs=[x,y]:=by
   match xs,hlen with
   | [x,y],_=>exact ⟨x,y,rfl⟩
  have h0:aA Z μ w.heap u x:=hv 0 (by simp)
  obtain ⟨p,cap,rfl⟩:∃ p cap,x=.slice p 0 cap:=by
   rcases ho with ⟨_,k,rfl⟩ | ⟨n,rfl,_⟩
   ·cases h0 with | emp _ a _ _=>exact ⟨a,0,rfl⟩
   ·rcases Fp h0 with ⟨_,a,e⟩ | ⟨b,o0,cap,c,e,f,e2,_⟩
    ·exact ⟨a,0,e⟩
    ·exact ⟨_,cap,e2⟩
  refine (AnyF.slices_SortFunc_none N1 p cap y w).mono ?_
  rintro e w' ⟨rfl,rfl⟩
  exact ⟨.tuple #[],Z,μ,rfl,.bt [] #[] rfl (fun i hi=>by simp at hi),hr,Ext.refl _ _ _ _,fun _ _=>rfl⟩
 have hpos:0 < l.length:=To.2 hnil
 obtain ⟨n,rfl,hn⟩:=ho.sl (by rw[bI]; exact hpos)
 rw[bI]
 have hlt:n < h.length:=gJ (by rw[hn]; simp)
 refine ⟨.bt [],h.set n (.arr 2 (bT (dM l))),⟨by simp,fun Z μ F w xs hrel hr hfree=>?_⟩,fun k hk hd=>?_,rfl,fun id hid=>?_,?_⟩
 rotate_left
 ·rw[jj hlt]
  simp only[View.set]
  rw[Q9 (fun e=>by rw[e,hn] at hd; simp at hd)]; exact hd
 ·rw[jj hlt]
  simp only[View.set]
  rw[Q9 (fun e=>hid (by rw[e]; rfl))]
 ·refine .inr ⟨n,by rw[bI,iu],?_⟩
  rw[jj hlt]; simp[View.set]
 obtain ⟨hlen,hv⟩:=hrel
 obtain ⟨x,y,rfl⟩:∃ x y,xs=[x,y]:=by
  match xs,hlen with
  | [x,y],_=>exact ⟨x,y,rfl⟩
 have h0:aA Z μ w.heap (.sl n 0 l.length 2) x:=hv 0 (by simp)
 have h1:aA Z μ w.heap (.fn 113 [] []) y:=hv 1 (by simp)
 have hy:=PA h1
 subst hy
 rcases Fp h0 with ⟨e,_⟩ | ⟨b,o0,cap,c0,e0,f0,rfl,hμ,hcap,_,_⟩
 ·omega
 rw[Nat.zero_mul,S6]
 have hcat:cat h F n=.arr 2 (bT l):=by simp only[cat]; rw[Ra hlt,hn]
 have hob:=hr.obj n
 rw[hcat] at hob
 obtain ⟨_,⟨c,ty,fz,hc,hfz,hsz⟩,hq,hcell⟩:=hob b o0 2 hμ
 rw[bI] at hsz hq hcell
 have hbl:b < w.heap.size:=hr.lt _ _ _ _ hμ
 have hgl:∀ (m:List aJ) (i:Nat) (hi:i < m.length),(bT m).getD i []=gW m[i]:=fun m i hi=>by simp[bT,Q6,hi]
 have hH:HoldsK ia 2 w b o0 l.toArray:=by
  intro j hj
  rw[size_flatK] at hj
  have hj':j < l.length * 2:=by simpa using hj
  have hi:j / 2 < l.length:=by omega
  obtain ⟨x,hx,hxv⟩:=hcell (j / 2) (j % 2) hi (by omega)
  rw[show o0+j / 2 * 2+j % 2=o0+j by omega] at hx
  have hxe:x=(flatK ia 2 l.toArray)[j]!:=by
   rw[get_flatK _ _ _ _ hj]
   rw[hgl l _ hi] at hxv
   have e1:l.toArray[j / 2]! = l[j / 2]:=by simp[hi]
   rw[e1]
   rcases Rw (j % 2) 1 with h2 | h2
   ·rw[show j % 2=0 by omega] at hxv ⊢
    simp only[gW,Sh] at hxv
    cases hxv; rfl
   ·rw[show j % 2=1 by omega] at hxv ⊢
    simp only[gW,S4,Sh] at hxv
    cases hxv; rfl
  refine ⟨by rw[lO,hx,hxe]; rfl,?_⟩
  simp only[World.frozen?,hc]
  rcases hfz with e | e
  ·simp only[e,Bool.and_eq_false_iff,SH]; omega
  ·simp only[Bool.and_eq_false_iff,SH]; omega
 have hT:∀ x y,(ltOf mq) x y=false→(ltOf mq) y x=false→x=y:=fun x y h1 h2=>by
  rw[p9] at h1 h2
  exact RY fun hne=>by rw[tK h1 hne] at h2; simp at h2
 have hrun:=AnyQ.slices_SortFunc_total N1 2 Tryz.isAgg33 Tryz.sizeOf33 ia (fun _=>rfl) (fun x v hv=>by simp[ia] at hv; rcases hv with rfl | rfl <;> rfl) mq IM 113 #[] b o0 cap l.toArray w eg (fun _ _ _ _ x y=>F9 x.aD x.dot y.aD y.dot _ _ (Mh x y)) hH hbl (by simp; omega) hT
 rw[Kc] at hrun
 refine Calls.mono (show Calls Tryz.prog 112 _ w _ from hrun) ?_
 rintro e w' ⟨rfl,m,os,rfl⟩
 have hsl:=iu l
 have hheap:=fun {j:Nat} (hj:j < w.heap.size)=>Bj w b o0 m (dM l).toArray os hj
 have hafter:HoldsK ia 2 (sortWorldK ia 2 w b o0 m (dM l).toArray os) b o0 (dM l).toArray:=SWK.holds ⟨m,os,rfl⟩ hbl hH (by simp[hsl])
 have hsize:w.heap.size≤(sortWorldK ia 2 w b o0 m (dM l).toArray os).heap.size:=SWK.le (dk:=(dM l).toArray) ⟨m,os,rfl⟩
 have hsame:dT w (sortWorldK ia 2 w b o0 m (dM l).toArray os):=⟨rfl,rfl,rfl,hsize⟩
 generalize sortWorldK ia 2 w b o0 m (dM l).toArray os=w' at *
 have hb':w'.heap[b]?=some (.cells (putCells id o0 (flatK ia 2 (dM l).toArray) c) ty fz):=by
  rw[hheap hbl,Ra rfl,hc]; rfl
 have heff:lj Z μ μ w.heap w'.heap h.length (.ep n (.arr 2 (bT (dM l)))):=by
  refine ⟨b,o0,2,hμ,rfl,fun j hj hne=>by rw[hheap hj,Q9 (fun e=>hne e.symm)],fun j cc ee ff hjj=>?_,?_⟩
  ·have hjl:j < w.heap.size:=by
    rcases Rw j w.heap.size with q | q
    ·exact q
    ·simp[Sy q] at hjj
   by_cases e:b=j
   ·subst e
    rw[hc] at hjj
    simp only[Q8,Obj.cells.injEq] at hjj
    obtain ⟨rfl,rfl,rfl⟩:=hjj
    exact ⟨_,_,hb',by simp[putCells]⟩
   ·exact ⟨cc,ff,by rw[hheap hjl,Q9 e]; exact hjj,rfl⟩
  ·intro b1 o1 s1 h1
   rw[hμ] at h1
   simp only[Q8,Rb] at h1
   obtain ⟨rfl,rfl,rfl⟩:=h1
   refine ⟨rfl,⟨_,ty,fz,hb',?_,?_⟩,fun i hi=>?_,fun i j hi hj=>?_⟩
   ·simpa [putCells] using hfz
   ·rw[bI,hsl]; simpa [putCells] using hsz
   ·rw[bI] at hi; rw[hgl _ i hi]; rfl
   ·rw[bI] at hi
    have:=(hafter.cell (i:=i) (c:=j) (by simpa using hi) hj).1
    rw[lO] at this
    refine ⟨_,this,?_⟩
    rw[hgl _ i hi]
    have e1:(dM l).toArray[i]! = (dM l)[i]:=by simp[hi]
    rw[e1]
    match j,hj with
    | 0,_=>exact .val _ rfl
    | 1,_=>exact .val _ rfl
 have hne:cat h F n≠.dead:=by rw[hcat]; simp
 have hrel':=hr.eff (n:=h.length) (eff:=.ep n (.arr 2 (bT (dM l)))) (by trivial) hsize heff (fun id o e=>by cases e; exact hne) (fun id o e=>by cases e)
 obtain ⟨hext,hmu⟩:=heff.ext hsame (by trivial) hr.cg hr.gf
 refine ⟨.tuple #[],Z,μ,rfl,.bt [] #[] rfl (fun i hi=>by simp at hi),?_,hext,fun _ _=>rfl⟩
 have ev:cat (h.set n (.arr 2 (bT (dM l)))) F=bf.view (cat h F) h.length (.ep n (.arr 2 (bT (dM l)))):=by
  funext k
  simp only[cat,bf.view,View.set,List.length_set]
  by_cases hk:k < h.length
  ·rw[Ra hk,Ra hk,jj hlt]; rfl
  ·rw[Q9 hk,Q9 hk,Q9 (by omega)]
 rw[ev]
 exact hrel'
abbrev gh:aJ:=⟨0,0⟩
def eD (l:List aJ):Nat→List aJ
 | 0=>[]
 | n+1=>if n=0∨l.getD n gh≠l.getD (n - 1) gh then eD l n ++ [l.getD n gh] else eD l n
theorem wK (l:List aJ):∀ n,n≤l.length→(∀ j,0 < j→j < n→l.getD j gh≠l.getD (j - 1) gh)→eD l n=l.take n
 | 0,_,_=>by simp[eD]
 | n+1,hn,h=>by
  have ih:=wK l n (by omega) fun j h1 h2=>h j h1 (by omega)
  have hx:l[n]?=some (l.getD n gh):=getD_some (by omega)
  rw[eD,Ra,ih,RG,hx]
  ·rfl
  ·by_cases e:n=0
   ·exact .inl e
   ·exact .inr (h n (by omega) (by omega))
def w7 (l:List aJ):List aJ:=eD (dM l) l.length
theorem tT {l:List aJ} (hp:l.Pairwise fun x y=>cP y x=false):∀ n,n≤l.length→cz (eD l n)∧(∀ x,x∈eD l n↔∃ i,i < n∧l.getD i gh=x)
 | 0,_=>by simp[eD,cz]
 | n+1,hn=>by
  obtain ⟨h1,h2⟩:=tT hp n (by omega)
  have hge:∀ i j,i < j→j < l.length→cP (l.getD j gh) (l.getD i gh)=false:=fun i j hij hj=>by
   have:=List.pairwise_iff_getElem.1 hp i j (by omega) hj hij
   simpa [Q6,Q7 hj,Q7 (show i < l.length by omega)] using this
  rw[eD]
  split
  ·rename_i hc
   refine ⟨?_,fun x=>?_⟩
   ·rw[cz,List.pairwise_append]
    refine ⟨h1,by simp,fun a ha b hb=>?_⟩
    rw[RU] at hb; subst hb
    obtain ⟨i,hi,rfl⟩:=(h2 a).1 ha
    have hc:l.getD n gh≠l.getD (n - 1) gh:=hc.resolve_left (by omega)
    have k1:=tK (hge (n - 1) n (by omega) (by omega)) hc
    rcases Rw i (n - 1) with h | h
    ·have k2:=hge i (n - 1) h (by omega)
     have k3:¬ cP (l.getD (n - 1) gh) (l.getD i gh)=true:=by rw[k2]; simp
     rw[eu] at k1 k3 ⊢
     omega
    ·have:i=n - 1:=by omega
     subst this; exact k1
   ·rw[Ry,h2,RU]
    constructor
    ·rintro (⟨i,hi,e⟩ | e)
     ·exact ⟨i,by omega,e⟩
     ·exact ⟨n,by omega,e.symm⟩
    ·rintro ⟨i,hi,e⟩
     rcases Rw i n with h | h
     ·exact .inl ⟨i,h,e⟩
     ·have:i=n:=by omega
      subst this; exact .inr e.symm
  ·rename_i hc
   simp only[not_or,Decidable.not_not] at hc
   refine ⟨h1,fun x=>?_⟩
   rw[h2]
   constructor
   ·rintro ⟨i,hi,e⟩; exact ⟨i,by omega,e⟩
   ·rintro ⟨i,hi,e⟩
    rcases Rw i n with h | h
    ·exact ⟨i,h,e⟩
    ·have:i=n:=by omega
     subst this
     exact ⟨i - 1,by omega,by rw[← hc.2]; exact e⟩
theorem yU (l:List aJ):cz (w7 l):=(tT (xw l) _ (by rw[iu]; exact Ri _)).1
theorem ox {l:List aJ} {x:aJ} : x∈w7 l↔x∈l:=by
 rw[w7,(tT (xw l) _ (by rw[iu]; exact Ri _)).2,← (xP l).mem_iff,Sk]
 constructor
 ·rintro ⟨i,hi,e⟩
  have hi':i < (dM l).length:=by rw[iu]; exact hi
  exact ⟨i,hi',by rw[Q6,Q7 hi'] at e; exact e⟩
 ·rintro ⟨i,hi,e⟩
  exact ⟨i,by rw[iu] at hi; exact hi,by rw[Q6,Q7 hi]; exact e⟩
theorem HW {l:List aJ} (h:cz l):w7 l=l:=wb (yU l) h fun _=>ox
def ji (g:ao) (s:Int):Int:=if s < 0 then (g.av.length:Int) - 1 - s else s
theorem tP (g:ao) (k:Nat):ji g (aZ g k)=k:=by
 unfold ji aZ; split <;> split <;> omega
theorem E3 {g:ao} {s:Int} (h1:s < g.av.length):0≤ji g s∧aZ g (ji g s).toNat=s:=by
 unfold ji aZ; split
 ·rw[Q9 (by omega)]; omega
 ·rw[Ra (by omega)]; omega
theorem nM {g:ao} {s:Int} (h:gP g s=true):s < g.av.length∧ji g s < g.av.length+g.az.length:=by
 unfold gP at h
 unfold ji
 by_cases h0:0≤s
 ·rw[Ra h0] at h
  rw[Q9 (by omega)]
  simp at h
  omega
 ·rw[Q9 h0] at h
  rw[Ra (by omega)]
  simp at h
  omega
def fe (l:List aJ):List UInt8:=l.flatMap fun x=>[UInt8.ofNat (x.aD+1).toNat,UInt8.ofNat x.dot.toNat]
theorem Km {a b:Nat} (ha:a < 256) (hb:b < 256) (h:UInt8.ofNat a=UInt8.ofNat b):a=b:=by
 have:=Sp UInt8.toNat h
 simp at this
 omega
theorem Et {g:ao} (hf:g.dL):∀ {a b:List aJ},(∀ x∈a,dc g x)→(∀ x∈b,dc g x)→fe a=fe b→a=b
 | [],[],_,_,_=>rfl
 | [],y :: b,_,_,h=>by simp[fe] at h
 | x :: a,[],_,_,h=>by simp[fe] at h
 | x :: a,y :: b,ha,hb,h=>by
  simp only[fe,List.flatMap_cons,RM,Sm,Tu] at h
  obtain ⟨h1,h2,h3⟩:=h
  have hx:=ha x (by simp)
  have hy:=hb y (by simp)
  have hr:=hf.rules
  have e1:=iz hf hx.1
  have e2:=iz hf hy.1
  have:=hx.1; have:=hx.2; have:=hy.1; have:=hy.2
  have k1:=Km (by omega) (by omega) h1
  have k2:=Km (by omega) (by omega) h2
  have ih:=Et hf (fun z hz=>ha z (by simp[hz])) (fun z hz=>hb z (by simp[hz])) h3
  obtain ⟨xr,xd⟩:=x
  obtain ⟨yr,yd⟩:=y
  simp only at *
  have:xr=yr:=by omega
  have:xd=yd:=by omega
  subst_vars; rfl
structure jd (g:ao) (a:List aP):Prop where
 first:(a.getD 0 bm).bh=[⟨-1,0⟩]
 kB:∀ s∈a,∀ e∈s.aX,(a.getD e.to.toNat bm).bh=bC g (cQ g s.bh) e.sym
theorem kp (l:List aP) (i:Nat) (c:c8) (j:Nat):((l.modify i fun x=>(⟨x.bh,x.aX ++ [c]⟩:aP)).getD j bm).bh=(l.getD j bm).bh:=by
 simp only[Q6,List.getElem?_modify]
 cases l[j]? with
 | none=>rfl
 | some x =>
  by_cases e:i=j
  ·subst e; simp
  ·simp[e]
theorem jd.put {g:ao} {out:List aP} (h:jd g out) {at_:Nat} {s to:Int} (ht:(out.getD to.toNat bm).bh=bC g (cQ g (out.getD at_ bm).bh) s):jd g (out.modify at_ fun x=>(⟨x.bh,x.aX ++ [⟨s,to⟩]⟩:aP)):=by
 refine ⟨by rw[kp]; exact h.first,fun y hy e he=>?_⟩
 rw[kp]
 rcases mem_modify hy with hy | ⟨x,hx,rfl⟩
 ·exact h.kB y hy e he
 ·rcases Ry.1 he with he | he
  ·exact h.kB x (Re hx) e he
  ·simp at he; subst he
   rw[ht,Q6,hx]; rfl
theorem jd.add {g:ao} {out:List aP} (h:jd g out) (h1:1≤out.length) (ht:∀ s∈out,∀ e∈s.aX,0≤e.to∧e.to < out.length) (k:List aJ):jd g (out ++ [⟨k,[]⟩]):=by
 have hg:∀ j:Nat,j < out.length→((out ++ [(⟨k,[]⟩:aP)]).getD j bm)=out.getD j bm:=fun j hj=>by
  simp[Q6,Rt hj]
 refine ⟨by rw[hg 0 (by omega)]; exact h.first,fun y hy e he=>?_⟩
 rcases Ry.1 hy with hy | hy
 ·have:=ht y hy e he
  rw[hg _ (by omega)]; exact h.kB y hy e he
 ·simp at hy; subst hy; simp at he
theorem Lm (g:ao) (l:List aJ) (at_:Nat) (out:List aP) (i:Nat) {j:Nat} (hj:j < out.length):((dG g l at_ out i).getD j bm).bh=(out.getD j bm).bh:=by
 unfold dG
 split
 ·rfl
 ·split
  ·rw[kp]
   simp[Q6,Rt hj]
  ·rw[kp]
theorem jd.step {g:ao} {l:List aJ} {at_ i:Nat} {out:List aP} (h:jd g out) (hi:dy g at_ i out) (ha:at_ < out.length) (hl:cQ g (out.getD at_ bm).bh=l):jd g (dG g l at_ out i):=by
 unfold dG
 split
 ·exact h
 ·split
  ·refine (h.add (by omega) hi.to _).put ?_
   rw[Rs]
   have e1:((out ++ [(⟨bC g l (aZ g i),[]⟩:aP)]).getD out.length bm).bh=bC g l (aZ g i):=by
    simp[Q6]
   have e2:(out ++ [(⟨bC g l (aZ g i),[]⟩:aP)]).getD at_ bm=out.getD at_ bm:=by
    simp[Q6,Rt ha]
   rw[e1,e2,hl]
  ·rename_i hf
   refine h.put ?_
   obtain ⟨n,hn⟩:∃ n:Nat,findD out (bC g l (aZ g i))=n:=⟨(findD out (bC g l (aZ g i))).toNat,by omega⟩
   obtain ⟨s,h1,h2⟩:=DJ _ _ _ hn
   rw[hn,Rs,Q6,h1,hl]
   exact h2
theorem jd.row {g:ao} (hf:g.dL) {at_:Nat} {out:List aP} (h:jd g out) (hi:dy g at_ 0 out) (ha:at_ < out.length):∀ n:Nat,n≤40→jd g ((List.range n).foldl (dG g (cQ g (out.getD at_ bm).bh) at_) out)∧(((List.range n).foldl (dG g (cQ g (out.getD at_ bm).bh) at_) out).getD at_ bm).bh=(out.getD at_ bm).bh
 | 0,_=>⟨h,rfl⟩
 | n+1,hn=>by
  obtain ⟨h1,h2⟩:=jd.row hf h hi ha n (by omega)
  obtain ⟨i1,i2,i3⟩:=dy.row (hi.pa hf ha).1 (hi.pa hf ha).2 hi n (by omega)
  rw[Sb,RR]
  simp only[Rx,SD]
  refine ⟨h1.step i1 (by omega) (by rw[h2]),?_⟩
  rw[Lm _ _ _ _ _ (by omega),h2]
theorem Au {g:ao} (hf:g.dL):∀ (f at_:Nat) (out:List aP),dy g at_ 0 out→jd g out→(gg g f at_ out).2=0→jd g (gg g f at_ out).1
 | 0,_,out,_,h,_=>h
 | f+1,at_,out,hi,h,h3=>by
  rw[gg] at h3 ⊢
  split
  ·rename_i ha
   rw[Ra ha] at h3
   have hr:=dy.row (hi.pa hf ha).1 (hi.pa hf ha).2 hi (g.av.length+g.az.length) (by have:=hf.av; have:=hf.az; omega)
   have he:=h.row hf hi ha (g.av.length+g.az.length) (by have:=hf.av; have:=hf.az; omega)
   rw[show (List.range (g.av.length+g.az.length)).foldl (dG g (cQ g (out.getD at_ bm).bh) at_) out=Br g at_ out (g.av.length+g.az.length) from rfl] at hr he
   split
   ·rename_i hc; rw[Ra hc] at h3; simp at h3
   ·rename_i hc
    rw[Q9 hc] at h3
    exact Au hf f (at_+1) _ hr.1.next he.1 h3
  ·exact h
theorem zL {g:ao} (hf:g.dL) (h:(ct g).2=0):jd g (ct g).1:=by
 unfold ct at h ⊢
 split
 ·rename_i hr
  rw[Ra hr] at h
  exact Au hf 302 0 dU oC ⟨rfl,fun s hs e he=>by simp[dU] at hs; subst hs; simp at he⟩ h
 ·rename_i hr
  rw[Q9 hr] at h
  simp at h
theorem xf {a:List aP} {i:Nat} {e:c8} (h:e∈(a.getD i bm).aX):i < a.length∧a.getD i bm∈a:=by
 rcases Rw i a.length with hi | hi
 ·exact ⟨hi,Re (getD_some hi)⟩
 ·rw[Q6,RH hi] at h; simp at h
theorem p8.bh {g:ao} {l:List aJ} {x:aJ} (h:p8 g l x) (hd:x.dot≠0∨x.aD < 0):x∈l:=by
 cases h with
 | base h=>exact h
 | step=>simp at hd; omega
def jz (g:ao) (l:List aJ) (n:Nat):List Int:=((List.range n).filter fun i=>decide (bC g l (aZ g i)≠[])).map fun (i:Nat)=>aZ g i
theorem zw (g:ao) (l:List aJ) (n:Nat):jz g l (n+1)=if bC g l (aZ g n)=[] then jz g l n else jz g l n ++ [aZ g n]:=by
 unfold jz
 rw[Sb,Sw,RI]
 by_cases h:bC g l (aZ g n)=[]
 ·rw[Ra h]; simp[h]
 ·rw[Q9 h]; simp[h]
structure lq (g:ao) (at_ i:Nat) (out:List aP):Prop where
 one:(out.map aP.bh).Nodup
 back:∀ j:Nat,0 < j→j < out.length→∃ (i:Nat) (e:c8),i < j∧e∈(out.getD i bm).aX∧e.to=j
 done:∀ j:Nat,j < at_→j < out.length→(out.getD j bm).aX.map c8.sym=jz g (cQ g (out.getD j bm).bh) (g.av.length+g.az.length)
 here:at_ < out.length→(out.getD at_ bm).aX.map c8.sym=jz g (cQ g (out.getD at_ bm).bh) i
theorem py (l:List aP) (i:Nat) (c:c8) (j:Nat) (hi:i < l.length):((l.modify i fun x=>(⟨x.bh,x.aX ++ [c]⟩:aP)).getD j bm).aX=if i=j then (l.getD j bm).aX ++ [c] else (l.getD j bm).aX:=by
 simp only[Q6,List.getElem?_modify]
 by_cases e:i=j
 ·subst e; simp[hi]
 ·cases l[j]? with
  | none=>simp[e]
  | some x=>simp[e]
theorem Bi (l:List aP) (i:Nat) (c:c8):(l.modify i fun x=>(⟨x.bh,x.aX ++ [c]⟩:aP)).map aP.bh=l.map aP.bh:=by
 apply List.ext_getElem?
 intro j
 simp only[Rc,List.getElem?_modify]
 cases l[j]? with
 | none=>rfl
 | some x=>by_cases e:i=j <;> simp[e]
theorem lq.put {g:ao} {at_ i:Nat} {out:List aP} {to:Int} (ha:at_ < out.length) (h1:(out.map aP.bh).Nodup) (h2:∀ j:Nat,0 < j→j < out.length→(∃ (i:Nat) (e:c8),i < j∧e∈(out.getD i bm).aX∧e.to=j)∨(at_ < j∧to=j))
  (h3:∀ j:Nat,j < at_→j < out.length→(out.getD j bm).aX.map c8.sym=jz g (cQ g (out.getD j bm).bh) (g.av.length+g.az.length)) (h4:(out.getD at_ bm).aX.map c8.sym=jz g (cQ g (out.getD at_ bm).bh) i)
  (hne:bC g (cQ g (out.getD at_ bm).bh) (aZ g i)≠[]):lq g at_ (i+1) (out.modify at_ fun x=>(⟨x.bh,x.aX ++ [⟨aZ g i,to⟩]⟩:aP)):=by
 refine ⟨by rw[Bi]; exact h1,fun j hj hl=>?_,fun j hj hl=>?_,fun _=>?_⟩
 ·rw[List.length_modify] at hl
  rcases h2 j hj hl with ⟨k,e,a1,a2,a3⟩ | ⟨a1,a2⟩
  ·refine ⟨k,e,a1,?_,a3⟩
   rw[py _ _ _ _ ha]
   split
   ·exact SJ _ a2
   ·exact a2
  ·refine ⟨at_,⟨aZ g i,to⟩,a1,?_,a2⟩
   rw[py _ _ _ _ ha,Ra rfl]
   simp
 ·rw[List.length_modify] at hl
  rw[py _ _ _ _ ha,Q9 (by omega),kp]
  exact h3 j hj hl
 ·rw[py _ _ _ _ ha,Ra rfl,kp,RI,h4,zw,Q9 hne]; rfl
theorem lq.step {g:ao} {at_ i:Nat} {out:List aP} (h:lq g at_ i out) (ha:at_ < out.length):lq g at_ (i+1) (dG g (cQ g (out.getD at_ bm).bh) at_ out i):=by
 unfold dG
 split
 ·rename_i hm
  exact ⟨h.one,h.back,h.done,fun _=>by rw[zw,Ra hm]; exact h.here ha⟩
 ·rename_i hm
  split
  ·rename_i hf
   have hg:∀ j:Nat,j < out.length→((out ++ [(⟨bC g (cQ g (out.getD at_ bm).bh) (aZ g i),[]⟩:aP)]).getD j bm)=out.getD j bm:=fun j hj=>by
    simp[Q6,Rt hj]
   refine lq.put (by simp; omega) ?_ (fun j hj hl=>?_) (fun j hj hl=>?_) ?_ ?_
   ·rw[RI,RV]
    refine ⟨h.one,by simp,fun a hA b hB=>?_⟩
    obtain ⟨s,hs,rfl⟩:=Rv.1 hA
    simp at hB; subst hB
    exact Dr _ _ hf s hs
   ·rcases Rw j out.length with q | q
    ·obtain ⟨k,e,a1,a2,a3⟩:=h.back j hj q
     exact .inl ⟨k,e,a1,by rw[hg k (by omega)]; exact a2,a3⟩
    ·right
     simp at hl
     exact ⟨by omega,by omega⟩
   ·rw[hg j (by omega)]; exact h.done j hj (by omega)
   ·rw[hg at_ ha]; exact h.here ha
   ·rw[hg at_ ha]; exact hm
  ·exact lq.put ha h.one (fun j hj hl=>.inl (h.back j hj hl)) h.done (h.here ha) hm
theorem lq.row {g:ao} (hf:g.dL) {at_:Nat} {out:List aP} (h:lq g at_ 0 out) (hi:dy g at_ 0 out) (he:jd g out) (ha:at_ < out.length):∀ n:Nat,n≤40→lq g at_ n ((List.range n).foldl (dG g (cQ g (out.getD at_ bm).bh) at_) out)
 | 0,_=>h
 | n+1,hn=>by
  have h1:=lq.row hf h hi he ha n (by omega)
  obtain ⟨i1,i2,i3⟩:=dy.row (hi.pa hf ha).1 (hi.pa hf ha).2 hi n (by omega)
  obtain ⟨e1,e2⟩:=he.row hf hi ha n (by omega)
  rw[Sb,RR]
  simp only[Rx,SD]
  have:=h1.step (by omega)
  rw[e2] at this
  exact this
theorem lq.next {g:ao} {at_:Nat} {out:List aP} (h:lq g at_ (g.av.length+g.az.length) out) (hi:dy g at_ (g.av.length+g.az.length) out):lq g (at_+1) 0 out:=by
 refine ⟨h.one,h.back,fun j hj hl=>?_,fun hl=>?_⟩
 ·rcases Rw j at_ with q | q
  ·exact h.done j q hl
  ·have:j=at_:=by omega
   subst this
   exact h.here hl
 ·have:=(hi.aX (at_+1) _ (getD_some (d:=bm) hl)).2.2 (by omega)
  rw[this]; simp[jz]
structure Nh (g:ao) (a:List aP):Prop where
 one:(a.map aP.bh).Nodup
 back:∀ j:Nat,0 < j→j < a.length→∃ (i:Nat) (e:c8),i < j∧e∈(a.getD i bm).aX∧e.to=j
 all:∀ s∈a,s.aX.map c8.sym=jz g (cQ g s.bh) (g.av.length+g.az.length)
theorem Ag {g:ao} (hf:g.dL):∀ (f at_:Nat) (out:List aP),302≤f+at_→dy g at_ 0 out→jd g out→lq g at_ 0 out→out.length≤300→(gg g f at_ out).2=0→Nh g (gg g f at_ out).1
 | 0,at_,out,h0,_,_,h,hl,_=>⟨h.one,h.back,fun s hs=>by
   change s∈out at hs
   obtain ⟨j,hj,e⟩:=Sk.1 hs
   have:=h.done j (by omega) hj
   rwa [show out.getD j bm=s by rw[Q6,Q7 hj]; exact e] at this⟩
 | f+1,at_,out,h0,hi,he,h,hl,h3=>by
  have hT:=hf.av
  have hN:=hf.az
  rw[gg] at h3 ⊢
  split
  ·rename_i ha
   rw[Ra ha] at h3
   have hr:=dy.row (hi.pa hf ha).1 (hi.pa hf ha).2 hi (g.av.length+g.az.length) (by omega)
   have hE:=he.row hf hi ha (g.av.length+g.az.length) (by omega)
   have hF:=h.row hf hi he ha (g.av.length+g.az.length) (by omega)
   rw[show (List.range (g.av.length+g.az.length)).foldl (dG g (cQ g (out.getD at_ bm).bh) at_) out=Br g at_ out (g.av.length+g.az.length) from rfl] at hr hE hF
   split
   ·rename_i hc; rw[Ra hc] at h3; simp at h3
   ·rename_i hc
    rw[Q9 hc] at h3
    exact Ag hf f (at_+1) _ (by omega) hr.1.next hE.1 (hF.next hr.1) (by omega) h3
  ·rename_i ha
   exact ⟨h.one,h.back,fun s hs=>by
    change s∈out at hs
    obtain ⟨j,hj,e⟩:=Sk.1 hs
    have:=h.done j (by omega) hj
    rwa [show out.getD j bm=s by rw[Q6,Q7 hj]; exact e] at this⟩
theorem zA {g:ao} (hf:g.dL) (h:(ct g).2=0):Nh g (ct g).1:=by
 unfold ct at h ⊢
 split
 ·rename_i hr
  rw[Ra hr] at h
  refine Ag hf 302 0 dU (by omega) oC ⟨rfl,fun s hs e he=>by simp[dU] at hs; subst hs; simp at he⟩ ⟨by simp[dU],fun j h1 h2=>by simp[dU] at h2; omega,fun j h1=>by omega,fun _=>?_⟩ (by simp[dU]) h
  simp[dU,jz]
 ·rename_i hr
  rw[Q9 hr] at h
  simp at h
theorem Ce (g:ao):∀ (f at_:Nat) (out:List aP),(gg g f at_ out).2=0∨gg g f at_ out=([],5)
 | 0,_,_=>.inl rfl
 | f+1,at_,out=>by
  rw[gg]
  split
  ·split
   ·exact .inr rfl
   ·exact Ce g f _ _
  ·exact .inl rfl
theorem Bw (g:ao):((ct g).2=0∧isRed g=true)∨(ct g=([],5)∧isRed g=true)∨(ct g=([],1)∧isRed g=false):=by
 unfold ct
 cases h:isRed g with
 | false=>exact .inr (.inr ⟨by simp,rfl⟩)
 | true =>
  rw[Ra rfl]
  rcases Ce g 302 0 dU with h | h
  ·exact .inl ⟨h,rfl⟩
  ·exact .inr (.inl ⟨h,rfl⟩)
theorem nF {g:ao} (hf:g.dL) {x:aJ} (hx:dc g x) {s:Int} (h:bO g x=(s,true)):gP g s=true:=by
 obtain ⟨h1,h2⟩:=rV h
 have hlt:x.dot.toNat < (aI g x.aD).length:=by have:=hx.2; omega
 have hm:s∈aI g x.aD:=by
  rw[← h2,Q6,Q7 hlt]; exact Rj _
 unfold aI at hm
 split at hm
 ·simp at hm; subst hm
  have:=hf.jT; have:=hf.start
  unfold gP
  rw[Q9 (by omega)]
  simp; omega
 ·have hR:g.rules[x.aD.toNat]?=some (ax g x.aD):=by unfold ax; exact getD_some (by have:=hx.1; omega)
  exact hf.sym _ (Re hR) s hm
end Gv
