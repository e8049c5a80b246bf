/-
  Part 11 of the proof: what the machine does and what the functions answer.
  Conditions: those that each lemma names.
-/
import Derived.Test.YtihmlbdfcmfbdaaGreatSGzA9J
set_option linter.unusedSimpArgs false
set_option linter.unusedVariables false
set_option maxRecDepth 100000
namespace Gv
open Go Go.Proofs
def bR {κ:Type} (kv:κ→V) (m:bU κ):List (V × V × Nat):=m.map fun x=>(kv x.1,x.2.1,x.2.2)
structure HX {κ:Type} [BEq κ] (P:Program) (kt:TypeId) (kv:κ→V):Prop where
 find:∀ k e m,mE P kt (kv k) e (bR kv m)=some (gU k m)
 same:∀ k,sameKey (kv k) (kv k)=true
def gG {κ:Type} (m:bU κ) (c:Nat):Prop:=(m.map (·.2.2)).Nodup∧∀ x∈m,x.2.2 < c
def jZ {κ:Type} [BEq κ] (m:bU κ) (k:κ):Option Nat:=(m.find? fun x=>k == x.1).map (·.2.2)
section
variable {κ:Type} [BEq κ] [LawfulBEq κ] {kv:κ→V}
theorem mP (k:κ):∀ m:bU κ,match gU k m with
  | some i=>∃ x,m[i]?=some x∧x.1=k∧getM m k=some x.2.1∧jZ m k=some x.2.2∧(bR kv m)[i]?=some (kv k,x.2.1,x.2.2)∧∀ v c,(bR kv m).set i (kv k,v,x.2.2)=bR kv (bN k v c m)∧jZ (bN k v c m) k=some x.2.2∧(bN k v c m).map (·.2.2)=m.map (·.2.2)
  | none=>getM m k=none∧jZ m k=none∧∀ v c,bR kv m ++ [(kv k,v,c)]=bR kv (bN k v c m)∧jZ (bN k v c m) k=some c∧(bN k v c m).map (·.2.2)=m.map (·.2.2) ++ [c]
 | []=>⟨rfl,rfl,fun v c=>⟨rfl,by simp[bN,jZ],rfl⟩⟩
 | x :: r=>by
  have ih:=mP k r
  simp only[gU]
  cases hk:k == x.1 with
  | true =>
   have hx:x.1=k:=(eq_of_beq hk).symm
   exact ⟨x,rfl,hx,by simp[getM,hk],by simp[jZ,hk],by simp[bR,hx],fun v c=>by simp[bN,hk,bR,jZ]⟩
  | false =>
   simp only[VA,if_false]
   cases hi:gU k r with
   | some i =>
    rw[hi] at ih
    obtain ⟨y,h1,h2,h3,h4,h5,h6⟩:=ih
    refine ⟨y,by simpa using h1,h2,by simpa [getM,hk] using h3,by simpa [jZ,hk] using h4,by simpa [bR] using h5,fun v c=>?_⟩
    obtain ⟨g1,g2,g3⟩:=h6 v c
    exact ⟨by simp only[bR] at g1 ⊢; simp[bN,hk,g1],by simpa [bN,hk,jZ] using g2,by simp[bN,hk,g3]⟩
   | none =>
    rw[hi] at ih
    refine ⟨by simpa [getM,hk] using ih.1,by simpa [jZ,hk] using ih.2.1,fun v c=>?_⟩
    obtain ⟨g1,g2,g3⟩:=ih.2.2 v c
    exact ⟨by simp only[bR] at g1 ⊢; simp[bN,hk,g1],by simpa [bN,hk,jZ] using g2,by simp[bN,hk,g3]⟩
theorem gG.put {m:bU κ} {c:Nat} (h:gG m c) (k:κ) (v:V):gG (bN k v c m) (c+1):=by
 have hg:=mP (kv:=fun _=>V.any) k m
 cases hj:gU k m with
 | some j =>
  rw[hj] at hg
  obtain ⟨y,_,_,_,_,_,h6⟩:=hg
  have e:=(h6 v c).2.2
  refine ⟨by rw[e]; exact h.1,fun x hx=>?_⟩
  have:x.2.2∈m.map (·.2.2):=by rw[← e]; exact Vw.2 ⟨x,hx,rfl⟩
  obtain ⟨y,hy,e2⟩:=Vw.1 this
  have:=h.2 y hy
  omega
 | none =>
  rw[hj] at hg
  have e:=(hg.2.2 v c).2.2
  refine ⟨?_,fun x hx=>?_⟩
  ·rw[e,V2]
   refine ⟨h.1,by simp,fun a ha b hb=>?_⟩
   simp at hb; subst hb
   obtain ⟨y,hy,rfl⟩:=Vw.1 ha
   have:=h.2 y hy
   omega
  ·have:x.2.2∈m.map (·.2.2) ++ [c]:=by rw[← e]; exact Vw.2 ⟨x,hx,rfl⟩
   rcases VE.1 this with h1 | h1
   ·obtain ⟨y,hy,e2⟩:=Vw.1 h1
    have:=h.2 y hy
    omega
   ·simp at h1; omega
theorem gG.PH {m:bU κ} {c:Nat} (h:gG m c) {k:κ} {b:Nat} (hb:jZ m k=some b) (v:V) (c':Nat):gG (bN k v c' m) c:=by
 have hg:=mP (kv:=fun _=>V.any) k m
 cases hj:gU k m with
 | some j =>
  rw[hj] at hg
  obtain ⟨y,_,_,_,_,_,h6⟩:=hg
  have e:=(h6 v c').2.2
  refine ⟨by rw[e]; exact h.1,fun x hx=>?_⟩
  have:x.2.2∈m.map (·.2.2):=by rw[← e]; exact Vw.2 ⟨x,hx,rfl⟩
  obtain ⟨y,hy,e2⟩:=Vw.1 this
  have:=h.2 y hy
  omega
 | none =>
  rw[hj] at hg
  rw[hg.2.1] at hb; simp at hb
omit [BEq κ] [LawfulBEq κ] in
theorem find_born (b:Nat):∀ (m:bU κ) (i:Nat) (x:κ × V × Nat),(m.map (·.2.2)).Nodup→m[i]?=some x→x.2.2=b→(bR kv m).findIdx? (fun e=>e.2.2 == b)=some i
 | [],i,x,_,h,_=>by simp at h
 | y :: m,0,x,hn,h,e=>by
  simp at h; subst h
  simp[bR,List.findIdx?_cons,e]
 | y :: m,i+1,x,hn,h,e=>by
  simp only[VC,V3] at hn
  have h:m[i]?=some x:=by simpa using h
  have hx:x∈m:=Vf h
  have hne:¬ y.2.2=b:=fun e2=>hn.1 (by rw[e2,← e]; exact Vw.2 ⟨x,hx,rfl⟩)
  have ih:=find_born b m i x hn.2 h e
  simp only[bR] at ih
  simp[bR,List.findIdx?_cons,hne,ih]
variable {P:Program} {T:Env} {H:View} {kt et t ty:TypeId}
theorem FT {K:V→View→Prop} {w:cD (T,H,K)} {x i:Operand} {z:V} {id c:Nat} {m:bU κ} {k:κ} (hm:dB P t=some (kt,et)) (hz:zeroV P et=some z) (hk:HX P kt kv)
  (hx:ev T x=.mp id) (hi:ev T i=kv k) (hH:H id=.map (bR kv m) c) (h:K ((getM m k).getD z) H):kz P (.lookup t x i false) ty T H K w:=by
 intro n _
 have hf:=hk.find k (bR kv m).isEmpty m
 have hg:=mP (kv:=kv) k m
 refine ⟨(getM m k).getD z,.none,[id],?_,h⟩
 simp only[sI,cq,oper,fP,hm,hz,hx,hi,hH,hf]
 cases hj:gU k m with
 | some j =>
  rw[hj] at hg
  obtain ⟨y,h1,h2,h3,h4,h5,_⟩:=hg
  simp[h5,h3]
 | none =>
  rw[hj] at hg
  simp[hg.1]
theorem N4 {z:V} {id c:Nat} {m:bU κ} {k:κ} (hm:dB P t=some (kt,et)) (hz:zeroV P et=some z) (hk:HX P kt kv) (hH:H id=.map (bR kv m) c) (hb:gG m c) :
  ∃ b c',ey P t (.mp id) (kv k) H=some (.bI [(getM m k).getD z,ak b],.fj id (.map (bR kv (bN k ((getM m k).getD z) c m)) c'),[id])∧gG (bN k ((getM m k).getD z) c m) c'∧jZ (bN k ((getM m k).getD z) c m) k=some b:=by
 have hf:=hk.find k false m
 have hg:=mP (kv:=kv) k m
 cases hj:gU k m with
 | some j =>
  rw[hj] at hg hf
  obtain ⟨y,h1,h2,h3,h4,h5,h6⟩:=hg
  refine ⟨y.2.2,c,?_,?_,?_⟩
  ·simp only[ey,hm,hH,hf,h5,hk.same k,if_true,h3,Vs]
   rw[(h6 y.2.1 c).1]
  ·exact hb.PH h4 _ _
  ·rw[h3]; exact (h6 _ c).2.1
 | none =>
  rw[hj] at hg hf
  refine ⟨c,c+1,?_,hb.put k _,?_⟩
  ·simp only[ey,hm,hH,hf,hz,hg.1,Option.getD_none]
   rw[(hg.2.2 z c).1]
  ·rw[hg.1]; exact (hg.2.2 _ c).2.1
theorem Th {K:V→View→Prop} {w:cD (T,H,K)} {x i:Operand} {z:V} {id c:Nat} {m:bU κ} {k:κ} (hm:dB P t=some (kt,et)) (hz:zeroV P et=some z) (hk:HX P kt kv)
  (hx:ev T x=.mp id) (hi:ev T i=kv k) (hH:H id=.map (bR kv m) c) (hb:gG m c)
  (h:∀ b c',gG (bN k ((getM m k).getD z) c m) c'→jZ (bN k ((getM m k).getD z) c m) k=some b→K (.bI [(getM m k).getD z,ak b]) (H.set id (.map (bR kv (bN k ((getM m k).getD z) c m)) c'))):kz P (.mapEntry t x i) ty T H K w:=by
 intro n _
 obtain ⟨b,c',h1,h2,h3⟩:=N4 (k:=k) hm hz hk hH hb
 refine ⟨.bI [(getM m k).getD z,ak b],.fj id (.map (bR kv (bN k ((getM m k).getD z) c m)) c'),[id],?_,h b c' h2 h3⟩
 simp only[sI,cq,oper,hx,hi]
 exact h1
theorem Sn {K:V→View→Prop} {w:cD (T,H,K)} {x s y:Operand} {id c b:Nat} {m:bU κ} {k:κ} {v:V} (hx:ev T x=.mp id) (hs:ev T s=ak b) (hy:ev T y=v) (hH:H id=.map (bR kv m) c) (hb:gG m c) (hbk:jZ m k=some b)
  (h:∀ c0,K .any (H.set id (.map (bR kv (bN k v c0 m)) c))):kz P (.entryStore t x s y) ty T H K w:=by
 intro n _
 have hg:=mP (kv:=kv) k m
 cases hj:gU k m with
 | none=>rw[hj] at hg; rw[hg.2.1] at hbk; simp at hbk
 | some j =>
  rw[hj] at hg
  obtain ⟨z,h1,h2,h3,h4,h5,h6⟩:=hg
  rw[hbk] at h4
  have e:z.2.2=b:=by simp at h4; exact h4.symm
  have hf:=find_born (kv:=kv) b m j z hb.1 h1 e
  refine ⟨.any,.fj id (.map (bR kv (bN k v c m)) c),[id],?_,h c⟩
  have hn:asNat (ak b)=some b:=by simp[asNat,ak]
  simp only[sI,cq,oper,hx,hs,hy,j6,hn,hH,hf,h5]
  rw[(h6 v c).1]
end
theorem zf {P:Program} {α:Type} (x:α):bM P (pure x:Sem α)=some x:=rfl
def Rg:List Int:=[37,37,32,115,32,58,32,39,97,39,32,115,32,124,32,59]
def tJ:aw:=⟨[⟨⟨#[39,97,39]⟩,0,0⟩],[⟨#[115]⟩],[⟨0,[0,(-1)],0⟩,⟨0,[],(-1)⟩],0⟩
theorem TI:cR Tryz.prog 49 [Bw Rg] (r6 tJ):=KA (by kernel_rfl)
section
variable {g:aw} {p:List Int} {T:Tb} {N:Nat}
end
theorem dT.Qc {H:View} {u:V} {l:List Int} (h:ba H u 1 (cb l)):dT H u (encI l):=dT.own h fun e he v hv=>by
 obtain ⟨x,_,rfl⟩:=Vw.1 he
 simp at hv; subst hv; exact .val _
section
variable {g r:aw} {p q:List Bool} {o:List Int}
end
section
variable {fit:List Int→Bool} {T b:Nat}
end
section
variable {P:Program} {T:Env} {H:View} {K:V→View→Prop} {w:cD (T,H,K)} {t t1 e ty:TypeId}
end
def K1:Value→Value→Bool
 | .int k a,.int k' b=>decide (k=k') && decide (a=b)
 | .bool a,.bool b=>a == b
 | .string a,.string b=>ja a b
 | .pointer none,.pointer none=>true
 | _,_=>false
theorem PJ:∀ (a b:Value),K1 a b=true→a=b:=by
 intro a b h
 unfold K1 at h
 split at h
 ·simp only[Vm,Vo] at h
  rw[h.1,h.2]
 ·rename_i a b
  rw[show a=b by simpa using h]
 ·rename_i a b
  obtain ⟨a⟩:=a
  obtain ⟨b⟩:=b
  simp only[ja,Wd] at h
  rw[show a=b from Array.toList_inj.1 h]
 ·rfl
 ·simp at h
def AG (q:V→V→Bool):List V→List V→Bool
 | [],[]=>true
 | a :: l,b :: m=>q a b && AG q l m
 | _,_=>false
def Js (q:V→V→Bool):List (List V)→List (List V)→Bool
 | [],[]=>true
 | a :: l,b :: m=>AG q a b && Js q l m
 | _,_=>false
def E6:Nat→V→V→Bool
 | 0,_,_=>false
 | k+1,a,b=>match a,b with
  | .val x,.val y=>K1 x y
  | .aK x,.aK y=>Js (E6 k) x y
  | .agg x,.agg y=>AG (E6 k) x y
  | .bI x,.bI y=>AG (E6 k) x y
  | _,_=>false
theorem vD {q:V→V→Bool} (hq:∀ a b,q a b=true→a=b):∀ (l m:List V),AG q l m=true→l=m
 | [],[],_=>rfl
 | a :: l,b :: m,h=>by
  simp only[AG,Vm] at h
  rw[hq a b h.1,vD hq l m h.2]
 | [],_ :: _,h=>by simp[AG] at h
 | _ :: _,[],h=>by simp[AG] at h
theorem NF {q:V→V→Bool} (hq:∀ a b,q a b=true→a=b):∀ (l m:List (List V)),Js q l m=true→l=m
 | [],[],_=>rfl
 | a :: l,b :: m,h=>by
  simp only[Js,Vm] at h
  rw[vD hq a b h.1,NF hq l m h.2]
 | [],_ :: _,h=>by simp[Js] at h
 | _ :: _,[],h=>by simp[Js] at h
theorem F6:∀ (k:Nat) (a b:V),E6 k a b=true→a=b
 | 0,_,_,h=>by simp[E6] at h
 | k+1,a,b,h=>by
  have ih:=F6 k
  unfold E6 at h
  split at h
  ·rw[PJ _ _ h]
  ·rw[NF ih _ _ h]
  ·rw[vD ih _ _ h]
  ·rw[vD ih _ _ h]
  ·simp at h
def tW:Nat→V→Bool
 | 0,_=>false
 | k+1,v=>match v with
  | .val _=>true
  | .emp _=>true
  | .dV=>true
  | .aK es=>es.all fun e=>e.all (tW k)
  | .agg cs=>cs.all (tW k)
  | .bI cs=>cs.all (tW k)
  | _=>false
theorem xm {q:V→Bool} {l:List V} (h:l.all q=true) {i:Nat} (hi:i < l.length):q (l.getD i .any)=true:=by
 have e:l.getD i .any=l[i]:=by simp[U8,hi]
 rw[e]
 exact VK.1 h _ (Vi _)
theorem Bp:∀ (k:Nat) (v:V),tW k v=true→Tree v
 | 0,_,h=>by simp[tW] at h
 | k+1,v,h=>by
  have ih:=Bp k
  unfold tW at h
  split at h
  ·exact .val _
  ·exact .emp _
  ·exact .dV
  ·rename_i es
   refine .aK _ fun i j hi hj=>ih _ ?_
   have e:es.getD i []=es[i]:=by simp[U8,hi]
   have h1:=VK.1 h _ (Vi hi)
   rw[e] at hj ⊢
   exact xm h1 hj
  ·exact .agg _ fun i hi=>ih _ (xm h hi)
  ·exact .bI _ fun i hi=>ih _ (xm h hi)
  ·simp at h
noncomputable def w7 (H:View):Nat→V→Option V
 | 0,_=>none
 | k+1,v=>match v with
  | .val x=>some (.val x)
  | .emp _=>some (.aK [])
  | .aK es=>match tW 60 (.aK es) with
   | true=>some (.aK es)
   | false=>none
  | .sl id off len _=>match H id with
   | .arr _ es=>match Nat.ble (off+len) es.length with
    | true=>(DO (w7 H k) ((es.drop off).take len)).map .aK
    | false=>none
   | _=>none
  | .agg cs=>(oh (w7 H k) cs).map .agg
  | .bI cs=>(oh (w7 H k) cs).map .bI
  | _=>none
theorem D3 (h:aL):∀ (k:Nat) (v t:V),w7 h.view k v=some t→Fr h v t
 | 0,v,t,hf=>by simp[w7] at hf
 | k+1,v,t,hf=>by
  have ih:=D3 h k
  simp only[w7] at hf
  split at hf
  ·simp only[Vb] at hf; subst hf; exact .tree _ (.val _)
  ·simp only[Vb] at hf; subst hf; exact .emp _
  ·split at hf
   ·rename_i ht
    simp only[Vb] at hf; subst hf; exact .tree _ (Bp _ _ ht)
   ·simp at hf
  ·rename_i id off len esz
   split at hf
   ·rename_i z es hH
    split at hf
    ·rename_i hle
     have hle:=Nat.le_of_ble_eq_true hle
     simp only[Vk] at hf
     obtain ⟨es',he,rfl⟩:=hf
     obtain ⟨g1,g2⟩:=DV _ _ he
     have hlen:es'.length=len:=by rw[g1]; simp; omega
     have hg:∀ i,i < len→((es.drop off).take len).getD i []=es.getD (off+i) []:=fun i hi=>by
      simp[U8,WL,hi]
     have g3:∀ i,i < len→oh (w7 h.view k) (es.getD (off+i) [])=some (es'.getD i []):=fun i hi=>by
      rw[← hg i hi]; exact g2 i (by rw[← g1,hlen]; exact hi)
     exact .sl id off len esz z es es' hH hle hlen (fun i hi=>(iz _ _ (g3 i hi)).1) (fun i j hi hj=>ih _ _ ((iz _ _ (g3 i hi)).2 j (by rw[← (iz _ _ (g3 i hi)).1]; exact hj)))
    ·simp at hf
   ·simp at hf
  ·simp only[Vk] at hf
   obtain ⟨l,hl,rfl⟩:=hf
   obtain ⟨g1,g2⟩:=iz _ _ hl
   exact .agg _ _ g1 (fun i hi=>ih _ _ (g2 i hi))
  ·simp only[Vk] at hf
   obtain ⟨l,hl,rfl⟩:=hf
   obtain ⟨g1,g2⟩:=iz _ _ hl
   exact .bI _ _ g1 (fun i hi=>ih _ _ (g2 i hi))
  ·simp at hf
theorem aI.seen {P:Program} {f:FuncId} {vs ts:List V} {t:V} (hc:aI P f ts t) (ht:∀ i,i < vs.length→Tree (vs.getD i .any)) (hl:ts.length=vs.length) (hfr:∀ i,i < vs.length→Fr [] (vs.getD i .any) (ts.getD i .any)):aI P f vs t:=by
 intro Z μ w xs hrel hz
 have hr0:ik Z (fun _=>none) w.heap (cat [] fun _=>.dead):=by
  rw[DK]
  exact ⟨fun _=>trivial,fun i j b o s o' s' _ h=>by simp at h,fun id b o s h=>by simp at h,hz,fun id b o s h=>by simp at h⟩
 have hno:∀ b,¬ jr (fun _=>none) b:=fun b ⟨_,_,_,h⟩=>by simp at h
 have hts:gf (fun b=>Z b∨jr (fun _=>none) b) μ w.heap ts xs:=⟨by rw[hl,hrel.1],fun i hi=>Cp hr0 (hfr i (by omega)) (wy (hrel.2 i (by omega)) (ht i (by omega)))⟩
 refine (hc _ μ w xs hts (fun b hb=>hb.elim (hz b) (fun h=>absurd h (hno b)))).mono ?_
 rintro e w' ⟨x,Z',rfl,hv,hs,h1,h2,ho⟩
 exact ⟨x,Z',rfl,hv,hs,fun b hb=>h1 b (.inl hb),fun b hb=>(h2 b hb).elim (fun h=>h.elim .inl (fun h=>absurd h (hno b))) .inr,ho⟩
abbrev yw:=FuncId × List V × V × Bool
def yw.Ok (P:Program) (x:yw):Prop:=dJ P x.1=true∧if x.2.2.2=true then aI P x.1 x.2.1 x.2.2.1 else (cR P x.1 x.2.1 x.2.2.1∨(aI P x.1 x.2.1 x.2.2.1∧Bo x.2.2.1))
noncomputable def Ra (g:FuncId) (vs:List V) (H:View) (x:yw):Bool:=Nat.beq x.1 g && (match x.2.2.2 with
 | true=>vs.all (tW 60) && (match oh (w7 (fun _=>.dead) 60) vs with
  | some ts=>AG (E6 60) ts x.2.1
  | none=>false)
 | false=>match oh (w7 H 60) vs with
  | some ts=>AG (E6 60) ts x.2.1
  | none=>false)
noncomputable def Q6 (l:List yw):zw:=fun g vs H=>(l.find? (Ra g vs H)).map fun x=>x.2.2.1
theorem PL {P:Program} {l:List yw} (hl:∀ x∈l,x.Ok P):sN P (Q6 l):=by
 intro g vs H t h
 unfold Q6 at h
 simp only[Vk] at h
 obtain ⟨⟨f,ts,r,b⟩,hx,rfl⟩:=h
 obtain ⟨h1,h2⟩:=hl _ (List.mem_of_find?_eq_some hx)
 have hq:=List.find?_some hx
 simp only[Ra,Vm] at hq
 obtain ⟨hg,hq⟩:=hq
 have hg:=Xc hg
 simp only at hg h1 h2 hq
 subst hg
 refine ⟨h1,?_⟩
 rintro h rfl
 cases b with
 | true =>
  simp only[Vm] at hq
  obtain ⟨hq1,hq2⟩:=hq
  split at hq2
  ·rename_i us hus
   obtain ⟨g1,g2⟩:=iz _ _ hus
   have:=vD (F6 60) _ _ hq2
   subst this
   simp only[if_true] at h2
   exact bX.gv (h2.seen (fun i hi=>Bp _ _ (xm hq1 hi)) g1 fun i hi=>D3 [] 60 _ _ (g2 i hi)) h
  ·simp at hq2
 | false =>
  simp only at hq
  split at hq
  ·rename_i us hus
   obtain ⟨g1,g2⟩:=iz _ _ hus
   have:=vD (F6 60) _ _ hq
   subst this
   have hfr:=fun i hi=>D3 h 60 _ _ (g2 i hi)
   simp only[VA,if_false] at h2
   rcases h2 with h2 | ⟨h2,h3⟩
   ·exact bX.vx h2 g1 hfr
   ·exact bX.borrow h2 h3 g1 hfr
  ·simp at hq
def tI (x:Int):Bool:=decide (-9223372036854775808≤x) && decide (x≤9223372036854775807)
theorem pK {x:Int} (h:tI x=true):cm x:=by
 unfold tI at h
 simp only[Vm,Vo] at h
 exact h
def okB (g:aw):Bool:=decide (g.ay.length≤900) && decide (g.az.length≤100) && decide (g.rules.length≤900) && tI g.start && g.ay.all (fun t=>tI t.level && tI t.assoc) && g.rules.all fun r=>tI r.left && tI r.prec && decide (r.right.length≤900) && r.right.all tI
theorem Ot {g:aw} (h:okB g=true):g.Ok∧g.Small:=by
 unfold okB at h
 simp only[Vm,Vo,VK] at h
 obtain ⟨⟨⟨⟨⟨h1,h2⟩,h3⟩,h4⟩,h5⟩,h6⟩:=h
 refine ⟨⟨by unfold aS; omega,by unfold aS; omega,by unfold aS; omega,pK h4,fun t ht=>⟨pK (h5 t ht).1,pK (h5 t ht).2⟩,fun r hr=>?_⟩,⟨by omega⟩⟩
 have:=h6 r hr
 exact ⟨pK this.1.1.1,pK this.1.1.2,by unfold aS; have:=this.1.2; omega,fun x hx=>pK (this.2 x hx)⟩
theorem tG:tJ.Ok∧tJ.Small:=Ot (by kernel_rfl)
structure dx where
 sym:Int
 to:Int
 deriving DecidableEq
def jo (x:dx):List V:=[gi x.sym,gi x.to]
def bQ {α:Type} (A:List (V × α)):List (List V):=A.map fun x=>[x.1]
structure aH where
 aF:Int
 dot:Int
 deriving DecidableEq
def bE (x:aH):List V:=[gi x.aF,gi x.dot]
def aT (l:List aH):List (List V):=l.map bE
def cJ (a b:aH):Bool:=decide (a.aF < b.aF) || (decide (a.aF=b.aF) && decide (a.dot < b.dot))
def eC:List aH→aH→List aH
 | [],x=>[x]
 | y :: l,x=>if cJ y x=true then y :: eC l x else if y=x then y :: l else x :: y :: l
theorem RJ (a b:aH):∀ v∈[V.agg (bE a),.agg (bE b)],Tree v:=by
 intro v hv; simp at hv
 rcases hv with rfl | rfl <;> exact cI _ fun v hv=>by simp[bE] at hv; rcases hv with rfl | rfl <;> exact .val _
def qN:SF:=⟨.seq (ao [cL 2 0,cL 3 1,bK 4 false]) <|
 .seq (.region false [⟨none,[aB 5 0 2,ax 6 5,aB 7 0 3,ax 8 7,bc 9 .lss 6 8,aj 10 9]⟩,⟨(some (10,false)),[aB 11 0 2,ax 12 11,aB 13 0 3,ax 14 13,bc 15 .eql 12 14,aj 16 15]⟩,⟨(some (16,true)),[aB 17 1 2,ax 18 17,aB 19 1 3,ax 20 19,bc 21 .lss 18 20]⟩,⟨(some (10,false)),[eF 22 16 21]⟩,⟨none,[c6 23 10 22,aj 4 23]⟩]) <|
 .ret,
 [.tmp 4],24⟩
theorem vy:aV Tryz.prog 156 [2,3]=some qN:=by kernel_rfl
def po:SC :=
 .seq (.seq (.region false [⟨none,[aj 7 5,aj 8 0,aX 9 8,bc 10 .lss 7 9,aj 11 10]⟩,⟨(some (11,true)),[aj 12 0,aj 13 5,aP 14 2 12 13,bp 15 2 14,bp 16 2 3,bC 17 156 [15,16]]⟩,⟨none,[eF 18 11 17]⟩]) <|
 .cond (.tmp 18) (.skip) (.exit 0)) <|
 .block 1 (ao [aj 19 5,aQ 20 .add 19 1,aj 5 20])
def rH:SF:=⟨.seq (ao [cL 3 1,((some 4),.op (.bL (.val (.emp 1))))]) <|
 .seq (ao [bj 5 0]) <|
 .seq (.block 0 (.loop po)) <|
 .seq (.seq (.region false [⟨none,[aj 21 5,aj 22 0,aX 23 22,bc 24 .lss 21 23,aj 25 24]⟩,⟨(some (25,true)),[aj 26 0,aj 27 5,aP 28 2 26 27,bp 29 2 28,bp 30 2 3,((some 31),.op (.old (.binOp .eql 33 (.tmp 29) (.tmp 30) 33) 4))]⟩,⟨none,[eF 32 25 31]⟩]) <|
 .cond (.tmp 32) (.seq (ao [aj 33 0,aj 4 33]) <|
 .ret) (.skip)) <|
 .seq (ao [((some 34),.op (.bL (.val (.emp 2)))),aj 35 0,aj 36 5,((some 37),.op (.slice 2 (.tmp 35) (some (.tmp 36)) none)),((some 38),.op (.app 2 16 (.tmp 34) (.tmp 37))),aj 6 38]) <|
 .seq (ao [aj 39 0,aj 40 5,((some 41),.op (.slice 2 (.tmp 39) none (some (.tmp 40)))),bp 42 2 3,((some 43),.op (.cg 1 2 [(.val (.int .i64 0)),(.val (.int .i64 0))] [(0,(.tmp 42))])),((some 44),.op (.app 2 16 (.tmp 41) (.tmp 43))),aj 45 6,((some 46),.op (.app 2 16 (.tmp 44) (.tmp 45))),aj 4 46]) <|
 .ret,
 [.tmp 4],47⟩
theorem wV:aV Tryz.prog 108 [3]=some rH:=by kernel_rfl
theorem N1 (a b:aH):aI Tryz.prog 156 [.agg (bE a),.agg (bE b)] (gb (cJ a b)):=by
 refine aI.val (RJ a b) fun H=>?_
 refine aC.of mixed vy ?_
 unfold cJ
 simp (disch:=omega) only [↓wr,seval,wq,ah,ag,ak,aa,ab,af,ai,ae,qN,bE]
 refine av.dec (fun h1=>?_) (fun h1=>?_)
 ·simp (disch:=omega) only [↓wr,seval,wq,ah,ag,ak,aa,ab,af,ai,ae]
  rw[Xi h1]; rfl
 simp (disch:=omega) only [↓wr,seval,wq,ah,ag,ak,aa,ab,af,ai,ae,bE]
 refine av.eq (fun h2=>?_) (fun h2=>?_)
 ·simp (disch:=omega) only [↓wr,seval,wq,ah,ag,ak,aa,ab,af,ai,ae,bE]
  rw[decide_eq_false h1,Xi h2]; rfl
 ·simp (disch:=omega) only [↓wr,seval,wq,ah,ag,ak,aa,ab,af,ai,ae]
  rw[decide_eq_false h1,decide_eq_false h2]; rfl
def ec:List aH→aH→Nat
 | [],_=>0
 | y :: l,x=>if cJ y x=true then ec l x+1 else 0
theorem Ci:∀ (l:List aH) (x:aH),ec l x≤l.length
 | [],_=>Vj _
 | y :: l,x=>by
  rw[ec]; split
  ·have:=Ci l x; simp; omega
  ·simp
theorem BO:∀ (l:List aH) (x:aH) (i:Nat) (y:aH),l[i]?=some y→i < ec l x→cJ y x=true
 | [],_,_,_,h,_=>by simp at h
 | z :: l,x,0,y,h,hi=>by
  rw[ec] at hi; split at hi
  ·simp at h; subst h; assumption
  ·omega
 | z :: l,x,i+1,y,h,hi=>by
  rw[ec] at hi; split at hi
  ·exact BO l x i y (by simpa using h) (by omega)
  ·omega
theorem Cw:∀ (l:List aH) (x:aH) (y:aH),l[ec l x]?=some y→cJ y x=false
 | [],_,_,h=>by simp at h
 | z :: l,x,y,h=>by
  rw[ec] at h; split at h
  ·exact Cw l x y (by simpa using h)
  ·rename_i e; simp at h; subst h; simpa using e
theorem wH:∀ (l:List aH) (x:aH),eC l x=if l[ec l x]?=some x then l else l.take (ec l x) ++ [x] ++ l.drop (ec l x)
 | [],x=>by simp[eC,ec]
 | y :: l,x=>by
  rw[eC,ec]
  split
  ·have:=wH l x
   simp only[VU,WY,List.drop_succ_cons,VL]
   rw[this]; split <;> simp
  ·simp only[VG,Vb,List.take_zero,Ww,V9,VL]
theorem qA (x y:aH):fL Tryz.prog 9998 #[.int .i64 x.aF,.int .i64 x.dot] #[.int .i64 y.aF,.int .i64 y.dot]
  [{ name:= "Rule",type:=3,offset:=0,embedded:=false,tag:= "",pkgPath:= "",byteOffset:=0 },{ name:= "Dot",type:=3,offset:=1,embedded:=false,tag:= "",pkgPath:= "",byteOffset:=8 }] ((x.aF == y.aF) && ((x.dot == y.dot) && true)) :=
 .int _ _ _ .i64 _ _ (by decide) Tryz.underlying3 rfl rfl (.int _ _ _ .i64 _ _ (by decide) Tryz.underlying3 rfl rfl .nil)
theorem ze (x y:aH):((x.aF == y.aF) && ((x.dot == y.dot) && true))=decide (x=y):=by
 cases x; cases y; rw[We]; simp
theorem x8 {sz id off k m:Nat} (hm:m≤k):dW sz (.sl id off k sz) (some (gi m)) none=some (.sl id (off+m) (k - m) sz,.none,[]):=by
 simp[dW,bound,asNat,hm]
theorem tn {sz id off k m:Nat} (hm:m≤k):dW sz (.sl id off k sz) none (some (gi m))=some (.sl id off m sz,.none,[]):=by
 simp[dW,bound,asNat,hm]
theorem NI (l:List aH):((aT l).all fun e=>e.length == 2 && e.all aU)=true:=by
 simp[aT,List.all_map,bE,aU]
theorem OG {H:View} {u:V} {sz:Nat} {es:List (List V)} (h:ba H u sz es):∃ rd,bZ H u=some (es,rd):=by
 rcases h with ⟨rfl,k,rfl⟩ | ⟨n,rfl,hn⟩
 ·exact ⟨_,uM _ k⟩
 ·cases es with
  | nil=>exact ⟨[],by simp[bZ]⟩
  | cons e es =>
   exact ⟨_,by rw[show (e :: es).length=es.length+1 from rfl,rU _ n 0 es.length sz sz _ hn (by simp),Ww,Vq (by simp)]⟩
theorem qc {sz bytes:Nat} {u:V} {es:List (List V)} {H:View} {K:V→View→Prop} {w:cD (H,K)} (ho:ba H u sz es) (h:K u H):mB sz bytes u [] H K w:=by
 unfold mB
 rcases ho with ⟨_,k,rfl⟩ | ⟨n,rfl,_⟩ <;> simpa using h
theorem Left.behind {H H':View} {q:Nat} {o:cZ} {u r:V} (hq:H q=.dead) (h:Left (H.set q o) H' u r):Left H H' u r:=fun a ha hau=>by
 have e:¬ a=q:=by rintro rfl; exact ha hq
 have:=h a (by simp[View.set,e]; exact ha) hau
 simpa [View.set,e] using this
set_option maxHeartbeats 8000000 in
theorem AY (u:V) (l:List aH) (hl:l.length≤100000) (x:aH) (H:View) (ho:ba H u 2 (aT l)):aC Tryz.prog 108 [u,.agg (bE x)] H fun r H'=>ba H' r 2 (aT (eC l x))∧Left H H' u r:=by
 refine aC.of mixed wV ?_
 have hlen:cH u=some l.length:=by rw[ho.len]; simp[aT]
 have hle:=Ci l x
 simp (disch:=omega) only [↓wr,seval,wq,ah,ag,ak,aa,ab,af,ai,ae,rH,bE]
 refine aZ.up (ec l x) (fun i T H'=>H'=H∧i≤ec l x∧T 0=u∧T 3=.aN (bE x) 0∧T 5=gi i) ⟨rfl,by omega,rfl,rfl,rfl⟩ ?_
 rintro i k T H' hk ⟨eH,hi,t0,t3,t5⟩
 subst eH
 simp (disch:=omega) only [↓wr,seval,wq,ah,ag,ak,aa,ab,af,ai,ae,po,t0,t3,t5,hlen]
 have stop:i=ec l x→True:=fun _=>trivial
 refine av.dec (fun hc=>?_) (fun hc=>?_)
 ·have hy:l[i]?=some (l[i]'(by omega)):=U9 (by omega)
  generalize l[i]'(by omega)=y at hy
  obtain ⟨id,hu,hid⟩:=ho.sl (by simp[aT]; omega)
  have hl3:(aT l).length=l.length:=by simp[aT]
  have hg:(aT l).getD i []=bE y:=by simp[aT,U8,hy]
  have h15:=N1 y x
  simp only[bE] at h15 hg
  simp (disch:=omega) only [↓wr,seval,wq,ah,ag,ak,aa,ab,af,ai,ae,t0,t3,t5,hu,hid,hg,bE]
  refine ⟨by simp[aT]; omega,by simp[aT]; omega,?_⟩
  refine aD.pure h15 (by kernel_rfl) ?_
  simp (disch:=omega) only [↓wr,seval,wq,ah,ag,ak,aa,ab,af,ai,ae,t0,t3,t5]
  refine av.split (fun e=>?_) (fun e=>?_)
  ·have hlt:i < ec l x:=by
    rcases Vy i (ec l x) with h | h
    ·exact h
    ·have:=Cw l x y (by rw[show ec l x=i by omega]; exact hy)
     rw[this] at e; exact absurd e (by simp)
   simp (disch:=omega) only [↓wr,seval,wq,ah,ag,ak,aa,ab,af,ai,ae,t0,t3,t5]
   exact aM hk hlt ⟨rfl,hlt,t0,t3,rfl⟩
  have hia:i=ec l x:=by
   rcases Vy i (ec l x) with h | h
   ·rw[BO l x i y hy h] at e; exact absurd e (by simp)
   ·omega
  simp (disch:=omega) only [↓wr,seval,wq,ah,ag,ak,aa,ab,af,ai,ae,t0,t3,t5,hlen]
  refine av.dec (fun _=>?_) (fun h=>absurd hc h)
  simp (disch:=omega) only [↓wr,seval,wq,ah,ag,ak,aa,ab,af,ai,ae,t0,t3,t5,hu,hid,hg,bE]
  refine ⟨by simp[aT]; omega,by simp[aT]; omega,?_⟩
  refine iw (xs:=#[.int .i64 y.aF,.int .i64 y.dot]) (ys:=#[.int .i64 x.aF,.int .i64 x.dot]) Tryz.underlying33 (by kernel_rfl) (by kernel_rfl) ?_ ?_ (qA y x) (.inl ⟨rfl,rfl⟩) ?_
  ·rfl
  ·rfl
  rw[ze]
  simp (disch:=omega) only [↓wr,seval,wq,ah,ag,ak,aa,ab,af,ai,ae,t0,t3,t5]
  refine av.dec (fun e2=>?_) (fun e2=>?_)
  ·subst e2
   simp (disch:=omega) only [↓wr,seval,wq,ah,ag,ak,aa,ab,af,ai,ae,t0]
   rw[wH,Vd (by rw[← hia]; exact hy)]
   exact ⟨ho,fun id hid ho=>⟨rfl,ho⟩⟩
  rw[hl3] at hu
  have hel:bZ H' (.sl id i (l.length - i) 2)=some (aT (l.drop i),[id]):=by
   obtain ⟨q,hq⟩:∃ q,l.length - i=q+1:=⟨l.length - i - 1,by omega⟩
   rw[hq,rU H' id i q 2 2 (aT l) hid (by rw[hl3]; omega)]
   rw[show (aT l).drop i=aT (l.drop i) from List.map_drop.symm,Vq (by simp[aT]; omega)]
  simp (disch:=omega) only [↓wr,seval,wq,ah,ag,ak,aa,ab,af,ai,ae,t0,t3,t5,hu,x8 (sz:=2) (id:=id) (off:=0) (k:=l.length) (m:=i) (by omega),hel]
  refine gS ba.nil (NI _) (by unfold aJ aT; simp; omega) (by unfold aJ aT; simp; omega) ?_
  intro rest H1 hor lr
  simp (disch:=omega) only [↓wr,seval,wq,ah,ag,ak,aa,ab,af,ai,ae,t0,t3,t5,hu,tn (sz:=2) (id:=id) (off:=0) (k:=l.length) (m:=i) (by omega),bE]
  intro q hq
  have hidr:owner rest≠some id:=(lr id (by rw[hid]; simp) (by simp[owner])).2
  have hid1:H1 id=.arr 2 (aT l):=by rw[(lr id (by rw[hid]; simp) (by simp[owner])).1,hid]
  have hqid:¬ id=q:=by rintro rfl; rw[hid1] at hq; simp at hq
  simp (disch:=omega) only [↓wr,seval,wq,ah,ag,ak,aa,ab,af,ai,ae,bV]
  rw[wC _ _ _ _ _ _ _ _ _ _ (by rfl)]
  simp (disch:=omega) only [↓wr,seval,wq,ah,ag,ak,aa,ab,af,ai,ae,hqid,hid1,hl3]
  refine ⟨⟨by omega,by unfold aJ; omega,by unfold aJ; omega⟩,fun n2 hn2=>?_⟩
  try rw[Ww]
  have n2q:¬ n2=q:=by rintro rfl; simp at hn2
  rw[Va n2q] at hn2
  have n2id:¬ n2=id:=by rintro rfl; rw[hid1] at hn2; simp at hn2
  have hor3:=((hor.fresh (o:=.arr 2 [[gi x.aF,gi x.dot]]) hq).other (o:=.dead) hidr).fresh (m:=n2) (o:=.arr 2 (List.take i (aT l) ++ [[gi x.aF,gi x.dot]])) (by simp[View.set,n2q,n2id,hn2])
  have ho3:ba (((H1.set q (.arr 2 [[gi x.aF,gi x.dot]])).set id .dead).set n2 (.arr 2 (List.take i (aT l) ++ [[gi x.aF,gi x.dot]]))) (.sl n2 0 (i+1) 2) 2 (List.take i (aT l) ++ [[gi x.aF,gi x.dot]]):=.inr ⟨n2,by simp[hl3]; omega,by simp[View.set]⟩
  have hk3:∀ a,H' a≠.dead→a≠id→(((H1.set q (.arr 2 [[gi x.aF,gi x.dot]])).set id .dead).set n2 (.arr 2 (List.take i (aT l) ++ [[gi x.aF,gi x.dot]]))) a=H' a∧a≠n2:=fun a ha hai=>by
   have h1:=(lr a ha (by simp[owner])).1
   have aq:¬ a=q:=by rintro rfl; rw[hq] at h1; exact ha h1.symm
   have an:¬ a=n2:=by rintro rfl; rw[hn2] at h1; exact ha h1.symm
   exact ⟨by simp[View.set,aq,an,hai,h1],an⟩
  generalize ((H1.set q (.arr 2 [[gi x.aF,gi x.dot]])).set id .dead).set n2 (.arr 2 (List.take i (aT l) ++ [[gi x.aF,gi x.dot]]))=H3 at hor3 ho3 hk3 ⊢
  rw[V9] at hor3
  obtain ⟨rd,he⟩:=OG hor3
  simp (disch:=omega) only [↓wr,seval,wq,ah,ag,ak,aa,ab,af,ai,ae,he]
  refine gS ho3 (NI _) (by unfold aJ aT; simp; omega) (by unfold aJ aT; simp; omega) ?_
  intro r H4 o4 l4
  simp (disch:=omega) only [↓wr,seval,wq,ah,ag,ak,aa,ab,af,ai,ae]
  refine ⟨?_,fun a ha hau=>?_⟩
  ·rw[wH,Va (by rw[← hia,hy]; simpa using e2),← hia]
   simpa [aT,bE,List.map_take,List.map_drop] using o4
  ·obtain ⟨k1,k2⟩:=hk3 a ha (by rintro rfl; exact hau (by rw[hu]; rfl))
   have:=l4 a (by rw[k1]; exact ha) (by simp[owner]; exact fun h=>k2 h.symm)
   exact ⟨by rw[this.1,k1],this.2⟩
 ·simp (disch:=omega) only [↓wr,seval,wq,ah,ag,ak,aa,ab,af,ai,ae,t0,t3,t5,hlen]
  refine av.dec (fun h=>absurd h hc) (fun _=>?_)
  have hil:i=l.length:=by omega
  subst hil
  have hput:aT (eC l x)=aT l ++ [[gi x.aF,gi x.dot]]:=by
   rw[wH,show ec l x=l.length by omega,VI (Vj _),Va (by simp),List.take_length,List.drop_length]
   simp[aT,bE]
  rcases ho with ⟨e,k0,hu⟩ | ⟨id,hu,hid⟩
  ·have hl0:l=[]:=by simpa [aT] using e
   subst hl0
   simp (disch:=omega) only [↓wr,seval,wq,ah,ag,ak,aa,ab,af,ai,ae,t0,t3,t5,hu,show ∀ k,dW 2 (.emp k) (some (gi 0)) none=some (.emp k,.none,[]) from fun k=>rfl,show ∀ k,dW 2 (.emp k) none (some (gi 0))=some (.emp k,.none,[]) from fun k=>rfl]
   refine qc ba.nil ?_
   simp (disch:=omega) only [↓wr,seval,wq,ah,ag,ak,aa,ab,af,ai,ae,t0,t3,t5,hu,show ∀ k,dW 2 (.emp k) none (some (gi 0))=some (.emp k,.none,[]) from fun k=>rfl,bE]
   intro q hq
   simp (disch:=omega) only [↓wr,seval,wq,ah,ag,ak,aa,ab,af,ai,ae,bV]
   refine gS (sz:=2) (u:=.emp k0) ba.nil (by simp[aU]) (by unfold aJ; simp) (by unfold aJ; simp) ?_
   intro r H4 o4 l4
   simp (disch:=omega) only [↓wr,seval,wq,ah,ag,ak,aa,ab,af,ai,ae]
   refine qc o4 ?_
   simp (disch:=omega) only [↓wr,seval,wq,ah,ag,ak,aa,ab,af,ai,ae]
   exact ⟨by rw[hput]; exact o4,hu ▸ Left.behind hq l4⟩
  ·rw[show (aT l).length=l.length by simp[aT]] at hu
   simp (disch:=omega) only [↓wr,seval,wq,ah,ag,ak,aa,ab,af,ai,ae,t0,t3,t5,hu,x8 (sz:=2) (id:=id) (off:=0) (k:=l.length) (m:=l.length) (by omega),tn (sz:=2) (id:=id) (off:=0) (k:=l.length) (m:=l.length) (by omega)]
   rw[Nat.sub_self,show bZ H' (.sl id l.length 0 2)=some ([],[]) from rfl]
   simp (disch:=omega) only [↓wr,seval,wq,ah,ag,ak,aa,ab,af,ai,ae]
   refine qc ba.nil ?_
   simp (disch:=omega) only [↓wr,seval,wq,ah,ag,ak,aa,ab,af,ai,ae,t0,t3,t5,hu,tn (sz:=2) (id:=id) (off:=0) (k:=l.length) (m:=l.length) (by omega),bE]
   intro q hq
   simp (disch:=omega) only [↓wr,seval,wq,ah,ag,ak,aa,ab,af,ai,ae,bV]
   have ho2:ba H' (.sl id 0 l.length 2) 2 (aT l):=.inr ⟨id,by simp[aT],hid⟩
   refine gS (sz:=2) (ho2.fresh hq) (by simp[aU]) (by unfold aJ aT; simp; omega) (by unfold aJ aT; simp; omega) ?_
   intro r H4 o4 l4
   simp (disch:=omega) only [↓wr,seval,wq,ah,ag,ak,aa,ab,af,ai,ae]
   refine qc o4 ?_
   simp (disch:=omega) only [↓wr,seval,wq,ah,ag,ak,aa,ab,af,ai,ae]
   exact ⟨by rw[hput]; exact o4,hu ▸ Left.behind hq l4⟩
def aW (g:aw) (r:Int):List Int:=if r = -1 then [-1 - g.start] else (aE g r).right
def bA (g:aw) (x:aH):Int × Bool:=if x.dot=(aW g x.aF).length then (0,false) else ((aW g x.aF).getD x.dot.toNat 0,true)
def pf:SF:=⟨.seq (ao [cL 2 0,((some 4),.op (.bL (.val (.emp 1))))]) <|
 .seq (.seq (ao [aj 5 1,aQ 6 .eql 5 (-1)]) <|
 .cond (.tmp 6) (.seq (ao [aB 7 3 2,ax 8 7,((some 9),.op (.arith .sub (.val (.val (.int .i64 (-1)))) (.tmp 8))),((some 10),.op (.cg 1 1 [(.val (.int .i64 0))] [(0,(.tmp 9))])),aj 4 10]) <|
 .ret) (.skip)) <|
 .seq (ao [aB 11 2 2,ax 12 11,aj 13 1,aP 14 3 12 13,aB 15 1 14,ax 16 15,aj 4 16]) <|
 .ret,
 [.tmp 4],17⟩
theorem uC:aV Tryz.prog 55 [2]=some pf:=by kernel_rfl
def rb:SF:=⟨.seq (ao [cL 2 0,cL 3 1,bj 4 0,bK 5 false]) <|
 .seq (ao [bp 7 4 2,aB 8 0 3,ax 9 8,bC 10 55 [7,9],aj 6 10]) <|
 .seq (.seq (ao [aB 11 1 3,ax 12 11,aj 13 6,aX 14 13,bc 15 .eql 12 14]) <|
 .cond (.tmp 15) (.seq (ao [bj 4 0,bK 5 false]) <|
 .ret) (.skip)) <|
 .seq (ao [aj 16 6,aB 17 1 3,ax 18 17,aP 19 1 16 18,ax 20 19,aj 4 20,bK 5 true]) <|
 .ret,
 [.tmp 4,.tmp 5],21⟩
theorem vG:aV Tryz.prog 51 [2,3]=some rb:=by kernel_rfl
theorem Ca (g:aw) (hs : -100≤g.start∧g.start≤100) (r:Int) (hr : -1≤r∧r < (g.rules.length:Int)):aI Tryz.prog 55 [.agg (au g),gi r] (encI (aW g r)):=by
 refine aI.of (by
  intro v hv; simp at hv
  rcases hv with rfl | rfl
  ·exact cI _ (dH g)
  ·exact .val _) ?_
 refine aC.of mixed uC ?_
 unfold aW
 simp (disch:=omega) only [↓wr,seval,wq,ah,ag,ak,aa,ab,af,ai,ae,pf,au,encS]
 refine av.eq (fun h1=>?_) (fun h1=>?_)
 ·simp (disch:=omega) only [↓wr,seval,wq,ah,ag,ak,aa,ab,af,ai,ae,au,encS]
  intro n
  rw[Vd h1]
  rintro h' hv
  refine eu.fr (mQ (l:=[-1 - g.start]) (.inr ⟨n,rfl,?_⟩))
  rw[hv]; simp[View.set]
 ·have hR:g.rules[r.toNat]?=some (aE g r):=by unfold aE; exact getD_some (by omega)
  rw[Va h1]
  generalize aE g r=R at hR
  simp (disch:=omega) only [↓wr,seval,wq,ah,ag,ak,aa,ab,af,ai,ae,au,encS,Vc,hR,Vh,aO]
  intro h' _
  exact .tree _ (eP R.right)
theorem M7 (g:aw) (hs : -100≤g.start∧g.start≤100) (x:aH) (hx : -1≤x.aF∧x.aF < (g.rules.length:Int)) (hd:0≤x.dot∧x.dot≤(aW g x.aF).length) (hl:(aW g x.aF).length≤1000) :
  aI Tryz.prog 51 [.agg (au g),.agg (bE x)] (.bI [gi (bA g x).1,gb (bA g x).2]):=by
 have h1:=Ca g hs x.aF hx
 refine aI.tree (by
  intro v hv; simp at hv
  rcases hv with rfl | rfl
  ·exact cI _ (dH g)
  ·exact cI _ fun v hv=>by simp[bE] at hv; rcases hv with rfl | rfl <;> exact .val _) (.bI _ fun i hi=>by
   match i,hi with
   | 0,_=>exact .val _
   | 1,_=>exact .val _) fun H=>?_
 refine aC.of mixed vG ?_
 simp only[au,encS,encI] at h1
 unfold bA
 simp (disch:=omega) only [↓wr,seval,wq,ah,ag,ak,aa,ab,af,ai,ae,rb,au,encS,bE]
 refine aD.pure h1 (by kernel_rfl) ?_
 generalize aW g x.aF=R at hd hl ⊢
 simp (disch:=omega) only [↓wr,seval,wq,ah,ag,ak,aa,ab,af,ai,ae,bE]
 refine av.eq (fun h2=>?_) (fun h2=>?_)
 ·simp (disch:=omega) only [↓wr,seval,wq,ah,ag,ak,aa,ab,af,ai,ae]
  rw[Vd h2]
 ·have hg:R[x.dot.toNat]?=some (R.getD x.dot.toNat 0):=getD_some (by omega)
  simp (disch:=omega) only [↓wr,seval,wq,ah,ag,ak,aa,ab,af,ai,ae,bE,Vc,hg,Vh]
  rw[Va h2]
theorem fq {a b:aH} : cJ a b=true↔a.aF < b.aF∨a.aF=b.aF∧a.dot < b.dot:=by
 simp[cJ]
theorem nU {a b c:aH} (h:cJ a b=true) (k:cJ b c=true):cJ a c=true:=by
 rw[fq] at h k ⊢; omega
theorem lE {a:aH} : cJ a a=false:=by
 cases h:cJ a a with
 | false=>rfl
 | true=>rw[fq] at h; omega
theorem I0 {a b:aH} (h:cJ a b=true):cJ b a=false:=by
 cases k:cJ b a with
 | false=>rfl
 | true=>have:=nU h k; rw[lE] at this; exact absurd this (by simp)
theorem wP {a b:aH} (h:cJ a b=false) (hne:¬ a=b):cJ b a=true:=by
 rw[fq]
 have h1:¬ cJ a b=true:=by simp[h]
 rw[fq] at h1
 obtain ⟨ar,ad⟩:=a
 obtain ⟨br,bd⟩:=b
 simp only[aH.mk.injEq] at hne
 simp only at h1 ⊢
 omega
abbrev cB (l:List aH):Prop:=l.Pairwise fun a b=>cJ a b=true
theorem jE:∀ {l:List aH} {x y:aH},y∈eC l x↔y=x∨y∈l
 | [],x,y=>by simp[eC]
 | z :: l,x,y=>by
  rw[eC]
  split
  ·simp only[Vp,jE (l:=l)]
   constructor
   ·rintro (h | h | h) <;> simp[h]
   ·rintro (h | h | h) <;> simp[h]
  ·split
   ·rename_i h; subst h; simp
   ·simp
theorem rM:∀ {l:List aH} {x:aH},cB l→cB (eC l x)
 | [],x,_=>by simp[eC,cB]
 | z :: l,x,h=>by
  rw[cB,Wu] at h
  rw[eC]
  split
  ·rename_i hz
   rw[cB,Wu]
   refine ⟨fun y hy=>?_,rM h.2⟩
   rcases jE.1 hy with rfl | hy
   ·exact hz
   ·exact h.1 y hy
  ·rename_i hz
   split
   ·exact Wu.2 h
   ·rename_i hne
    have hxz:=wP (by simpa using hz) hne
    rw[cB,Wu]
    refine ⟨fun y hy=>?_,Wu.2 h⟩
    rcases Vp.1 hy with rfl | hy
    ·exact hxz
    ·exact nU hxz (h.1 y hy)
theorem Ft:∀ (l:List aH) (x:aH),(eC l x).length=l.length∨(eC l x).length=l.length+1
 | [],x=>.inr rfl
 | z :: l,x=>by
  rw[eC]
  split
  ·rcases Ft l x with h | h <;> simp[h]
  ·split <;> simp
theorem C9:∀ {l:List aH} {x:aH},cB l→x∈l→eC l x=l
 | [],x,_,h=>by simp at h
 | z :: l,x,hs,h=>by
  rw[cB,Wu] at hs
  rw[eC]
  rcases Vp.1 h with rfl | h
  ·rw[Va (by simp[lE]),Vd rfl]
  ·rw[Vd (hs.1 x h),C9 hs.2 h]
theorem BS:∀ {l:List aH} {x:aH},x ∉ l→(eC l x).length=l.length+1
 | [],x,_=>rfl
 | z :: l,x,h=>by
  simp only[Vp,not_or] at h
  rw[eC]
  split
  ·simp[BS h.2]
  ·rw[Va (fun e=>h.1 e.symm)]; rfl
theorem EY:∀ {l:List aH} {x:aH},(∀ y∈l,cJ y x=true)→eC l x=l ++ [x]
 | [],x,_=>rfl
 | z :: l,x,h=>by
  rw[eC,Vd (h z (by simp)),EY fun y hy=>h y (by simp[hy])]; rfl
theorem zb:∀ {a b:List aH},cB a→cB b→(∀ x,x∈a↔x∈b)→a=b
 | [],[],_,_,_=>rfl
 | [],y :: b,_,_,h=>by have:=(h y).2 (by simp); simp at this
 | x :: a,[],_,_,h=>by have:=(h x).1 (by simp); simp at this
 | x :: a,y :: b,ha,hb,h=>by
  rw[cB,Wu] at ha hb
  have hxy:x=y:=by
   have h1:=(h x).1 (by simp)
   have h2:=(h y).2 (by simp)
   rcases Vp.1 h1 with h1 | h1
   ·exact h1
   ·rcases Vp.1 h2 with h2 | h2
    ·exact h2.symm
    ·have:=nU (ha.1 y h2) (hb.1 x h1)
     rw[lE] at this; exact absurd this (by simp)
  subst hxy
  congr 1
  refine zb ha.2 hb.2 fun z=>?_
  have hz:=h z
  simp only[Vp] at hz
  constructor
  ·intro hm
   rcases hz.1 (.inr hm) with rfl | h
   ·have:=ha.1 z hm; rw[lE] at this; exact absurd this (by simp)
   ·exact h
  ·intro hm
   rcases hz.2 (.inr hm) with rfl | h
   ·have:=hb.1 z hm; rw[lE] at this; exact absurd this (by simp)
   ·exact h
theorem GN:∀ (l:List Int) (a n:Int),l.Pairwise (· < ·)→(∀ x∈l,a≤x∧x < a+n)→0≤n→(l.length:Int)≤n
 | [],a,n,_,_,hn=>by simpa using hn
 | x :: l,a,n,hp,hm,hn=>by
  rw[Wu] at hp
  have h1:=hm x (by simp)
  have:=GN l (x+1) (a+n - (x+1)) hp.2 (fun y hy=>by have:=hp.1 y hy; have:=hm y (by simp[hy]); omega) (by omega)
  simp only[Vr]; omega
def cr (g:aw) (x:aH):Prop:=(-1≤x.aF∧x.aF < (g.rules.length:Int))∧0≤x.dot∧x.dot≤(aW g x.aF).length
theorem eS {g:aw} (hf:g.dK) {r:Int} (h : -1≤r∧r < (g.rules.length:Int)):(aW g r).length≤6:=by
 unfold aW
 split
 ·simp
 ·have hR:g.rules[r.toNat]?=some (aE g r):=by unfold aE; exact getD_some (by omega)
  exact hf.right _ (Vf hR)
theorem hX {g:aw} (hf:g.dK) {l:List aH} (hs:cB l) (hl:∀ x∈l,cr g x):l.length≤287:=by
 have hd:∀ x∈l,0≤x.dot∧x.dot≤6:=fun x hx=>by
  have h1:=hl x hx
  have:=eS hf h1.1
  exact ⟨h1.2.1,by have:=h1.2.2; omega⟩
 have h1:(l.map fun x=>(x.aF+1) * 7+x.dot).Pairwise (· < ·):=by
  rw[Xe]
  refine List.Pairwise.imp_of_mem ?_ hs
  intro a b ha hb hab
  rw[fq] at hab
  have:=hd a ha; have:=hd b hb
  omega
 have:=GN _ 0 287 h1 (fun y hy=>by
  obtain ⟨x,hx,rfl⟩:=Vw.1 hy
  have h2:=(hl x hx).1
  have:=hd x hx; have:=hf.rules
  omega) (by omega)
 simp at this
 omega
inductive mR (g:aw) (l:List aH):aH→Prop
 | base {x:aH} : x∈l→mR g l x
 | step {x:aH} {s:Int} {k:Nat} {R:bw} : mR g l x→bA g x=(s,true)→s < 0→g.rules[k]?=some R→R.left = -1 - s→mR g l ⟨k,0⟩
theorem mR.has {g:aw} {l:List aH} (hl:∀ x∈l,cr g x) {x:aH} (h:mR g l x):cr g x:=by
 induction h with
 | base h=>exact hl _ h
 | step _ _ _ hk _ _ =>
  have:=(Vn.1 hk).1
  exact ⟨⟨by simp only; omega,by simp only; omega⟩,by simp only; omega,by simp only; omega⟩
def HS (g:aw):List aH:=(List.range (g.rules.length+1)).flatMap fun (r:Nat)=>(List.range 7).map fun (d:Nat)=>(⟨(r:Int) - 1,(d:Int)⟩:aH)
theorem Mb {g:aw} (hf:g.dK) {x:aH} (h:cr g x):x∈HS g:=by
 have:=eS hf h.1
 obtain ⟨⟨h1,h2⟩,h3,h4⟩:=h
 simp only[HS,List.mem_flatMap,Vw,V5]
 refine ⟨(x.aF+1).toNat,by omega,x.dot.toNat,by omega,?_⟩
 obtain ⟨r,d⟩:=x
 simp only at h1 h2 h3 h4 this
 simp only[aH.mk.injEq]; omega
theorem s9:∀ (l a:List aH),cB a→cB (l.foldl eC a)∧∀ x,x∈l.foldl eC a↔x∈a∨x∈l
 | [],a,h=>⟨h,fun x=>by simp⟩
 | y :: l,a,h=>by
  obtain ⟨h1,h2⟩:=s9 l (eC a y) (rM h)
  refine ⟨h1,fun x=>?_⟩
  rw[VF,h2,jE,Vp]
  constructor
  ·rintro ((h | h) | h) <;> simp[h]
  ·rintro (h | h | h) <;> simp[h]
open Classical in
noncomputable def cw (g:aw) (l:List aH):List aH:=((HS g).filter fun x=>decide (mR g l x)).foldl eC []
theorem jU (g:aw) (l:List aH):cB (cw g l):=(s9 _ [] .nil).1
theorem cY {g:aw} (hf:g.dK) {l:List aH} (hl:∀ x∈l,cr g x) {x:aH} : x∈cw g l↔mR g l x:=by
 classical
 rw[cw,(s9 _ [] .nil).2]
 simp only[List.not_mem_nil,false_or,VX,Vo]
 exact ⟨fun h=>h.2,fun h=>⟨Mb hf (h.has hl),h⟩⟩
theorem Iw {g:aw} (hf:g.dK) {l o:List aH} (hl:∀ x∈l,cr g x) (hs:cB o) (h1:∀ x∈o,mR g l x) (h2:∀ x∈l,x∈o)
  (h3:∀ x∈o,∀ (s:Int) (k:Nat) (R:bw),bA g x=(s,true)→s < 0→g.rules[k]?=some R→R.left = -1 - s→(⟨k,0⟩:aH)∈o):cw g l=o:=by
 refine zb (jU g l) hs fun x=>?_
 rw[cY hf hl]
 refine ⟨fun h=>?_,h1 x⟩
 induction h with
 | base h=>exact h2 _ h
 | step _ hn hs hk hL ih=>exact h3 _ ih _ _ _ hn hs hk hL
theorem Fm {g:aw} (hf:g.dK) {l:List aH} (hl:∀ x∈l,cr g x):(cw g l).length≤287 :=
 hX hf (jU g l) fun _ hx=>((cY hf hl).1 hx).has hl
def bz (g:aw) (l:List aH) (s:Int):List aH:=(l.filter fun x=>decide (bA g x=(s,true))).map fun x=>⟨x.aF,x.dot+1⟩
theorem kN {g:aw} {l:List aH} {s:Int} {y:aH} : y∈bz g l s↔∃ x∈l,bA g x=(s,true)∧y=⟨x.aF,x.dot+1⟩:=by
 simp only[bz,Vw,VX,Vo]
 constructor
 ·rintro ⟨x,⟨h1,h2⟩,rfl⟩; exact ⟨x,h1,h2,rfl⟩
 ·rintro ⟨x,h1,h2,rfl⟩; exact ⟨x,⟨h1,h2⟩,rfl⟩
theorem E7 {g:aw} {l:List aH} (s:Int) (h:cB l):cB (bz g l s):=by
 rw[cB,bz,Xe]
 refine (h.filter _).imp ?_
 intro a b hab
 rw[fq] at hab ⊢
 simp only; omega
theorem qj {g:aw} {x:aH} {s:Int} (h:bA g x=(s,true)):x.dot≠(aW g x.aF).length∧(aW g x.aF).getD x.dot.toNat 0=s:=by
 unfold bA at h
 split at h
 ·simp at h
 ·rename_i hd; exact ⟨hd,by simpa using h⟩
theorem HA {g:aw} {l:List aH} {s:Int} (hl:∀ x∈l,cr g x):∀ y∈bz g l s,cr g y:=by
 intro y hy
 obtain ⟨x,hx,hn,rfl⟩:=kN.1 hy
 have h1:=hl x hx
 have h2:=(qj hn).1
 exact ⟨h1.1,by simp only; have:=h1.2; omega,by simp only; have:=h1.2; omega⟩
theorem On {g:aw} {l:List aH} (hs:cB l) {i:Nat} {x:aH} (hx:l[i]?=some x) (s:Int) :
  bz g (l.take (i+1)) s=if bA g x=(s,true) then eC (bz g (l.take i) s) ⟨x.aF,x.dot+1⟩ else bz g (l.take i) s:=by
 have e:l.take (i+1)=l.take i ++ [x]:=by rw[Vx,hx]; rfl
 rw[e]
 split
 ·rename_i h
  rw[EY]
  ·simp[bz,h]
  ·intro y hy
   obtain ⟨z,hz,_,rfl⟩:=kN.1 hy
   have h2:cB (l.take (i+1)):=hs.sublist (List.take_sublist _ _)
   rw[e,cB,List.pairwise_append] at h2
   have:=h2.2.2 z hz x (by simp)
   rw[fq] at this ⊢
   simp only; omega
 ·rename_i h
  simp[bz,h]
theorem sq {g:aw} {l:List aH} {s:Int} : (bz g l s).length≤l.length:=by
 rw[bz,Vg]; exact VZ _ _
structure aR where
 bh:List aH
 bk:List dx
 deriving DecidableEq
abbrev bH:aR:=⟨[],[]⟩
def bf (g:aw) (i:Nat):Int:=if i < g.ay.length then i else -1 - ((i:Int) - g.ay.length)
def findD:List aR→List aH→Int
 | [],_=>-1
 | s :: l,k=>if s.bh=k then 0 else if findD l k < 0 then -1 else findD l k+1
theorem sw:∀ (l:List aR) (k:List aH),-1≤findD l k
 | [],_=>by simp[findD]
 | s :: l,k=>by
  have:=sw l k
  rw[findD]; split
  ·omega
  ·split <;> omega
theorem xe:∀ (l:List aR) (k:List aH),findD l k < l.length
 | [],_=>by simp[findD]
 | s :: l,k=>by
  have:=xe l k
  rw[findD]; simp only[Vr]; split
  ·omega
  ·split <;> omega
theorem Ip:∀ (l:List aR) (k:List aH) (i:Nat),findD l k=i→∃ s,l[i]?=some s∧s.bh=k
 | [],_,i,h=>by simp[findD] at h
 | s :: l,k,i,h=>by
  rw[findD] at h
  split at h
  ·rename_i e
   have:i=0:=by omega
   subst this
   exact ⟨s,rfl,e⟩
  ·split at h
   ·omega
   ·obtain ⟨j,rfl⟩:∃ j,i=j+1:=⟨i - 1,by omega⟩
    obtain ⟨t,h1,h2⟩:=Ip l k j (by omega)
    exact ⟨t,by simpa using h1,h2⟩
theorem Ij:∀ (l:List aR) (k:List aH),findD l k < 0→∀ s∈l,s.bh≠k
 | [],_,_,s,hs=>by simp at hs
 | t :: l,k,h,s,hs=>by
  rw[findD] at h
  split at h
  ·omega
  ·rename_i hne
   have hl:findD l k < 0:=by
    split at h
    ·assumption
    ·omega
   rcases Vp.1 hs with rfl | hs
   ·exact hne
   ·exact Ij l k hl s hs
theorem G3:∀ (l:List aR) (k:List aH) (i:Nat) (s:aR),l[i]?=some s→s.bh=k→(∀ j t,j < i→l[j]?=some t→t.bh≠k)→findD l k=i
 | [],_,_,_,h,_,_=>by simp at h
 | t :: l,k,0,s,h,hk,_=>by simp at h; subst h; simp[findD,hk]
 | t :: l,k,i+1,s,h,hk,hn=>by
  have h0:=hn 0 t (by omega) rfl
  have:=G3 l k i s (by simpa using h) hk fun j u hj hu=>hn (j+1) u (by omega) (by simpa using hu)
  rw[findD,Va h0,this,Va (by omega)]; omega
theorem BR:∀ (l:List aR) (k:List aH),(∀ s∈l,s.bh≠k)→findD l k = -1
 | [],_,_=>rfl
 | t :: l,k,h=>by
  have:=BR l k fun s hs=>h s (by simp[hs])
  rw[findD,Va (h t (by simp)),this]; rfl
def df (g:aw) (l:List aH) (at_:Nat) (out:List aR) (i:Nat):List aR :=
 if bz g l (bf g i)=[] then out else
 if findD out (bz g l (bf g i)) < 0 then (out ++ [(⟨bz g l (bf g i),[]⟩:aR)]).modify at_ fun s=>(⟨s.bh,s.bk ++ [⟨bf g i,out.length⟩]⟩:aR)
 else out.modify at_ fun s=>(⟨s.bh,s.bk ++ [⟨bf g i,findD out (bz g l (bf g i))⟩]⟩:aR)
noncomputable def AM (g:aw) (at_:Nat) (out:List aR) (n:Nat):List aR:=(List.range n).foldl (df g (cw g (out.getD at_ bH).bh) at_) out
noncomputable def fF (g:aw):Nat→Nat→List aR→List aR × Int
 | 0,_,out=>(out,0)
 | f+1,at_,out=>if at_ < out.length then
   (if 300 < (AM g at_ out (g.ay.length+g.az.length)).length then ([],5) else fF g f (at_+1) (AM g at_ out (g.ay.length+g.az.length)))
  else (out,0)
def dX:List aR:=[⟨[⟨-1,0⟩],[]⟩]
abbrev BV:=BitVec 32
def dN (n:Int):BV:=if 0≤n∧n≤31 then BitVec.twoPow 32 n.toNat else 0
theorem vY {a b:BV} (h:∀ i,i < 32→a.getLsbD i=b.getLsbD i):a=b:=BitVec.eq_of_getLsbD_eq fun i hi=>h i hi
def iq (a b:BV):Prop:=∀ i,a.getLsbD i=true→b.getLsbD i=true
theorem DE {a b:BV} : (a ||| b)=b↔iq a b:=by
 constructor
 ·intro h i hi
  rw[← h,VM,hi]; rfl
 ·intro h
  refine vY fun i _=>?_
  rw[VM]
  cases ha:a.getLsbD i with
  | false=>rfl
  | true=>rw[h i ha]; rfl
theorem Aw {a b:BV} : (a &&& ~~~b)=0↔iq a b:=by
 constructor
 ·intro h i hi
  have hl:i < 32:=BitVec.lt_of_getLsbD hi
  have:=Wj (fun x:BV=>x.getLsbD i) h
  simp only[BitVec.getLsbD_and,BitVec.getLsbD_not,hi] at this
  simpa [hl] using this
 ·intro h
  refine vY fun i hl=>?_
  simp only[BitVec.getLsbD_and,BitVec.getLsbD_not]
  cases ha:a.getLsbD i with
  | false=>simp
  | true=>rw[h i ha]; simp
theorem Ob {a:BV} : a=0↔∀ i,a.getLsbD i=false:=by
 constructor
 ·rintro rfl i; simp
 ·intro h; exact vY fun i _=>by rw[h]; simp
theorem TU (a b:BV):b.toNat≤(a ||| b).toNat:=by
 rw[BitVec.toNat_or]; exact Nat.right_le_or
def ew (null:List Bool) (first:List BV) (rest:BV):List Int→BV
 | []=>rest
 | s :: l=>if 0≤s then dN s else if null.getD (-1 - s).toNat false=true then first.getD (-1 - s).toNat 0 ||| ew null first rest l else first.getD (-1 - s).toNat 0
theorem GM {null:List Bool} {first:List BV} {a b:BV} (h:iq a b):∀ l:List Int,iq (ew null first a l) (ew null first b l)
 | []=>h
 | s :: l=>by
  intro i hi
  rw[ew] at hi ⊢
  split
  ·rename_i h0; rw[Vd h0] at hi; exact hi
  ·rename_i h0
   rw[Va h0] at hi
   split
   ·rename_i h1
    rw[Vd h1] at hi
    rw[VM,V7] at hi ⊢
    exact hi.imp id (GM h l i)
   ·rename_i h1; rw[Va h1] at hi; exact hi
theorem RK {null:List Bool} {first:List BV} {a:BV} : ∀ (l:List Int) (i:Nat),(ew null first a l).getLsbD i=true→a≠0→∃ t,a.getLsbD t=true∧(ew null first (BitVec.twoPow 32 t) l).getLsbD i=true:=by
 intro l i
 have hne:a≠0→∃ t,a.getLsbD t=true:=fun h=>Wi fun hn=>h (Ob.2 fun j=>by
  cases hj:a.getLsbD j with
  | false=>rfl
  | true=>exact absurd ⟨j,hj⟩ hn)
 induction l with
 | nil =>
  intro h _
  refine ⟨i,h,?_⟩
  rw[ew,Wz]
  have:=BitVec.lt_of_getLsbD h
  simp[this]
 | cons s l ih =>
  intro h ha
  rw[ew] at h
  split at h
  ·rename_i h0
   obtain ⟨t,ht⟩:=hne ha
   exact ⟨t,ht,by rw[ew,Vd h0]; exact h⟩
  ·rename_i h0
   split at h
   ·rename_i h1
    rw[VM,V7] at h
    rcases h with h | h
    ·obtain ⟨t,ht⟩:=hne ha
     exact ⟨t,ht,by rw[ew,Va h0,Vd h1,VM,h]; rfl⟩
    ·obtain ⟨t,h3,h4⟩:=ih h ha
     exact ⟨t,h3,by rw[ew,Va h0,Vd h1,VM,h4,Bool.or_true]⟩
   ·rename_i h1
    obtain ⟨t,ht⟩:=hne ha
    exact ⟨t,ht,by rw[ew,Va h0,Va h1]; exact h⟩
theorem K3 {a:BV} {t:Nat} (h:a.getLsbD t=true):iq (BitVec.twoPow 32 t) a:=by
 intro i hi
 rw[Wz] at hi
 simp only[Vm,Vo] at hi
 rw[← hi.2]; exact h
def kB (null:List Bool) (fs:List BV) (r:bw):List BV:=fs.set r.left.toNat (fs.getD r.left.toNat 0 ||| ew null fs 0 r.right)
theorem EL (null:List Bool) (fs:List BV) (r:bw):(kB null fs r).length=fs.length:=by simp[kB]
def sn (g:aw) (null:List Bool) (fs:List BV):List BV:=g.rules.foldl (kB null) fs
theorem Fg (null:List Bool):∀ (l:List bw) (fs:List BV),(l.foldl (kB null) fs).length=fs.length
 | [],_=>rfl
 | r :: l,fs=>by rw[VF,Fg null l,EL]
theorem L8 (g:aw) (null:List Bool) (fs:List BV):(sn g null fs).length=fs.length:=Fg _ _ _
def en (g:aw) (null:List Bool):List BV:=iter (sn g null) g.az.length (List.replicate g.az.length 0)
theorem E1 {f:List BV→List BV} (hf:∀ l,(f l).length=l.length):∀ (n:Nat) (l:List BV),(iter f n l).length=l.length
 | 0,_=>rfl
 | n+1,l=>by rw[iter,E1 hf n,hf]
theorem Bz (g:aw) (null:List Bool):(en g null).length=g.az.length:=by
 rw[en,E1 (L8 g null)]; simp
def gH:List dx→Int→Int
 | [],_=>-1
 | e :: l,s=>if e.sym=s then e.to else gH l s
def gT (a:List aR):Int→List Int→Int × Bool
 | at_,[]=>(at_,true)
 | at_,s :: l=>if 0≤gH (a.getD at_.toNat bH).bk s∧gH (a.getD at_.toNat bH).bk s < a.length then gT a (gH (a.getD at_.toNat bH).bk s) l else (0,false)
def fh (a:List aR) (at_:Int) (l:List Int):Int × Bool:=if at_ < 0∨(a.length:Int)≤at_ then (0,false) else gT a at_ l
theorem yW {a:List aR} : ∀ (l:List Int) (at_:Int),0≤at_→at_ < a.length→0≤(gT a at_ l).1∧(gT a at_ l).1 < a.length
 | [],at_,h1,h2=>⟨h1,h2⟩
 | s :: l,at_,h1,h2=>by
  rw[gT]
  split
  ·rename_i h; exact yW l _ h.1 h.2
  ·exact ⟨by simp,by simp only; omega⟩
abbrev Sets:=List (List BV)
def dQ (ss:Sets) (i k:Nat):BV:=(ss.getD i []).getD k 0
def iX (l:List aH) (row:List BV) (x:aH) (s:BV):List BV:=List.zipWith (fun y v=>if y=x then v ||| s else v) l row
def fg (ls:List (List aH)) (ss:Sets) (st:Nat) (x:aH) (s:BV):Sets:=ss.set st (iX (ls.getD st []) (ss.getD st []) x s)
def j4 (ls:List (List aH)) (ss:Sets):Prop:=ss.length=ls.length∧∀ i:Nat,(ss.getD i []).length=(ls.getD i []).length
def j0 (a b:Sets):Prop:=a.length=b.length∧(∀ i:Nat,(a.getD i []).length=(b.getD i []).length)∧∀ i k,iq (dQ a i k) (dQ b i k)
theorem j0.refl {a:Sets} : j0 a a:=⟨rfl,fun _=>rfl,fun _ _ _ h=>h⟩
theorem j0.trans {a b c:Sets} (h:j0 a b) (k:j0 b c):j0 a c:=⟨h.1.trans k.1,fun i=>(h.2.1 i).trans (k.2.1 i),fun i j t ht=>k.2.2 i j t (h.2.2 i j t ht)⟩
theorem j0.sU {a b:Sets} (h:j0 a b) (k:j0 b a):a=b:=by
 refine List.ext_getElem h.1 fun i h1 h2=>?_
 have e1:a.getD i []=a[i]:=by simp[U8,h1]
 have e2:b.getD i []=b[i]:=by simp[U8,h2]
 refine List.ext_getElem (by rw[← e1,← e2]; exact h.2.1 i) fun j h3 h4=>?_
 have g1:dQ a i j=a[i][j]:=by rw[dQ,e1]; simp[U8,h3]
 have g2:dQ b i j=b[i][j]:=by rw[dQ,e2]; simp[U8,h4]
 rw[← g1,← g2]
 refine vY fun t _=>?_
 have p:=h.2.2 i j t
 have q:=k.2.2 i j t
 cases hx:(dQ a i j).getLsbD t with
 | true=>rw[p hx]
 | false =>
  cases hy:(dQ b i j).getLsbD t with
  | false=>rfl
  | true=>rw[q hy] at hx; exact absurd hx (by simp)
theorem j8 {l:List aH} {row:List BV} {x:aH} {s:BV} (h:row.length=l.length):(iX l row x s).length=row.length:=by
 simp[iX,h]
theorem IU {l:List aH} {row:List BV} {x:aH} {s:BV} (h:row.length=l.length) (k:Nat):(iX l row x s).getD k 0=if l[k]?=some x then row.getD k 0 ||| s else row.getD k 0:=by
 rw[iX,U8,List.getElem?_zipWith,U8]
 by_cases hk:k < l.length
 ·have h1:l[k]?=some l[k]:=U9 hk
  have h2:row[k]?=some (row[k]'(by omega)):=U9 (by omega)
  rw[h1,h2]
  simp
 ·rw[VI (by omega),VI (by omega)]
  simp
theorem gJ {α:Type} (l:List α) (i j:Nat) (x d:α):(l.set i x).getD j d=if i=j∧i < l.length then x else l.getD j d:=by
 simp only[U8,WH]
 by_cases e:i=j
 ·subst e
  by_cases h:i < l.length
  ·simp[h]
  ·simp[h]
 ·simp[e]
theorem tR {ls:List (List aH)} {ss:Sets} (hs:j4 ls ss) {st:Nat} (hst:st < ls.length) (x:aH) (s:BV) (i k:Nat) :
  dQ (fg ls ss st x s) i k=if i=st∧(ls.getD st [])[k]?=some x then dQ ss i k ||| s else dQ ss i k:=by
 have hl:=hs.1
 unfold dQ fg
 rw[gJ]
 by_cases e:st=i
 ·subst e
  rw[Vd ⟨rfl,by omega⟩,IU (hs.2 st)]
  simp
 ·rw[Va (fun h=>e h.1),Va (fun h=>e h.1.symm)]
theorem iv {ls:List (List aH)} {ss:Sets} (hs:j4 ls ss) {st:Nat} (_:st < ls.length) (x:aH) (s:BV):j4 ls (fg ls ss st x s):=by
 refine ⟨by rw[fg,WW]; exact hs.1,fun i=>?_⟩
 have hl:=hs.1
 unfold fg
 rw[gJ]
 split
 ·rename_i h
  obtain ⟨rfl,_⟩:=h
  rw[j8 (hs.2 st)]; exact hs.2 st
 ·exact hs.2 i
theorem j4.eq {ls:List (List aH)} {a b:Sets} (h:j4 ls a) (k:j4 ls b):a.length=b.length∧∀ i:Nat,(a.getD i []).length=(b.getD i []).length:=⟨h.1.trans k.1.symm,fun i=>(h.2 i).trans (k.2 i).symm⟩
theorem kU {ls:List (List aH)} {ss:Sets} (hs:j4 ls ss) {st:Nat} (hst:st < ls.length) (x:aH) (s:BV):j0 ss (fg ls ss st x s):=by
 refine ⟨(hs.eq (iv hs hst x s)).1,(hs.eq (iv hs hst x s)).2,fun i k t ht=>?_⟩
 rw[tR hs hst]
 split
 ·rw[VM,ht]; rfl
 ·exact ht
theorem Fh {ls:List (List aH)} {ss:Sets} (hs:j4 ls ss) {st:Nat} (hst:st < ls.length) {x:aH} {s:BV} (h:fg ls ss st x s=ss) {k:Nat} (hk:(ls.getD st [])[k]?=some x):iq s (dQ ss st k):=by
 have:=tR hs hst x s st k
 rw[h,Vd ⟨rfl,hk⟩] at this
 intro t ht
 rw[this,VM,ht,Bool.or_true]
def dy (g:aw) (x:aH):List Int:=if 0≤x.aF then (aE g x.aF).right.drop (x.dot+1).toNat else []
def eY (g:aw) (ls:List (List aH)) (st:Nat) (s:Int) (b:BV) (ss:Sets) (n:Nat):Sets:=(List.range n).foldl (fun ss (k:Nat)=>if (aE g k).left = -1 - s then fg ls ss st ⟨k,0⟩ b else ss) ss
def iN (g:aw) (null:List Bool) (a:List aR) (ls:List (List aH)) (i k:Nat) (ss:Sets):Sets :=
 if (bA g ((ls.getD i []).getD k ⟨0,0⟩)).2=false∨dQ ss i k=0 then ss
 else if 0≤(bA g ((ls.getD i []).getD k ⟨0,0⟩)).1 then fg ls ss (fh a i [(bA g ((ls.getD i []).getD k ⟨0,0⟩)).1]).1.toNat ⟨((ls.getD i []).getD k ⟨0,0⟩).aF,((ls.getD i []).getD k ⟨0,0⟩).dot+1⟩ (dQ ss i k)
 else eY g ls i (bA g ((ls.getD i []).getD k ⟨0,0⟩)).1 (ew null (en g null) (dQ ss i k) (dy g ((ls.getD i []).getD k ⟨0,0⟩)))
  (fg ls ss (fh a i [(bA g ((ls.getD i []).getD k ⟨0,0⟩)).1]).1.toNat ⟨((ls.getD i []).getD k ⟨0,0⟩).aF,((ls.getD i []).getD k ⟨0,0⟩).dot+1⟩ (dQ ss i k)) g.rules.length
inductive kj (g:aw) (null:List Bool) (a:List aR) (ls:List (List aH)):Nat→aH→Nat→Prop
 | start:(⟨-1,0⟩:aH)∈ls.getD 0 []→kj g null a ls 0 ⟨-1,0⟩ g.ay.length
 | move {i:Nat} {x:aH} {t:Nat} {s:Int} : kj g null a ls i x t→bA g x=(s,true)→(⟨x.aF,x.dot+1⟩:aH)∈ls.getD (fh a i [s]).1.toNat []→kj g null a ls (fh a i [s]).1.toNat ⟨x.aF,x.dot+1⟩ t
 | begin {i:Nat} {x:aH} {t u:Nat} {s:Int} {k:Nat} : kj g null a ls i x t→bA g x=(s,true)→s < 0→k < g.rules.length→(aE g k).left = -1 - s→(⟨k,0⟩:aH)∈ls.getD i [] →
  (ew null (en g null) (BitVec.twoPow 32 t) (dy g x)).getLsbD u=true→kj g null a ls i ⟨k,0⟩ u
theorem kj.mem {g:aw} {null:List Bool} {a:List aR} {ls:List (List aH)} {i:Nat} {x:aH} {t:Nat} (h:kj g null a ls i x t):x∈ls.getD i []:=by
 cases h <;> assumption
def kJ (g:aw) (null:List Bool) (a:List aR) (ls:List (List aH)) (ss:Sets):Prop:=∀ i k x t,(ls.getD i [])[k]?=some x→(dQ ss i k).getLsbD t=true→kj g null a ls i x t
section
variable {g:aw} {null:List Bool} {a:List aR} {ls:List (List aH)}
theorem sT (hla:ls.length=a.length) (h1:1≤a.length) (i:Nat) (l:List Int):(fh a i l).1.toNat < ls.length:=by
 unfold fh
 split
 ·simp; omega
 ·rename_i h
  have:=yW (a:=a) l (i:Int) (by omega) (by omega)
  omega
theorem uE {ss:Sets} (hs:j4 ls ss) (hd:kJ g null a ls ss) {st:Nat} (hst:st < ls.length) {x:aH} {s:BV} (h:∀ t,s.getLsbD t=true→x∈ls.getD st []→kj g null a ls st x t):kJ g null a ls (fg ls ss st x s):=by
 intro i k y t hy ht
 rw[tR hs hst] at ht
 split at ht
 ·rename_i hc
  obtain ⟨rfl,hk⟩:=hc
  rw[hk] at hy
  simp only[Vb] at hy
  subst hy
  rw[VM,V7] at ht
  rcases ht with ht | ht
  ·exact hd i k x t hk ht
  ·exact h t ht (Vf hk)
 ·exact hd i k y t hy ht
theorem jR {st:Nat} (hst:st < ls.length) (s:Int) (b:BV):∀ (n:Nat) (ss:Sets),j4 ls ss→j4 ls (eY g ls st s b ss n)∧j0 ss (eY g ls st s b ss n)
 | 0,ss,hs=>⟨hs,.refl⟩
 | n+1,ss,hs=>by
  obtain ⟨h1,h2⟩:=jR hst s b n ss hs
  unfold eY at h1 h2 ⊢
  rw[V0,VR]
  simp only[VF,Wk]
  split
  ·exact ⟨iv h1 hst _ _,h2.trans (kU h1 hst _ _)⟩
  ·exact ⟨h1,h2⟩
theorem xJ {st:Nat} (hst:st < ls.length) (s:Int) (b:BV) (hb:∀ (k:Nat) t,(aE g k).left = -1 - s→k < g.rules.length→b.getLsbD t=true→(⟨k,0⟩:aH)∈ls.getD st []→kj g null a ls st ⟨k,0⟩ t):∀ (n:Nat) (ss:Sets),n≤g.rules.length→j4 ls ss→kJ g null a ls ss→kJ g null a ls (eY g ls st s b ss n)
 | 0,ss,_,_,hd=>hd
 | n+1,ss,hn,hs,hd=>by
  have h1:=(jR (g:=g) hst s b n ss hs).1
  have h2:=xJ hst s b hb n ss (by omega) hs hd
  unfold eY at h1 h2 ⊢
  rw[V0,VR]
  simp only[VF,Wk]
  split
  ·rename_i hl
   exact uE h1 h2 hst fun t ht hm=>hb n t hl (by omega) ht hm
  ·exact h2
theorem Ax {st:Nat} (hst:st < ls.length) (s:Int) (b:BV):∀ (n:Nat) (ss:Sets),j4 ls ss→eY g ls st s b ss n=ss→∀ k:Nat,k < n→(aE g k).left = -1 - s→fg ls ss st ⟨k,0⟩ b=ss
 | 0,ss,_,_,k,hk,_=>by omega
 | n+1,ss,hs,he,k,hk,hl=>by
  obtain ⟨h1,h2⟩:=jR (g:=g) hst s b n ss hs
  have e:eY g ls st s b ss (n+1)=if (aE g n).left = -1 - s then fg ls (eY g ls st s b ss n) st ⟨n,0⟩ b else eY g ls st s b ss n:=by
   unfold eY
   rw[V0,VR]
   rfl
  have hsame:eY g ls st s b ss n=ss:=by
   refine j0.sU ?_ h2
   rw[e] at he
   split at he
   ·exact Eq.mp (Wj (j0 _) he) (kU h1 hst _ _)
   ·rw[he]; exact .refl
  by_cases hkn:k=n
  ·subst hkn
   rw[e,Vd hl,hsame] at he
   exact he
  ·exact Ax hst s b n ss hs hsame k (by omega) hl
theorem Gr (hla:ls.length=a.length) (h1:1≤a.length) {i:Nat} (hi:i < ls.length) (k:Nat) {ss:Sets} (hs:j4 ls ss):j4 ls (iN g null a ls i k ss)∧j0 ss (iN g null a ls i k ss):=by
 unfold iN
 split
 ·exact ⟨hs,.refl⟩
 ·have hw:=sT hla h1 i [(bA g ((ls.getD i []).getD k ⟨0,0⟩)).1]
  split
  ·exact ⟨iv hs hw _ _,kU hs hw _ _⟩
  ·have:=jR (g:=g) hi (bA g ((ls.getD i []).getD k ⟨0,0⟩)).1 (ew null (en g null) (dQ ss i k) (dy g ((ls.getD i []).getD k ⟨0,0⟩))) g.rules.length _ (iv hs hw ⟨((ls.getD i []).getD k ⟨0,0⟩).aF,((ls.getD i []).getD k ⟨0,0⟩).dot+1⟩ (dQ ss i k))
   exact ⟨this.1,(kU hs hw _ _).trans this.2⟩
theorem IX (hla:ls.length=a.length) (h1:1≤a.length) {i k:Nat} (hi:i < ls.length) (hk:k < (ls.getD i []).length) {ss:Sets} (hs:j4 ls ss) (hd:kJ g null a ls ss):kJ g null a ls (iN g null a ls i k ss):=by
 have hx:(ls.getD i [])[k]?=some ((ls.getD i []).getD k ⟨0,0⟩):=getD_some hk
 unfold iN
 generalize (ls.getD i []).getD k ⟨0,0⟩=x at hx ⊢
 split
 ·exact hd
 ·rename_i hc
  have hn:bA g x=((bA g x).1,true):=by
   cases h:(bA g x).2 with
   | false=>exact absurd (.inl h) hc
   | true=>rw[← h]
  have hz:dQ ss i k≠0:=fun h=>hc (.inr h)
  have hw:=sT hla h1 i [(bA g x).1]
  have d1:=uE hs hd hw (x:=⟨x.aF,x.dot+1⟩) (s:=dQ ss i k) fun t ht hm=>kj.move (hd i k x t hx ht) hn hm
  split
  ·exact d1
  ·rename_i hneg
   refine xJ hi _ _ (fun q u hl hq hu hm=>?_) _ _ (Vj _) (iv hs hw _ _) d1
   obtain ⟨t,h2,h3⟩:=RK _ _ hu hz
   exact kj.begin (hd i k x t hx h2) hn (by omega) hq hl hm h3
theorem MA (hla:ls.length=a.length) (h1:1≤a.length) {ss:Sets} (hs:j4 ls ss) (h0:∀ k,(ls.getD 0 [])[k]?=some ⟨-1,0⟩→(dQ ss 0 k).getLsbD g.ay.length=true)
  (hf:∀ i k,i < ls.length→k < (ls.getD i []).length→iN g null a ls i k ss=ss) {i:Nat} {x:aH} {t:Nat} (h:kj g null a ls i x t):∀ k,(ls.getD i [])[k]?=some x→(dQ ss i k).getLsbD t=true:=by
 have key:∀ {i:Nat} {x:aH} {t:Nat},kj g null a ls i x t→(∀ k,(ls.getD i [])[k]?=some x→(dQ ss i k).getLsbD t=true)→∃ k,(ls.getD i [])[k]?=some x∧i < ls.length∧k < (ls.getD i []).length∧(dQ ss i k).getLsbD t=true:=by
  intro i x t h ih
  obtain ⟨k,hk,e⟩:=Wl.1 h.mem
  have hx:(ls.getD i [])[k]?=some x:=by rw[U9 hk,e]
  refine ⟨k,hx,?_,hk,ih k hx⟩
  rcases Vy i ls.length with h | h
  ·exact h
  ·rw[U8,VI h] at hk; simp at hk
 induction h with
 | start=>exact h0
 | @move i x t s hl hn hm ih =>
  intro j hj
  obtain ⟨k,hx,hi,hk,hb⟩:=key hl ih
  have hp:=hf i k hi hk
  have hxe:(ls.getD i []).getD k ⟨0,0⟩=x:=by rw[U8,hx]; rfl
  have hz:¬ dQ ss i k=0:=fun e=>by rw[e] at hb; simp at hb
  unfold iN at hp
  rw[hxe,hn,Va (fun h=>h.elim (by simp) hz)] at hp
  simp only at hp
  have hw:=sT hla h1 i [s]
  have hg:fg ls ss (fh a i [s]).1.toNat ⟨x.aF,x.dot+1⟩ (dQ ss i k)=ss:=by
   split at hp
   ·exact hp
   ·exact j0.sU (Eq.mp (Wj (j0 _) hp) (jR hi _ _ _ _ (iv hs hw _ _)).2) (kU hs hw _ _)
  exact Fh hs hw hg hj t hb
 | @begin i x t u s q hl hn hneg hq hL hm hu ih =>
  intro j hj
  obtain ⟨k,hx,hi,hk,hb⟩:=key hl ih
  have hp:=hf i k hi hk
  have hxe:(ls.getD i []).getD k ⟨0,0⟩=x:=by rw[U8,hx]; rfl
  have hz:¬ dQ ss i k=0:=fun e=>by rw[e] at hb; simp at hb
  unfold iN at hp
  rw[hxe,hn,Va (fun h=>h.elim (by simp) hz)] at hp
  simp only at hp
  have hw:=sT hla h1 i [s]
  rw[Va (by omega)] at hp
  have hg:fg ls ss (fh a i [s]).1.toNat ⟨x.aF,x.dot+1⟩ (dQ ss i k)=ss:=by
   exact j0.sU (Eq.mp (Wj (j0 _) hp) (jR hi _ _ _ _ (iv hs hw _ _)).2) (kU hs hw _ _)
  rw[hg] at hp
  have:=Ax hi _ _ _ _ hs hp q hq hL
  exact Fh hs hi this hj u (GM (K3 hb) _ _ hu)
def xg (l:List BV):Nat:=(l.map BitVec.toNat).sum
def zg (ss:Sets):Nat:=(ss.map xg).sum
theorem J4:∀ {a b:List BV},a.length=b.length→(∀ k:Nat,iq (a.getD k 0) (b.getD k 0))→xg a≤xg b∧(a≠b→xg a < xg b)
 | [],[],_,_=>⟨Vj _,fun h=>absurd rfl h⟩
 | [],_ :: _,h,_=>by simp at h
 | _ :: _,[],h,_=>by simp at h
 | x :: a,y :: b,h,hs=>by
  obtain ⟨h1,h2⟩:=J4 (a:=a) (b:=b) (by simpa using h) fun k=>by simpa using hs (k+1)
  have h3:iq x y:=by simpa using hs 0
  have e:=DE.2 h3
  have h4:x.toNat≤y.toNat:=by have:=TU y x; rw[BitVec.or_comm] at e; rw[e] at this; exact this
  simp only[xg,VC,List.sum_cons] at h1 h2 ⊢
  refine ⟨by omega,fun hne=>?_⟩
  by_cases hxy:x=y
  ·subst hxy
   have:=h2 fun e=>hne (by rw[e])
   omega
  ·have:x.toNat≠y.toNat:=fun e=>hxy (BitVec.eq_of_toNat_eq e)
   omega
theorem Ke:∀ {a b:Sets},j0 a b→zg a≤zg b∧(a≠b→zg a < zg b)
 | [],[],_=>⟨Vj _,fun h=>absurd rfl h⟩
 | [],_ :: _,h=>by have:=h.1; simp at this
 | _ :: _,[],h=>by have:=h.1; simp at this
 | x :: a,y :: b,h=>by
  obtain ⟨h1,h2⟩:=Ke (a:=a) (b:=b) ⟨by simpa using h.1,fun i=>by simpa using h.2.1 (i+1),fun i k=>by simpa [dQ] using h.2.2 (i+1) k⟩
  obtain ⟨h3,h4⟩:=J4 (a:=x) (b:=y) (by simpa using h.2.1 0) fun k=>by simpa [dQ] using h.2.2 0 k
  simp only[zg,VC,List.sum_cons] at h1 h2 ⊢
  refine ⟨by omega,fun hne=>?_⟩
  by_cases hxy:x=y
  ·subst hxy
   have:=h2 fun e=>hne (by rw[e])
   omega
  ·have:=h4 hxy
   omega
theorem Gn:∀ l:List BV,xg l≤l.length * 4294967296
 | []=>by simp[xg]
 | x :: l=>by
  have:=Gn l
  have hx:=x.isLt
  simp only[xg,VC,List.sum_cons,Vr] at this ⊢
  omega
def QM (ls:List (List aH)):Nat:=(ls.map fun l=>l.length * 4294967296).sum
theorem Gf:∀ {ls:List (List aH)} {ss:Sets},j4 ls ss→zg ss≤QM ls
 | [],[],_=>Vj _
 | [],_ :: _,h=>by have:=h.1; simp at this
 | _ :: _,[],h=>by have:=h.1; simp at this
 | l :: ls,x :: ss,h=>by
  have h1:=Gf (ls:=ls) (ss:=ss) ⟨by simpa using h.1,fun i=>by simpa using h.2 (i+1)⟩
  have h2:=Gn x
  have h3:x.length=l.length:=by simpa using h.2 0
  simp only[zg,QM,VC,List.sum_cons] at h1 ⊢
  rw[h3] at h2
  omega
end
theorem rR {g:aw} (hf:g.dK) : -100≤g.start∧g.start≤100:=by
 have:=hf.me; have:=hf.start; have:=hf.az; omega
theorem Bc (g:aw) (hf:g.dK) (x:aH) (hx:cr g x):aI Tryz.prog 51 [.agg (au g),.agg (bE x)] (.bI [gi (bA g x).1,gb (bA g x).2]) :=
 M7 g (rR hf) x hx.1 hx.2 (by have:=eS hf hx.1; omega)
theorem qp {l:List aH} {i:Nat} {y:aH} (h:l[i]?=some y):(aT l).getD i []=[gi y.aF,gi y.dot]:=by simp[aT,U8,h,bE]
theorem bJ (l:List aH):(aT l).length=l.length:=by simp[aT]
theorem rP {g:aw} {x:aH} {s:Int} {b:Bool} (hf:g.dK) (hx:cr g x) (h:bA g x=(s,b)) : -1000≤s∧s≤1000:=by
 have hsym:∀ s∈aW g x.aF,-1000≤s∧s≤1000:=by
  intro s hs
  unfold aW at hs
  split at hs
  ·simp at hs; subst hs; have:=rR hf; omega
  ·have hR:g.rules[x.aF.toNat]?=some (aE g x.aF):=by unfold aE; exact getD_some (by have:=hx.1; omega)
   have h1:=hf.sym _ (Vf hR) s hs
   have:=hf.ay; have:=hf.az
   unfold gu at h1
   split at h1 <;> simp at h1 <;> omega
 unfold bA at h
 split at h
 ·simp at h; omega
 ·rename_i hd
  simp only[Ve] at h
  have hlt:x.dot.toNat < (aW g x.aF).length:=by have:=hx.2; omega
  rw[← h.1]
  exact hsym _ (Vf (getD_some hlt))
def lP:SC :=
 .seq (.seq (ao [aj 12 6,aj 13 1,aX 14 13,bc 15 .lss 12 14]) <|
 .cond (.tmp 15) (.skip) (.exit 0)) <|
 .seq (.block 1 (ao [aj 18 5,aj 19 1,aj 20 6,aP 21 2 19 20,bp 22 2 21,bC 23 108 [18,22],aj 5 23])) <|
 ao [aj 16 6,aQ 17 .add 16 1,aj 6 17]
def iT:SC :=
 .seq (.seq (.region false [⟨none,[aj 41 9,aj 42 41]⟩,⟨(some (42,true)),[aj 43 8,aQ 44 .lss 43 0]⟩,⟨none,[eF 45 42 44,aj 46 45]⟩,⟨(some (46,true)),[aj 47 11,aB 48 2 2,ax 49 48,aX 50 49,bc 51 .lss 47 50]⟩,⟨none,[eF 52 46 51]⟩]) <|
 .cond (.tmp 52) (.skip) (.exit 4)) <|
 .seq (.block 5 (.seq (ao [aB 55 2 2,ax 56 55,aj 57 11,aP 58 3 56 57,aB 59 0 58,ax 60 59,aj 61 8,((some 62),.op (.arith .sub (.val (.val (.int .i64 (-1)))) (.tmp 61))),bc 63 .eql 60 62]) <|
 .cond (.tmp 63) (ao [aj 64 5,aj 65 11,((some 66),.op (.build [(.val (.int .i64 0)),(.val (.int .i64 0))] [(0,1,(.tmp 65))])),bC 67 108 [64,66],aj 5 67]) (.skip))) <|
 ao [aj 53 11,aQ 54 .add 53 1,aj 11 54]
def lO:SC :=
 .seq (.seq (ao [aj 24 7,aj 25 5,aX 26 25,bc 27 .lss 24 26]) <|
 .cond (.tmp 27) (.skip) (.exit 2)) <|
 .seq (.block 3 (.seq (ao [bp 31 4 2,aj 32 5,aj 33 7,aP 34 2 32 33,bp 35 2 34,bC 36 51 [31,35],aj 30 36,fK 37 0 30,fK 38 1 30,aj 8 37,aj 9 38]) <|
 .seq (ao [aj 39 5,aX 40 39,aj 10 40]) <|
 .seq (.seq (ao [bj 11 0]) <|
 .block 4 (.loop iT)) <|
 .seq (ao [aj 68 5,aX 69 68,aj 70 10,bc 71 .gtr 69 70]) <|
 .cond (.tmp 71) (ao [bj 7 (-1)]) (.skip))) <|
 ao [aj 28 7,aQ 29 .add 28 1,aj 7 29]
def nq:SF:=⟨.seq (ao [cL 2 0,((some 4),.op (.bL (.val (.emp 1))))]) <|
 .seq (ao [((some 5),.op (.bL (.val (.emp 1))))]) <|
 .seq (.seq (ao [bj 6 0]) <|
 .block 0 (.loop lP)) <|
 .seq (.seq (ao [bj 7 0]) <|
 .block 2 (.loop lO)) <|
 .seq (ao [aj 72 5,aj 4 72]) <|
 .ret,
 [.tmp 4],73⟩
theorem sJ:aV Tryz.prog 60 [2]=some nq:=by kernel_rfl
def nE:SC :=
 .seq (.seq (ao [aj 11 8,aj 12 1,aX 13 12,bc 14 .lss 11 13]) <|
 .cond (.tmp 14) (.skip) (.exit 0)) <|
 .seq (.block 1 (.seq (ao [bp 18 4 3,aj 19 1,aj 20 8,aP 21 2 19 20,bp 22 2 21,bC 23 51 [18,22],aj 17 23,fK 24 0 17,fK 25 1 17,aj 9 24,aj 10 25]) <|
 .seq (.region false [⟨none,[aj 26 10,aj 27 26]⟩,⟨(some (27,true)),[aj 28 9,aj 29 2,bc 30 .eql 28 29]⟩,⟨none,[eF 31 27 30]⟩]) <|
 .cond (.tmp 31) (ao [aj 32 7,aj 33 1,aj 34 8,aP 35 2 33 34,aB 36 0 35,ax 37 36,aj 38 1,aj 39 8,aP 40 2 38 39,aB 41 1 40,ax 42 41,aQ 43 .add 42 1,((some 44),.op (.build [(.val (.int .i64 0)),(.val (.int .i64 0))] [(0,1,(.tmp 37)),(1,1,(.tmp 43))])),bC 45 108 [32,44],aj 7 45]) (.skip))) <|
 ao [aj 15 8,aQ 16 .add 15 1,aj 8 16]
def pv:SF:=⟨.seq (ao [cL 3 0,((some 6),.op (.bL (.val (.emp 1))))]) <|
 .seq (ao [((some 7),.op (.bL (.val (.emp 1))))]) <|
 .seq (.seq (ao [bj 8 0]) <|
 .block 0 (.loop nE)) <|
 .seq (ao [aj 46 7,aj 6 46]) <|
 .ret,
 [.tmp 6],47⟩
theorem uz:aV Tryz.prog 66 [3]=some pv:=by kernel_rfl
def nI:SC :=
 .seq (.seq (ao [aj 11 5,aj 12 0,aX 13 12,bc 14 .lss 11 13]) <|
 .cond (.tmp 14) (.skip) (.exit 0)) <|
 .seq (.block 1 (.seq (ao [aj 17 0,aj 18 5,aP 19 2 17 18,bp 20 2 19,aj 21 1,aj 22 5,aP 23 2 21 22,bp 24 2 23,((some 25),.op (.old (.binOp .neq 33 (.tmp 20) (.tmp 24) 33) 4))]) <|
 .cond (.tmp 25) (.seq (ao [bK 4 false]) <|
 .ret) (.skip))) <|
 ao [aj 15 5,aQ 16 .add 15 1,aj 5 16]
def pq:SF:=⟨.seq (ao [bK 4 false]) <|
 .seq (.seq (ao [aj 6 0,aX 7 6,aj 8 1,aX 9 8,bc 10 .neq 7 9]) <|
 .cond (.tmp 10) (.seq (ao [bK 4 false]) <|
 .ret) (.skip)) <|
 .seq (.seq (ao [bj 5 0]) <|
 .block 0 (.loop nI)) <|
 .seq (ao [bK 4 true]) <|
 .ret,
 [.tmp 4],26⟩
theorem uR:aV Tryz.prog 21 []=some pq:=by kernel_rfl
def oR:SF:=⟨.seq (ao [cL 2 0,bj 4 0]) <|
 .seq (.seq (ao [aj 5 1,aB 6 0 2,ax 7 6,aX 8 7,bc 9 .lss 5 8]) <|
 .cond (.tmp 9) (.seq (ao [aj 10 1,aj 4 10]) <|
 .ret) (.skip)) <|
 .seq (ao [aj 11 1,aB 12 0 2,ax 13 12,aX 14 13,bc 15 .sub 11 14,((some 16),.op (.arith .sub (.val (.val (.int .i64 (-1)))) (.tmp 15))),aj 4 16]) <|
 .ret,
 [.tmp 4],17⟩
theorem tu:aV Tryz.prog 65 [2]=some oR:=by kernel_rfl
def TM (g:aw) (out:List aH) (x:aH):Prop:=∀ (s:Int) (k:Nat) (R:bw),bA g x=(s,true)→s < 0→g.rules[k]?=some R→R.left = -1 - s→(⟨k,0⟩:aH)∈out
def Ql (g:aw) (l:List aH) (H:View) (m:Nat) (T:Env) (H':View):Prop:=∃ (i:Nat) (r:V) (out:List aH),m=(300 - out.length) * 1000+(300 - i)∧i≤out.length∧ba H' r 2 (aT out)∧dh H H' r∧cB out∧(∀ x∈out,mR g l x)∧(∀ x∈l,x∈out)∧(∀ j x,j < i→out[j]?=some x→TM g out x) ∧
 T 2=.aN (au g) 0∧T 5=r∧T 7=gi i
set_option maxHeartbeats 8000000 in
theorem zr (g:aw) (hf:g.dK) (l:List aH) (hl:∀ x∈l,cr g x) (hn:l.length≤10000) (u:V) (H:View) (ho:ba H u 2 (aT l)):aC Tryz.prog 60 [.agg (au g),u] H fun r H'=>ba H' r 2 (aT (cw g l))∧dh H H' r:=by
 refine aC.of mixed sJ ?_
 have hlen:cH u=some l.length:=by rw[ho.len]; simp[aT]
 have hru:=hf.rules
 simp (disch:=omega) only [↓wr,seval,wq,ah,ag,ak,aa,ab,af,ai,ae,nq,au,encS]
 refine aZ.up l.length (fun i T H'=>∃ (r:V) (out:List aH),ba H' r 2 (aT out)∧dh H H' r∧cB out∧(∀ x,x∈out↔x∈l.take i)∧out.length≤287∧T 1=u∧T 2=.aN (au g) 0∧T 5=r∧T 6=gi i)
  ⟨.emp 1,[],.nil,.emp,.nil,by simp,by simp,rfl,rfl,rfl,rfl⟩ ?_
 rintro i k T H' hk ⟨r,out,o1,fr,hso,hm,hle,t1,t2,t5,t6⟩
 simp (disch:=omega) only [↓wr,seval,wq,ah,ag,ak,aa,ab,af,ai,ae,lP,t1,t2,t5,t6,hlen]
 refine av.dec (fun hc=>?_) (fun hc=>?_)
 ·have hy:l[i]?=some (l[i]'(by omega)):=U9 (by omega)
  have htk:l.take (i+1)=l.take i ++ [l[i]'(by omega)]:=by rw[Vx,hy]; rfl
  generalize l[i]'(by omega)=y at hy htk
  obtain ⟨id,hu,hid⟩:=ho.sl (by simp[aT]; omega)
  have hid':H' id=.arr 2 (aT l):=by rw[(fr id (by rw[hid]; simp)).1,hid]
  simp (disch:=omega) only [↓wr,seval,wq,ah,ag,ak,aa,ab,af,ai,ae,t1,t2,t5,t6,hu,hid',qp hy]
  refine ⟨by first | omega | (simp[aT]; omega),by first | omega | (simp[aT]; omega),?_⟩
  refine aD.dP ((AY r out (by omega) y H' o1).mono ?_)
  rintro r2 H2 ⟨o2,l2⟩
  simp (disch:=omega) only [↓wr,seval,wq,ah,ag,ak,aa,ab,af,ai,ae,t1,t2,t5,t6]
  have hmm:∀ x,x∈eC out y↔x∈l.take (i+1):=fun x=>by
   rw[jE,htk,VE,hm,VY,or_comm]
  have hs2:=rM (x:=y) hso
  exact aM hk (by omega) ⟨r2,eC out y,o2,fr.step l2,hs2,hmm,hX hf hs2 (fun x hx=>hl x (List.mem_of_mem_take ((hmm x).1 hx))),t1,t2,rfl,rfl⟩
 rw[Vq (by omega)] at hm
 simp (disch:=omega) only [↓wr,seval,wq,ah,ag,ak,aa,ab,af,ai,ae,t1,t2,t5,t6]
 refine aZ.intro (Ql g l H) ((300 - out.length) * 1000+300)
  ⟨0,r,out,by omega,WK _,o1,fr,hso,fun x hx=>.base ((hm x).1 hx),fun x hx=>(hm x).2 hx,fun j x hj=>by omega,t2,t5,rfl⟩ ?_
 clear o1 fr hso hm hle t1 t2 t5 t6 hc hk
 rintro m T1 H1 ⟨i,r,out,rfl,hi,o1,fr,hso,hcl,hba,hdn,t2,t5,t7⟩
 have hhas:∀ x∈out,cr g x:=fun x hx=>(hcl x hx).has hl
 have hle:=hX hf hso hhas
 have hlr:cH r=some out.length:=by rw[o1.len,bJ]
 simp (disch:=omega) only [↓wr,seval,wq,ah,ag,ak,aa,ab,af,ai,ae,lO,t2,t5,t7,hlr]
 refine av.dec (fun hc=>?_) (fun hc=>?_)
 ·have hy:out[i]?=some (out[i]'(by omega)):=U9 (by omega)
  have hyH:=hhas _ (Vi (show i < out.length by omega))
  have hyC:=hcl _ (Vi (show i < out.length by omega))
  generalize out[i]'(by omega)=y at hy hyH hyC
  have h1:=Bc g hf y hyH
  cases hny:bA g y with
  | mk s okb =>
  have hsb:=rP hf hyH hny
  rw[hny] at h1
  obtain ⟨id,hu,hid⟩:=o1.sl (by simp[aT]; omega)
  rw[bJ] at hu
  simp only[au,encS,bE] at h1
  simp (disch:=omega) only [↓wr,seval,wq,ah,ag,ak,aa,ab,af,ai,ae,t2,t5,t7,hu,hid,qp hy,au,encS]
  refine ⟨by first | omega | (simp[aT]; omega),by first | omega | (simp[aT]; omega),?_⟩
  refine aD.pure h1 (by kernel_rfl) ?_
  simp (disch:=omega) only [↓wr,seval,wq,ah,ag,ak,aa,ab,af,ai,ae,t2,t5,t7,hu]
  refine aZ.up g.rules.length (fun k T H'=>∃ (r2:V) (out2:List aH),ba H' r2 2 (aT out2)∧dh H H' r2∧cB out2∧(∀ x∈out2,mR g l x)∧(∀ x∈out,x∈out2)∧out.length≤out2.length∧(out2.length=out.length→out2=out) ∧
   (∀ (q:Nat) (R:bw),q < k→okb=true→s < 0→g.rules[q]?=some R→R.left = -1 - s→(⟨q,0⟩:aH)∈out2)∧T 2=.aN (au g) 0∧T 5=r2∧T 7=gi i∧T 8=gi s∧T 9=gb okb∧T 10=gi out.length∧T 11=gi k)
   ⟨r,out,o1,fr,hso,hcl,fun x hx=>hx,Vj _,fun _=>rfl,fun q R hq=>by omega,t2,by rw[← hu]; exact t5,t7,rfl,rfl,rfl,rfl⟩ ?_
  clear o1 fr t2 t5 t7 hid hu
  rintro k j T2 H2 hk ⟨r2,out2,o2,fr2,hso2,hcl2,hsub,hlen2,hsame,hall,t2,t5,t7,t8,t9,t10,t11⟩
  have hhas2:∀ x∈out2,cr g x:=fun x hx=>(hcl2 x hx).has hl
  have hle2:=hX hf hso2 hhas2
  have hlr2:cH r2=some out2.length:=by rw[o2.len,bJ]
  have more:out.length < out2.length→∀ T':Env,T' 2=.aN (au g) 0→T' 5=r2→T' 7=gi 0→∃ k',k' < (300 - out.length) * 1000+(300 - i)∧Ql g l H k' T' H2:=fun h T' e2 e5 e7 =>
   ⟨(300 - out2.length) * 1000+300,by omega,0,r2,out2,by omega,WK _,o2,fr2,hso2,hcl2,fun x hx=>hsub x (hba x hx),fun j x hj=>by omega,e2,e5,e7⟩
  have stay:(okb=true→s < 0→g.rules.length≤k)→¬ out.length < out2.length→∀ T':Env,T' 2=.aN (au g) 0→T' 5=r2→T' 7=gi ((i:Int)+1)→∃ k',k' < (300 - out.length) * 1000+(300 - i)∧Ql g l H k' T' H2:=fun hend h T' e2 e5 e7=>by
   have e:=hsame (by omega)
   subst e
   refine ⟨(300 - out2.length) * 1000+(300 - (i+1)),by omega,i+1,r2,out2,rfl,by omega,o2,fr2,hso2,hcl2,hba,fun j x hj hx=>?_,e2,e5,e7⟩
   rcases Vy j i with hji | hji
   ·exact hdn j x hji hx
   ·have:j=i:=by omega
    subst this
    rw[hy] at hx
    simp only[Vb] at hx
    subst hx
    intro s' q R h1 h2 h3 h4
    rw[hny] at h1
    simp only[Ve] at h1
    obtain ⟨rfl,rfl⟩:=h1
    have:=(Vn.1 h3).1
    exact hall q R (by have:=hend rfl h2; omega) rfl h2 h3 h4
  cases okb with
  | false =>
   simp (disch:=omega) only [↓wr,seval,wq,ah,ag,ak,aa,ab,af,ai,ae,iT,t2,t5,t7,t8,t9,t10,t11,hlr2]
   refine av.dec (fun hg=>?_) (fun hg=>?_)
   ·simp (disch:=omega) only [↓wr,seval,wq,ah,ag,ak,aa,ab,af,ai,ae,t2,t5,t7]
    exact more (by omega) _ t2 t5 rfl
   ·simp (disch:=omega) only [↓wr,seval,wq,ah,ag,ak,aa,ab,af,ai,ae,t2,t5,t7]
    exact stay (fun h=>by simp at h) (by omega) _ t2 t5 rfl
  | true =>
   simp (disch:=omega) only [↓wr,seval,wq,ah,ag,ak,aa,ab,af,ai,ae,iT,t2,t5,t7,t8,t9,t10,t11,hlr2,au]
   refine av.dec (fun hneg=>?_) (fun hneg=>?_)
   ·simp (disch:=omega) only [↓wr,seval,wq,ah,ag,ak,aa,ab,af,ai,ae,t2,t5,t7,t8,t9,t10,t11,hlr2,au]
    refine av.dec (fun hkl=>?_) (fun hkl=>?_)
    ·have hR:g.rules[k]?=some (g.rules[k]'(by omega)):=U9 (by omega)
     have hL:=hf.left _ (Vi (show k < g.rules.length by omega))
     generalize g.rules[k]'(by omega)=R at hR hL
     simp (disch:=omega) only [↓wr,seval,wq,ah,ag,ak,aa,ab,af,ai,ae,t2,t5,t7,t8,t9,t10,t11,au,aO,Vc,hR,Vh]
     refine av.eq (fun he=>?_) (fun he=>?_)
     ·simp (disch:=omega) only [↓wr,seval,wq,ah,ag,ak,aa,ab,af,ai,ae,t2,t5,t7,t8,t9,t10,t11]
      refine aD.dP ((AY r2 out2 (by omega) ⟨k,0⟩ H2 o2).mono ?_)
      rintro r3 H3 ⟨o3,l3⟩
      simp (disch:=omega) only [↓wr,seval,wq,ah,ag,ak,aa,ab,af,ai,ae,t2,t5,t7,t8,t9,t10,t11]
      have hnew:mR g l ⟨k,0⟩:=.step hyC hny hneg hR he
      refine aM hk (by omega) ⟨r3,eC out2 ⟨k,0⟩,o3,fr2.step l3,rM hso2,fun x hx=>?_,fun x hx=>jE.2 (.inr (hsub x hx)),by have:=Ft out2 ⟨k,0⟩; omega,fun h=>?_,fun q R' hq h2 h3 h4=>?_,t2,rfl,t7,t8,t9,t10,rfl⟩
      ·rcases jE.1 hx with rfl | hx
       ·exact hnew
       ·exact hcl2 x hx
      ·have hin:(⟨k,0⟩:aH)∈out2:=Wi fun hno=>by
        have:=BS hno; omega
       rw[C9 hso2 hin] at h ⊢
       exact hsame h
      ·rcases Vy q k with hqk | hqk
       ·exact jE.2 (.inr (hall q R' hqk rfl h2 h3 h4))
       ·have:q=k:=by omega
        subst this
        exact jE.2 (.inl rfl)
     ·simp (disch:=omega) only [↓wr,seval,wq,ah,ag,ak,aa,ab,af,ai,ae,t2,t5,t7,t8,t9,t10,t11]
      refine aM hk (by omega) ⟨r2,out2,o2,fr2,hso2,hcl2,hsub,hlen2,hsame,fun q R' hq h2 h3 h4=>?_,t2,t5,t7,t8,t9,t10,rfl⟩
      rcases Vy q k with hqk | hqk
      ·exact hall q R' hqk rfl h2 h3 h4
      ·have:q=k:=by omega
       subst this
       rw[hR] at h3
       simp only[Vb] at h3
       subst h3
       exact absurd h4 he
    ·simp (disch:=omega) only [↓wr,seval,wq,ah,ag,ak,aa,ab,af,ai,ae,t2,t5,t7,t8,t9,t10,t11,hlr2]
     refine av.dec (fun hg=>?_) (fun hg=>?_)
     ·simp (disch:=omega) only [↓wr,seval,wq,ah,ag,ak,aa,ab,af,ai,ae,t2,t5,t7]
      exact more (by omega) _ t2 t5 rfl
     ·simp (disch:=omega) only [↓wr,seval,wq,ah,ag,ak,aa,ab,af,ai,ae,t2,t5,t7]
      exact stay (fun _ _=>by omega) (by omega) _ t2 t5 rfl
   ·simp (disch:=omega) only [↓wr,seval,wq,ah,ag,ak,aa,ab,af,ai,ae,t2,t5,t7,t8,t9,t10,t11,hlr2]
    refine av.dec (fun hg=>?_) (fun hg=>?_)
    ·simp (disch:=omega) only [↓wr,seval,wq,ah,ag,ak,aa,ab,af,ai,ae,t2,t5,t7]
     exact more (by omega) _ t2 t5 rfl
    ·simp (disch:=omega) only [↓wr,seval,wq,ah,ag,ak,aa,ab,af,ai,ae,t2,t5,t7]
     exact stay (fun _ h=>absurd h hneg) (by omega) _ t2 t5 rfl
 ·simp (disch:=omega) only [↓wr,seval,wq,ah,ag,ak,aa,ab,af,ai,ae,t2,t5,t7]
  have hi2:i=out.length:=by omega
  rw[Iw hf hl hso hcl hba (fun x hx s k R h1 h2 h3 h4=>by
   obtain ⟨j,hj,e⟩:=Wl.1 hx
   exact hdn j x (by omega) (by rw[U9 hj,e]) s k R h1 h2 h3 h4)]
  exact ⟨o1,fr⟩
set_option maxHeartbeats 8000000 in
theorem Lf (g:aw) (hf:g.dK) (l:List aH) (hs:cB l) (hl:∀ x∈l,cr g x) (s:Int) (u:V) (H:View) (ho:ba H u 2 (aT l)):aC Tryz.prog 66 [.agg (au g),u,gi s] H fun r H'=>ba H' r 2 (aT (bz g l s))∧dh H H' r:=by
 refine aC.of mixed uz ?_
 have hlen:cH u=some l.length:=by rw[ho.len]; simp[aT]
 have hle:=hX hf hs hl
 simp (disch:=omega) only [↓wr,seval,wq,ah,ag,ak,aa,ab,af,ai,ae,pv,au,encS]
 refine aZ.up l.length (fun i T H'=>∃ (r:V),ba H' r 2 (aT (bz g (l.take i) s))∧dh H H' r∧T 1=u∧T 2=gi s∧T 3=.aN (au g) 0∧T 7=r∧T 8=gi i)
  ⟨.emp 1,.nil,.emp,rfl,rfl,rfl,rfl,rfl⟩ ?_
 rintro i k T H' hk ⟨r,o1,fr,t1,t2,t3,t7,t8⟩
 simp (disch:=omega) only [↓wr,seval,wq,ah,ag,ak,aa,ab,af,ai,ae,nE,t1,t2,t3,t7,t8,hlen]
 refine av.dec (fun hc=>?_) (fun hc=>?_)
 ·have hy:l[i]?=some (l[i]'(by omega)):=U9 (by omega)
  have hyH:=hl _ (Vi (show i < l.length by omega))
  have htk:=On (g:=g) hs (show l[i]?=some (l[i]'(by omega)) from hy) s
  generalize l[i]'(by omega)=y at hy hyH htk
  have h1:=Bc g hf y hyH
  cases hny:bA g y with
  | mk q okb =>
  rw[hny] at h1
  obtain ⟨id,hu,hid⟩:=ho.sl (by simp[aT]; omega)
  have hid':H' id=.arr 2 (aT l):=by rw[(fr id (by rw[hid]; simp)).1,hid]
  rw[bJ] at hu
  have hdot:=hyH.2
  have h6:=eS hf hyH.1
  have hml:=sq (g:=g) (l:=l.take i) (s:=s)
  simp only[VQ] at hml
  simp only[au,encS,bE] at h1
  simp (disch:=omega) only [↓wr,seval,wq,ah,ag,ak,aa,ab,af,ai,ae,t1,t2,t3,t7,t8,hu,hid',qp hy,au,encS]
  refine ⟨by first | omega | (simp[aT]; omega),by first | omega | (simp[aT]; omega),?_⟩
  refine aD.pure h1 (by kernel_rfl) ?_
  have skip:¬ bA g y=(s,true)→∀ T':Env,T' 1=u→T' 2=gi s→T' 3=.aN (au g) 0→T' 7=r→T' 8=gi ((i:Int)+1)→∃ k',k' < k∧Cn l.length k' (fun i T H'=>∃ (r:V),ba H' r 2 (aT (bz g (l.take i) s))∧dh H H' r∧T 1=u∧T 2=gi s∧T 3=.aN (au g) 0∧T 7=r∧T 8=gi i) T' H':=fun hne T' e1 e2 e3 e7 e8=>by
   rw[Va hne] at htk
   exact aM hk (by omega) ⟨r,by rw[htk]; exact o1,fr,e1,e2,e3,e7,e8⟩
  cases okb with
  | false =>
   simp (disch:=omega) only [↓wr,seval,wq,ah,ag,ak,aa,ab,af,ai,ae,t1,t2,t3,t7,t8]
   exact skip (by rw[hny]; simp) _ t1 t2 t3 t7 rfl
  | true =>
   simp (disch:=omega) only [↓wr,seval,wq,ah,ag,ak,aa,ab,af,ai,ae,t1,t2,t3,t7,t8]
   refine av.eq (fun he=>?_) (fun he=>?_)
   ·simp (disch:=omega) only [↓wr,seval,wq,ah,ag,ak,aa,ab,af,ai,ae,t1,t2,t3,t7,t8,hu,hid',qp hy]
    refine ⟨by first | omega | (simp[aT]; omega),by first | omega | (simp[aT]; omega),?_⟩
    refine ⟨by first | omega | (simp[aT]; omega),by first | omega | (simp[aT]; omega),?_⟩
    refine aD.dP ((AY r (bz g (l.take i) s) (by omega) ⟨y.aF,y.dot+1⟩ H' o1).mono ?_)
    rintro r2 H2 ⟨o2,l2⟩
    simp (disch:=omega) only [↓wr,seval,wq,ah,ag,ak,aa,ab,af,ai,ae,t1,t2,t3,t7,t8]
    rw[Vd (by rw[hny,he])] at htk
    exact aM hk (by omega) ⟨r2,by rw[htk]; exact o2,fr.step l2,t1,t2,t3,rfl,rfl⟩
   ·simp (disch:=omega) only [↓wr,seval,wq,ah,ag,ak,aa,ab,af,ai,ae,t1,t2,t3,t7,t8]
    exact skip (by rw[hny]; simp[he]) _ t1 t2 t3 t7 rfl
 ·simp (disch:=omega) only [↓wr,seval,wq,ah,ag,ak,aa,ab,af,ai,ae,t1,t2,t3,t7,t8]
  rw[Vq (by omega)] at o1
  exact ⟨o1,fr⟩
theorem C5 {g:aw} (hf:g.dK) {i:Nat} (hi:i < g.ay.length+g.az.length) : -100≤bf g i∧bf g i≤100:=by
 have:=hf.ay; have:=hf.az
 unfold bf; split <;> omega
theorem IS (g:aw) (hf:g.dK) (i:Nat) (hi:i < g.ay.length+g.az.length):aI Tryz.prog 65 [.agg (au g),gi i] (gi (bf g i)):=by
 refine aI.val (by
  intro v hv; simp at hv
  rcases hv with rfl | rfl
  ·exact cI _ (dH g)
  ·exact .val _) fun H=>?_
 have:=hf.ay; have:=hf.az
 refine aC.of mixed tu ?_
 unfold bf
 simp (disch:=omega) only [↓wr,seval,wq,ah,ag,ak,aa,ab,af,ai,ae,oR,au,encS]
 refine av.dec (fun h=>?_) (fun h=>?_)
 ·simp (disch:=omega) only [↓wr,seval,wq,ah,ag,ak,aa,ab,af,ai,ae]
  rw[Vd (by omega)]
 ·simp (disch:=omega) only [↓wr,seval,wq,ah,ag,ak,aa,ab,af,ai,ae,au]
  rw[Va (by omega)]
theorem zR (l:List aH):Tree (.aK (aT l)):=fa _ _ fun x _ v hv=>by simp[bE] at hv; rcases hv with rfl | rfl <;> exact .val _
theorem KR (a b:List aH) (ha:aS a) (hb:aS b):aI Tryz.prog 21 [.aK (aT a),.aK (aT b)] (gb (a == b)):=by
 unfold aS at ha hb
 refine aI.val (by
  intro v hv; simp at hv
  rcases hv with rfl | rfl <;> exact zR _) fun H=>?_
 refine aC.of mixed uR ?_
 simp (disch:=omega) only [↓wr,seval,wq,ah,ag,ak,aa,ab,af,ai,ae,pq,aT]
 refine av.ne (fun h=>?_) (fun h=>?_)
 ·simp (disch:=omega) only [↓wr,seval,wq,ah,ag,ak,aa,ab,af,ai,ae]
  have:(a == b)=false:=by simp; rintro rfl; exact h rfl
  rw[this]
 ·simp (disch:=omega) only [↓wr,seval,wq,ah,ag,ak,aa,ab,af,ai,ae]
  refine aZ.up a.length (fun i T H'=>a.take i=b.take i∧T 0=.aK (aT a)∧T 1=.aK (aT b)∧T 5=gi i) ⟨rfl,rfl,rfl,rfl⟩ ?_
  rintro i k T H' hk ⟨he,t0,t1,t5⟩
  simp (disch:=omega) only [↓wr,seval,wq,ah,ag,ak,aa,ab,af,ai,ae,nI,t0,t1,t5,aT]
  refine av.dec (fun hc=>?_) (fun hc=>?_)
  ·have hx:a[i]?=some (a[i]'(by omega)):=U9 (by omega)
   have hy:b[i]?=some (b[i]'(by omega)):=U9 (by omega)
   generalize a[i]'(by omega)=x at hx
   generalize b[i]'(by omega)=y at hy
   simp (disch:=omega) only [↓wr,seval,wq,ah,ag,ak,aa,ab,af,ai,ae,t0,t1,t5,aT,Vc,hx,hy,Vh,bE]
   refine iw (xs:=#[.int .i64 x.aF,.int .i64 x.dot]) (ys:=#[.int .i64 y.aF,.int .i64 y.dot]) Tryz.underlying33 (by kernel_rfl) (by kernel_rfl) ?_ ?_ (qA x y) (.inr ⟨rfl,rfl⟩) ?_
   ·rfl
   ·rfl
   rw[ze]
   simp (disch:=omega) only [↓wr,seval,wq,ah,ag,ak,aa,ab,af,ai,ae,t0,t1,t5]
   refine av.dec (fun e2=>?_) (fun e2=>?_)
   ·simp (disch:=omega) only [↓wr,seval,wq,ah,ag,ak,aa,ab,af,ai,ae,t0,t1,t5]
    exact aM hk (by omega) ⟨by rw[Vx,Vx,he,hx,hy,e2],t0,t1,rfl⟩
   ·simp (disch:=omega) only [↓wr,seval,wq,ah,ag,ak,aa,ab,af,ai,ae]
    have:(a == b)=false:=by
     simp; rintro rfl
     rw[hx] at hy; simp at hy; exact e2 hy
    rw[this]
  ·simp (disch:=omega) only [↓wr,seval,wq,ah,ag,ak,aa,ab,af,ai,ae,t0,t1,t5]
   rw[Vq (by omega),Vq (by omega)] at he
   rw[he,WE]
def DL (p:Nat→Bool):Nat→BV
 | 0=>0
 | n+1=>if p n=true then DL p n ||| BitVec.twoPow 32 n else DL p n
theorem AO (p:Nat→Bool):∀ (n i:Nat),n≤32→((DL p n).getLsbD i=true↔i < n∧p i=true)
 | 0,i,_=>by simp[DL]
 | n+1,i,h=>by
  have ih:=AO p n i (by omega)
  rw[DL]
  split
  ·rename_i hp
   rw[VM,V7,ih,Wz]
   simp only[Vm,Vo]
   constructor
   ·rintro (⟨h1,h2⟩ | ⟨h1,rfl⟩)
    ·exact ⟨by omega,h2⟩
    ·exact ⟨by omega,hp⟩
   ·rintro ⟨h1,h2⟩
    rcases Vy i n with h3 | h3
    ·exact .inl ⟨h3,h2⟩
    ·exact .inr ⟨by omega,by omega⟩
  ·rename_i hp
   rw[ih]
   constructor
   ·rintro ⟨h1,h2⟩; exact ⟨by omega,h2⟩
   ·rintro ⟨h1,h2⟩
    refine ⟨?_,h2⟩
    rcases Vy i n with h3 | h3
    ·exact h3
    ·have:i=n:=by omega
     subst this; exact absurd h2 hp
structure eM where
 aF:Int
 set:BV
 deriving DecidableEq
noncomputable def cG (g:aw):List aR × Int:=if isRed g=true then fF g 302 0 dX else ([],1)
noncomputable def aY (g:aw) (a:List aR):List (List aH):=a.map fun s=>cw g s.bh
open Classical in
noncomputable def rh (g:aw) (a:List aR) (i:Nat) (x:aH):BV:=DL (fun t=>decide (kj g (aA g false) a (aY g a) i x t)) 32
noncomputable def qf (g:aw) (a:List aR) (i:Nat):List eM:=((aY g a).getD i []).filterMap fun x=>if (bA g x).2=false∧0≤x.aF then some ⟨x.aF,rh g a i x⟩ else none
noncomputable def rJ (g:aw) (a:List aR):List (List eM):=(List.range a.length).map (qf g a)
noncomputable def pT (g:aw):List (List eM) × Int:=if (cG g).2=0 then (rJ g (cG g).1,0) else ([],(cG g).2)
structure dU (g:aw) (at_ i:Nat) (out:List aR):Prop where
 bh:∀ s∈out,cB s.bh∧s.bh≠[]∧∀ x∈s.bh,cr g x
 bk:∀ j s,out[j]?=some s→s.bk.length≤40∧(j=at_→s.bk.length≤i)∧(at_ < j→s.bk=[])
 to:∀ s∈out,∀ e∈s.bk,0≤e.to∧e.to < out.length
 sym:∀ s∈out,∀ e∈s.bk,-1000≤e.sym∧e.sym≤1000
theorem mem_modify {α:Type} {l:List α} {i:Nat} {f:α→α} {y:α} (h:y∈l.modify i f):y∈l∨∃ x,l[i]?=some x∧y=f x:=by
 obtain ⟨j,hj,e⟩:=Wl.1 h
 simp only[List.length_modify] at hj
 rw[List.getElem_modify] at e
 split at e
 ·rename_i hij
  subst hij
  exact .inr ⟨l[i],U9 hj,e.symm⟩
 ·exact .inl (e ▸ Vi hj)
theorem OK (g:aw) (l:List aH) (at_:Nat) (out:List aR) (i:Nat):out.length≤(df g l at_ out i).length∧(df g l at_ out i).length≤out.length+1:=by
 unfold df
 split
 ·omega
 ·split
  ·simp
  ·simp
theorem dU.put {g:aw} {at_ i:Nat} {out:List aR} (h:dU g at_ i out) (hi:i < 40) {s:Int} (hs : -1000≤s∧s≤1000) {to:Int} (ht:0≤to∧to < out.length):dU g at_ (i+1) (out.modify at_ fun x=>(⟨x.bh,x.bk ++ [⟨s,to⟩]⟩:aR)):=by
 refine ⟨fun y hy=>?_,fun j y hy=>?_,fun y hy e he=>?_,fun y hy e he=>?_⟩
 rotate_right
 ·rcases mem_modify hy with hy | ⟨x,hx,rfl⟩
  ·exact h.sym y hy e he
  ·rcases VE.1 he with he | he
   ·exact h.sym x (Vf hx) e he
   ·simp at he; subst he; exact hs
 ·rcases mem_modify hy with hy | ⟨x,hx,rfl⟩
  ·exact h.bh y hy
  ·exact h.bh x (Vf hx)
 ·rw[List.getElem?_modify] at hy
  cases hx:out[j]? with
  | none=>rw[hx] at hy; simp at hy
  | some x =>
   rw[hx] at hy
   have h1:=h.bk j x hx
   by_cases e:at_=j
   ·subst e
    simp at hy
    subst hy
    have:=h1.2.1 rfl
    refine ⟨by simp; omega,fun _=>by simp; omega,fun h=>by omega⟩
   ·simp[e] at hy
    subst hy
    exact ⟨h1.1,fun h=>absurd h.symm e,h1.2.2⟩
 ·rw[List.length_modify]
  rcases mem_modify hy with hy | ⟨x,hx,rfl⟩
  ·exact h.to y hy e he
  ·rcases VE.1 he with he | he
   ·exact h.to x (Vf hx) e he
   ·simp at he; subst he; exact ht
theorem dU.up {g:aw} {at_ i:Nat} {out:List aR} (h:dU g at_ i out):dU g at_ (i+1) out :=
 ⟨h.bh,fun j s hs=>by have:=h.bk j s hs; exact ⟨this.1,fun e=>by have:=this.2.1 e; omega,this.2.2⟩,h.to,h.sym⟩
theorem dU.add {g:aw} {at_ i:Nat} {out:List aR} (h:dU g at_ i out) {k:List aH} (hk:cB k∧k≠[]∧∀ x∈k,cr g x):dU g at_ i (out ++ [⟨k,[]⟩]):=by
 refine ⟨fun y hy=>?_,fun j y hy=>?_,fun y hy e he=>?_,fun y hy e he=>?_⟩
 rotate_right
 ·rcases VE.1 hy with hy | hy
  ·exact h.sym y hy e he
  ·simp at hy; subst hy; simp at he
 ·rcases VE.1 hy with hy | hy
  ·exact h.bh y hy
  ·simp at hy; subst hy; exact hk
 ·rcases Vy j out.length with hj | hj
  ·rw[Vz hj] at hy; exact h.bk j y hy
  ·rw[VN hj] at hy
   cases hq:j - out.length with
   | zero=>rw[hq] at hy; simp at hy; subst hy; exact ⟨by simp,fun _=>by simp,fun _=>rfl⟩
   | succ q=>rw[hq] at hy; simp at hy
 ·rcases VE.1 hy with hy | hy
  ·have:=h.to y hy e he; simp; omega
  ·simp at hy; subst hy; simp at he
theorem dU.step {g:aw} {l:List aH} (hs:cB l) (hl:∀ x∈l,cr g x) {at_ i:Nat} {out:List aR} (h:dU g at_ i out) (hi:i < 40):dU g at_ (i+1) (df g l at_ out i):=by
 unfold df
 split
 ·exact h.up
 ·rename_i hne
  have hb : -1000≤bf g i∧bf g i≤1000:=by unfold bf; split <;> omega
  split
  ·exact (h.add ⟨E7 _ hs,hne,HA hl⟩).put hi hb (by simp; omega)
  ·have:=xe out (bz g l (bf g i))
   exact h.put hi hb ⟨by omega,this⟩
theorem dU.next {g:aw} {at_ i:Nat} {out:List aR} (h:dU g at_ i out):dU g (at_+1) 0 out :=
 ⟨h.bh,fun j s hs=>by
  have:=h.bk j s hs
  exact ⟨this.1,fun e=>by have:=this.2.2 (by omega); simp[this],fun e=>this.2.2 (by omega)⟩,h.to,h.sym⟩
theorem dU.row {g:aw} {l:List aH} (hs:cB l) (hl:∀ x∈l,cr g x) {at_:Nat} {out:List aR} (h:dU g at_ 0 out):∀ n:Nat,n≤40→dU g at_ n ((List.range n).foldl (df g l at_) out)∧out.length≤((List.range n).foldl (df g l at_) out).length∧((List.range n).foldl (df g l at_) out).length≤out.length+n
 | 0,_=>⟨h,Vj _,Vj _⟩
 | n+1,hn=>by
  obtain ⟨h1,h2,h3⟩:=dU.row hs hl h n (by omega)
  rw[V0,VR]
  simp only[VF,Wk]
  have:=OK g l at_ ((List.range n).foldl (df g l at_) out) n
  exact ⟨h1.step hs hl (by omega),by omega,by omega⟩
theorem na {g:aw} : dU g 0 0 dX:=by
 refine ⟨fun s hs=>?_,fun j s hs=>?_,fun s hs e he=>?_,fun s hs e he=>?_⟩
 rotate_right
 ·simp[dX] at hs; subst hs; simp at he
 ·simp[dX] at hs; subst hs
  refine ⟨by simp[cB],by simp,fun x hx=>?_⟩
  simp at hx; subst hx
  exact ⟨⟨by simp,by simp only; omega⟩,by simp,by simp[aW]⟩
 ·have:=Vf hs
  simp[dX] at this; subst this; simp
 ·simp[dX] at hs; subst hs; simp at he
theorem dU.oA {g:aw} (hf:g.dK) {at_ i:Nat} {out:List aR} (h:dU g at_ i out) {j:Nat} (hj:j < out.length):cB (cw g (out.getD j bH).bh)∧∀ x∈cw g (out.getD j bH).bh,cr g x:=by
 have hm:=Vf (getD_some (d:=bH) hj)
 exact ⟨jU _ _,fun x hx=>((cY hf (h.bh _ hm).2.2).1 hx).has (h.bh _ hm).2.2⟩
structure BH (g:aw) (a:List aR):Prop where
 bh:∀ s∈a,cB s.bh∧s.bh≠[]∧∀ x∈s.bh,cr g x
 bk:∀ s∈a,s.bk.length≤40
 to:∀ s∈a,∀ e∈s.bk,0≤e.to∧e.to < a.length
 sym:∀ s∈a,∀ e∈s.bk,-1000≤e.sym∧e.sym≤1000
theorem dU.ok {g:aw} {at_ i:Nat} {out:List aR} (h:dU g at_ i out):BH g out :=
 ⟨h.bh,fun s hs=>by obtain ⟨j,hj,e⟩:=Wl.1 hs; exact (h.bk j s (by rw[U9 hj,e])).1,h.to,h.sym⟩
theorem Gc {g:aw} (hf:g.dK):∀ (f at_:Nat) (out:List aR),dU g at_ 0 out→1≤out.length→out.length≤300→(fF g f at_ out).2=0→BH g (fF g f at_ out).1∧1≤(fF g f at_ out).1.length∧(fF g f at_ out).1.length≤300
 | 0,_,out,h,h1,h2,_=>⟨h.ok,h1,h2⟩
 | f+1,at_,out,h,h1,h2,h3=>by
  rw[fF] at h3 ⊢
  split
  ·rename_i ha
   rw[Vd ha] at h3
   have hr:=dU.row (h.oA hf ha).1 (h.oA hf ha).2 h (g.ay.length+g.az.length) (by have:=hf.ay; have:=hf.az; omega)
   rw[show (List.range (g.ay.length+g.az.length)).foldl (df g (cw g (out.getD at_ bH).bh) at_) out=AM g at_ out (g.ay.length+g.az.length) from rfl] at hr
   split
   ·rename_i hc; rw[Vd hc] at h3; simp at h3
   ·rename_i hc
    rw[Va hc] at h3
    exact Gc hf f (at_+1) _ hr.1.next (by omega) (by omega) h3
  ·exact ⟨h.ok,h1,h2⟩
theorem A3 {g:aw} (hf:g.dK) (h:(cG g).2=0):BH g (cG g).1∧1≤(cG g).1.length∧(cG g).1.length≤300:=by
 unfold cG at h ⊢
 split
 ·rename_i hr
  rw[Vd hr] at h
  exact Gc hf 302 0 dX na (by simp[dX]) (by simp[dX]) h
 ·rename_i hr
  rw[Va hr] at h
  simp at h
end Gv
