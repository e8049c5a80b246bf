/-
  Part 11 of the proof: what the machine does and what the functions answer.
  Conditions: those that each lemma names.
-/
import Derived.Test.YtihmlbdfcmfbdaaGreatSGzB2J
set_option linter.unusedSimpArgs false
set_option linter.unusedVariables false
set_option maxRecDepth 100000
namespace Gv
open Go Go.Proofs
def Qn:List Int:=[37,37,32,115,32,58,32,39,97,39,32,115,32,124,32,59]
def tj:aw:=⟨[⟨⟨#[39,97,39]⟩,0,0⟩],[⟨#[115]⟩],[⟨0,[0,(-1)],0⟩,⟨0,[],(-1)⟩],0⟩
theorem Sy:cX Tryz.prog 49 [AS Qn] (rQ tj):=IE (by kernel_rfl)
section
variable {g:aw} {p:List Int} {T:Tb} {N:Nat}
end
theorem eA.Pm {H:View} {u:V} {l:List Int} (h:bf H u 1 (bZ l)):eA H u (encI l):=eA.own h fun e he v hv=>by
 obtain ⟨x,_,rfl⟩:=Ur.1 he
 simp at hv; subst hv; exact .val _
section
variable {g r:aw} {p q:List Bool} {o:List Int}
end
section
variable {fit:List Int→Bool} {T b:Nat}
end
section
variable {P:Program} {T:Env} {H:View} {K:V→View→Prop} {w:cE (T,H,K)} {t t1 e ty:TypeId}
end
def KP:Value→Value→Bool
 | .int k a,.int k' b=>decide (k=k') && decide (a=b)
 | .bool a,.bool b=>a == b
 | .string a,.string b=>iP a b
 | .pointer none,.pointer none=>true
 | _,_=>false
theorem O6:∀ (a b:Value),KP a b=true→a=b:=by
 intro a b h
 unfold KP at h
 split at h
 ·simp only[Uh,Ul] at h
  rw[h.1,h.2]
 ·rename_i a b
  rw[show a=b by simpa using h]
 ·rename_i a b
  obtain ⟨a⟩:=a
  obtain ⟨b⟩:=b
  simp only[iP,Va] at h
  rw[show a=b from Array.toList_inj.1 h]
 ·rfl
 ·simp at h
def zZ (q:V→V→Bool):List V→List V→Bool
 | [],[]=>true
 | a :: l,b :: m=>q a b && zZ q l m
 | _,_=>false
def I5 (q:V→V→Bool):List (List V)→List (List V)→Bool
 | [],[]=>true
 | a :: l,b :: m=>zZ q a b && I5 q l m
 | _,_=>false
def DU:Nat→V→V→Bool
 | 0,_,_=>false
 | k+1,a,b=>match a,b with
  | .val x,.val y=>KP x y
  | .aL x,.aL y=>I5 (DU k) x y
  | .agg x,.agg y=>zZ (DU k) x y
  | .bE x,.bE y=>zZ (DU k) x y
  | _,_=>false
theorem vi {q:V→V→Bool} (hq:∀ a b,q a b=true→a=b):∀ (l m:List V),zZ q l m=true→l=m
 | [],[],_=>rfl
 | a :: l,b :: m,h=>by
  simp only[zZ,Uh] at h
  rw[hq a b h.1,vi hq l m h.2]
 | [],_ :: _,h=>by simp[zZ] at h
 | _ :: _,[],h=>by simp[zZ] at h
theorem LA {q:V→V→Bool} (hq:∀ a b,q a b=true→a=b):∀ (l m:List (List V)),I5 q l m=true→l=m
 | [],[],_=>rfl
 | a :: l,b :: m,h=>by
  simp only[I5,Uh] at h
  rw[vi hq a b h.1,LA hq l m h.2]
 | [],_ :: _,h=>by simp[I5] at h
 | _ :: _,[],h=>by simp[I5] at h
theorem FW:∀ (k:Nat) (a b:V),DU k a b=true→a=b
 | 0,_,_,h=>by simp[DU] at h
 | k+1,a,b,h=>by
  have ih:=FW k
  unfold DU at h
  split at h
  ·rw[O6 _ _ h]
  ·rw[LA ih _ _ h]
  ·rw[vi ih _ _ h]
  ·rw[vi ih _ _ h]
  ·simp at h
def sU:Nat→V→Bool
 | 0,_=>false
 | k+1,v=>match v with
  | .val _=>true
  | .emp _=>true
  | .dP=>true
  | .aL es=>es.all fun e=>e.all (sU k)
  | .agg cs=>cs.all (sU k)
  | .bE cs=>cs.all (sU k)
  | _=>false
theorem wA {q:V→Bool} {l:List V} (h:l.all q=true) {i:Nat} (hi:i < l.length):q (l.getD i .any)=true:=by
 have e:l.getD i .any=l[i]:=by simp[T0,hi]
 rw[e]
 exact UE.1 h _ (Ud _)
theorem Ai:∀ (k:Nat) (v:V),sU k v=true→Tree v
 | 0,_,h=>by simp[sU] at h
 | k+1,v,h=>by
  have ih:=Ai k
  unfold sU at h
  split at h
  ·exact .val _
  ·exact .emp _
  ·exact .dP
  ·rename_i es
   refine .aL _ fun i j hi hj=>ih _ ?_
   have e:es.getD i []=es[i]:=by simp[T0,hi]
   have h1:=UE.1 h _ (Ud hi)
   rw[e] at hj ⊢
   exact wA h1 hj
  ·exact .agg _ fun i hi=>ih _ (wA h hi)
  ·exact .bE _ fun i hi=>ih _ (wA h hi)
  ·simp at h
noncomputable def wj (H:View):Nat→V→Option V
 | 0,_=>none
 | k+1,v=>match v with
  | .val x=>some (.val x)
  | .emp _=>some (.aL [])
  | .aL es=>match sU 60 (.aL es) with
   | true=>some (.aL es)
   | false=>none
  | .sl id off len _=>match H id with
   | .arr _ es=>match Nat.ble (off+len) es.length with
    | true=>(CV (wj H k) ((es.drop off).take len)).map .aL
    | false=>none
   | _=>none
  | .agg cs=>(nL (wj H k) cs).map .agg
  | .bE cs=>(nL (wj H k) cs).map .bE
  | _=>none
theorem Dt (h:aJ):∀ (k:Nat) (v t:V),wj h.view k v=some t→Fr h v t
 | 0,v,t,hf=>by simp[wj] at hf
 | k+1,v,t,hf=>by
  have ih:=Dt h k
  simp only[wj] at hf
  split at hf
  ·simp only[T7] at hf; subst hf; exact .tree _ (.val _)
  ·simp only[T7] at hf; subst hf; exact .emp _
  ·split at hf
   ·rename_i ht
    simp only[T7] at hf; subst hf; exact .tree _ (Ai _ _ ht)
   ·simp at hf
  ·rename_i id off len esz
   split at hf
   ·rename_i z es hH
    split at hf
    ·rename_i hle
     have hle:=Nat.le_of_ble_eq_true hle
     simp only[Uf] at hf
     obtain ⟨es',he,rfl⟩:=hf
     obtain ⟨g1,g2⟩:=C3 _ _ he
     have hlen:es'.length=len:=by rw[g1]; simp; omega
     have hg:∀ i,i < len→((es.drop off).take len).getD i []=es.getD (off+i) []:=fun i hi=>by
      simp[T0,Vv,hi]
     have g3:∀ i,i < len→nL (wj h.view k) (es.getD (off+i) [])=some (es'.getD i []):=fun i hi=>by
      rw[← hg i hi]; exact g2 i (by rw[← g1,hlen]; exact hi)
     exact .sl id off len esz z es es' hH hle hlen (fun i hi=>(ik _ _ (g3 i hi)).1) (fun i j hi hj=>ih _ _ ((ik _ _ (g3 i hi)).2 j (by rw[← (ik _ _ (g3 i hi)).1]; exact hj)))
    ·simp at hf
   ·simp at hf
  ·simp only[Uf] at hf
   obtain ⟨l,hl,rfl⟩:=hf
   obtain ⟨g1,g2⟩:=ik _ _ hl
   exact .agg _ _ g1 (fun i hi=>ih _ _ (g2 i hi))
  ·simp only[Uf] at hf
   obtain ⟨l,hl,rfl⟩:=hf
   obtain ⟨g1,g2⟩:=ik _ _ hl
   exact .bE _ _ g1 (fun i hi=>ih _ _ (g2 i hi))
  ·simp at hf
theorem aG.seen {P:Program} {f:FuncId} {vs ts:List V} {t:V} (hc:aG P f ts t) (ht:∀ i,i < vs.length→Tree (vs.getD i .any)) (hl:ts.length=vs.length) (hfr:∀ i,i < vs.length→Fr [] (vs.getD i .any) (ts.getD i .any)):aG P f vs t:=by
 intro Z μ w xs hrel hz
 have hr0:gY Z (fun _=>none) w.heap (cat [] fun _=>.dead):=by
  rw[CJ]
  exact ⟨fun _=>trivial,fun i j b o s o' s' _ h=>by simp at h,fun id b o s h=>by simp at h,hz,fun id b o s h=>by simp at h⟩
 have hno:∀ b,¬ jb (fun _=>none) b:=fun b ⟨_,_,_,h⟩=>by simp at h
 have hts:fU (fun b=>Z b∨jb (fun _=>none) b) μ w.heap ts xs:=⟨by rw[hl,hrel.1],fun i hi=>A8 hr0 (hfr i (by omega)) (vP (hrel.2 i (by omega)) (ht i (by omega)))⟩
 refine (hc _ μ w xs hts (fun b hb=>hb.elim (hz b) (fun h=>absurd h (hno b)))).mono ?_
 rintro e w' ⟨x,Z',rfl,hv,hs,h1,h2,ho⟩
 exact ⟨x,Z',rfl,hv,hs,fun b hb=>h1 b (.inl hb),fun b hb=>(h2 b hb).elim (fun h=>h.elim .inl (fun h=>absurd h (hno b))) .inr,ho⟩
abbrev x5:=FuncId × List V × V × Bool
def x5.Ok (P:Program) (x:x5):Prop:=dG P x.1=true∧if x.2.2.2=true then aG P x.1 x.2.1 x.2.2.1 else (cX P x.1 x.2.1 x.2.2.1∨(aG P x.1 x.2.1 x.2.2.1∧Aw x.2.2.1))
noncomputable def Qk (g:FuncId) (vs:List V) (H:View) (x:x5):Bool:=Nat.beq x.1 g && (match x.2.2.2 with
 | true=>vs.all (sU 60) && (match nL (wj (fun _=>.dead) 60) vs with
  | some ts=>zZ (DU 60) ts x.2.1
  | none=>false)
 | false=>match nL (wj H 60) vs with
  | some ts=>zZ (DU 60) ts x.2.1
  | none=>false)
noncomputable def P4 (l:List x5):xH:=fun g vs H=>(l.find? (Qk g vs H)).map fun x=>x.2.2.1
theorem PD {P:Program} {l:List x5} (hl:∀ x∈l,x.Ok P):sN P (P4 l):=by
 intro g vs H t h
 unfold P4 at h
 simp only[Uf] at h
 obtain ⟨⟨f,ts,r,b⟩,hx,rfl⟩:=h
 obtain ⟨h1,h2⟩:=hl _ (List.mem_of_find?_eq_some hx)
 have hq:=List.find?_some hx
 simp only[Qk,Uh] at hq
 obtain ⟨hg,hq⟩:=hq
 have hg:=VU hg
 simp only at hg h1 h2 hq
 subst hg
 refine ⟨h1,?_⟩
 rintro h rfl
 cases b with
 | true =>
  simp only[Uh] at hq
  obtain ⟨hq1,hq2⟩:=hq
  split at hq2
  ·rename_i us hus
   obtain ⟨g1,g2⟩:=ik _ _ hus
   have:=vi (FW 60) _ _ hq2
   subst this
   simp only[if_true] at h2
   exact bW.gg (h2.seen (fun i hi=>Ai _ _ (wA hq1 hi)) g1 fun i hi=>Dt [] 60 _ _ (g2 i hi)) h
  ·simp at hq2
 | false =>
  simp only at hq
  split at hq
  ·rename_i us hus
   obtain ⟨g1,g2⟩:=ik _ _ hus
   have:=vi (FW 60) _ _ hq
   subst this
   have hfr:=fun i hi=>Dt h 60 _ _ (g2 i hi)
   simp only[Ut,if_false] at h2
   rcases h2 with h2 | ⟨h2,h3⟩
   ·exact bW.uP h2 g1 hfr
   ·exact bW.borrow h2 h3 g1 hfr
  ·simp at hq
def tG (x:Int):Bool:=decide (-9223372036854775808≤x) && decide (x≤9223372036854775807)
theorem pD {x:Int} (h:tG x=true):cp x:=by
 unfold tG at h
 simp only[Uh,Ul] at h
 exact h
def okB (g:aw):Bool:=decide (g.az.length≤900) && decide (g.ax.length≤100) && decide (g.rules.length≤900) && tG g.start && g.az.all (fun t=>tG t.level && tG t.assoc) && g.rules.all fun r=>tG r.left && tG r.prec && decide (r.right.length≤900) && r.right.all tG
theorem LY {g:aw} (h:okB g=true):g.Ok∧g.Small:=by
 unfold okB at h
 simp only[Uh,Ul,UE] at h
 obtain ⟨⟨⟨⟨⟨h1,h2⟩,h3⟩,h4⟩,h5⟩,h6⟩:=h
 refine ⟨⟨by unfold aY; omega,by unfold aY; omega,by unfold aY; omega,pD h4,fun t ht=>⟨pD (h5 t ht).1,pD (h5 t ht).2⟩,fun r hr=>?_⟩,⟨by omega⟩⟩
 have:=h6 r hr
 exact ⟨pD this.1.1.1,pD this.1.1.2,by unfold aY; have:=this.1.2; omega,fun x hx=>pD (this.2 x hx)⟩
theorem tv:tj.Ok∧tj.Small:=LY (by kernel_rfl)
structure dC where
 sym:Int
 to:Int
 deriving DecidableEq
def kd (x:dC):List V:=[gi x.sym,gi x.to]
def bU {α:Type} (A:List (V × α)):List (List V):=A.map fun x=>[x.1]
structure aI where
 aH:Int
 dot:Int
 deriving DecidableEq
def bK (x:aI):List V:=[gi x.aH,gi x.dot]
def aS (l:List aI):List (List V):=l.map bK
def cH (a b:aI):Bool:=decide (a.aH < b.aH) || (decide (a.aH=b.aH) && decide (a.dot < b.dot))
def ep:List aI→aI→List aI
 | [],x=>[x]
 | y :: l,x=>if cH y x=true then y :: ep l x else if y=x then y :: l else x :: y :: l
theorem QR (a b:aI):∀ v∈[V.agg (bK a),.agg (bK b)],Tree v:=by
 intro v hv; simp at hv
 rcases hv with rfl | rfl <;> exact cT _ fun v hv=>by simp[bK] at hv; rcases hv with rfl | rfl <;> exact .val _
def qh:SF:=⟨.seq (ao [cO 2 0,cO 3 1,bH 4 false]) <|
 .seq (.region false [⟨none,[aD 5 0 2,ay 6 5,aD 7 0 3,ay 8 7,bg 9 .lss 6 8,aj 10 9]⟩,⟨(some (10,false)),[aD 11 0 2,ay 12 11,aD 13 0 3,ay 14 13,bg 15 .eql 12 14,aj 16 15]⟩,⟨(some (16,true)),[aD 17 1 2,ay 18 17,aD 19 1 3,ay 20 19,bg 21 .lss 18 20]⟩,⟨(some (10,false)),[eS 22 16 21]⟩,⟨none,[cU 23 10 22,aj 4 23]⟩]) <|
 .ret,
 [.tmp 4],24⟩
theorem uz:aU Tryz.prog 156 [2,3]=some qh:=by kernel_rfl
def oS:SC :=
 .seq (.seq (.region false [⟨none,[aj 7 5,aj 8 0,aV 9 8,bg 10 .lss 7 9,aj 11 10]⟩,⟨(some (11,true)),[aj 12 0,aj 13 5,aR 14 2 12 13,bp 15 2 14,bp 16 2 3,bD 17 156 [15,16]]⟩,⟨none,[eS 18 11 17]⟩]) <|
 .cond (.tmp 18) (.skip) (.exit 0)) <|
 .block 1 (ao [aj 19 5,aQ 20 .add 19 1,aj 5 20])
def qV:SF:=⟨.seq (ao [cO 3 1,((some 4),.op (.bP (.val (.emp 1))))]) <|
 .seq (ao [bj 5 0]) <|
 .seq (.block 0 (.loop oS)) <|
 .seq (.seq (.region false [⟨none,[aj 21 5,aj 22 0,aV 23 22,bg 24 .lss 21 23,aj 25 24]⟩,⟨(some (25,true)),[aj 26 0,aj 27 5,aR 28 2 26 27,bp 29 2 28,bp 30 2 3,((some 31),.op (.old (.binOp .eql 33 (.tmp 29) (.tmp 30) 33) 4))]⟩,⟨none,[eS 32 25 31]⟩]) <|
 .cond (.tmp 32) (.seq (ao [aj 33 0,aj 4 33]) <|
 .ret) (.skip)) <|
 .seq (ao [((some 34),.op (.bP (.val (.emp 2)))),aj 35 0,aj 36 5,((some 37),.op (.slice 2 (.tmp 35) (some (.tmp 36)) none)),((some 38),.op (.app 2 16 (.tmp 34) (.tmp 37))),aj 6 38]) <|
 .seq (ao [aj 39 0,aj 40 5,((some 41),.op (.slice 2 (.tmp 39) none (some (.tmp 40)))),bp 42 2 3,((some 43),.op (.cw 1 2 [(.val (.int .i64 0)),(.val (.int .i64 0))] [(0,(.tmp 42))])),((some 44),.op (.app 2 16 (.tmp 41) (.tmp 43))),aj 45 6,((some 46),.op (.app 2 16 (.tmp 44) (.tmp 45))),aj 4 46]) <|
 .ret,
 [.tmp 4],47⟩
theorem vF:aU Tryz.prog 108 [3]=some qV:=by kernel_rfl
theorem LZ (a b:aI):aG Tryz.prog 156 [.agg (bK a),.agg (bK b)] (gb (cH a b)):=by
 refine aG.val (QR a b) fun H=>?_
 refine aC.of mixed uz ?_
 unfold cH
 simp (disch:=omega) only [↓wr,seval,wq,ah,ag,ak,aa,ab,af,ai,ae,qh,bK]
 refine av.dec (fun h1=>?_) (fun h1=>?_)
 ·simp (disch:=omega) only [↓wr,seval,wq,ah,ag,ak,aa,ab,af,ai,ae]
  rw[decide_eq_true h1]; rfl
 simp (disch:=omega) only [↓wr,seval,wq,ah,ag,ak,aa,ab,af,ai,ae,bK]
 refine av.eq (fun h2=>?_) (fun h2=>?_)
 ·simp (disch:=omega) only [↓wr,seval,wq,ah,ag,ak,aa,ab,af,ai,ae,bK]
  rw[decide_eq_false h1,decide_eq_true h2]; rfl
 ·simp (disch:=omega) only [↓wr,seval,wq,ah,ag,ak,aa,ab,af,ai,ae]
  rw[decide_eq_false h1,decide_eq_false h2]; rfl
def dT:List aI→aI→Nat
 | [],_=>0
 | y :: l,x=>if cH y x=true then dT l x+1 else 0
theorem BY:∀ (l:List aI) (x:aI),dT l x≤l.length
 | [],_=>Ug _
 | y :: l,x=>by
  rw[dT]; split
  ·have:=BY l x; simp; omega
  ·simp
theorem BL:∀ (l:List aI) (x:aI) (i:Nat) (y:aI),l[i]?=some y→i < dT l x→cH y x=true
 | [],_,_,_,h,_=>by simp at h
 | z :: l,x,0,y,h,hi=>by
  rw[dT] at hi; split at hi
  ·simp at h; subst h; assumption
  ·omega
 | z :: l,x,i+1,y,h,hi=>by
  rw[dT] at hi; split at hi
  ·exact BL l x i y (by simpa using h) (by omega)
  ·omega
theorem BT:∀ (l:List aI) (x:aI) (y:aI),l[dT l x]?=some y→cH y x=false
 | [],_,_,h=>by simp at h
 | z :: l,x,y,h=>by
  rw[dT] at h; split at h
  ·exact BT l x y (by simpa using h)
  ·rename_i e; simp at h; subst h; simpa using e
theorem wD:∀ (l:List aI) (x:aI),ep l x=if l[dT l x]?=some x then l else l.take (dT l x) ++ [x] ++ l.drop (dT l x)
 | [],x=>by simp[ep,dT]
 | y :: l,x=>by
  rw[ep,dT]
  split
  ·have:=wD l x
   simp only[UP,VJ,List.drop_succ_cons,UI]
   rw[this]; split <;> simp
  ·simp only[UC,T7,List.take_zero,Vj,Vb,UI]
theorem tF (x y:aI):gh Tryz.prog 9998 #[.int .i64 x.aH,.int .i64 x.dot] #[.int .i64 y.aH,.int .i64 y.dot]
  [{ name:= "Rule",type:=3,offset:=0,embedded:=false,tag:= "",pkgPath:= "",byteOffset:=0 },{ name:= "Dot",type:=3,offset:=1,embedded:=false,tag:= "",pkgPath:= "",byteOffset:=8 }] ((x.aH == y.aH) && ((x.dot == y.dot) && true)) :=
 .int _ _ _ .i64 _ _ (by decide) Tryz.underlying3 rfl rfl (.int _ _ _ .i64 _ _ (by decide) Tryz.underlying3 rfl rfl .nil)
theorem Cb (x y:aI):((x.aH == y.aH) && ((x.dot == y.dot) && true))=decide (x=y):=by
 cases x; cases y; rw[Vc]; simp
theorem xN {sz id off k m:Nat} (hm:m≤k):dQ sz (.sl id off k sz) (some (gi m)) none=some (.sl id (off+m) (k - m) sz,.none,[]):=by
 simp[dQ,bound,asNat,hm]
theorem sQ {sz id off k m:Nat} (hm:m≤k):dQ sz (.sl id off k sz) none (some (gi m))=some (.sl id off m sz,.none,[]):=by
 simp[dQ,bound,asNat,hm]
theorem N9 (l:List aI):((aS l).all fun e=>e.length == 2 && e.all aX)=true:=by
 simp[aS,List.all_map,bK,aX]
theorem Nk {H:View} {u:V} {sz:Nat} {es:List (List V)} (h:bf H u sz es):∃ rd,bX H u=some (es,rd):=by
 rcases h with ⟨rfl,k,rfl⟩ | ⟨n,rfl,hn⟩
 ·exact ⟨_,tQ _ k⟩
 ·cases es with
  | nil=>exact ⟨[],by simp[bX]⟩
  | cons e es =>
   exact ⟨_,by rw[show (e :: es).length=es.length+1 from rfl,rH _ n 0 es.length sz sz _ hn (by simp),Vj,Uo (by simp)]⟩
theorem pN {sz bytes:Nat} {u:V} {es:List (List V)} {H:View} {K:V→View→Prop} {w:cE (H,K)} (ho:bf H u sz es) (h:K u H):oA sz bytes u [] H K w:=by
 unfold oA
 rcases ho with ⟨_,k,rfl⟩ | ⟨n,rfl,_⟩ <;> simpa using h
theorem Left.behind {H H':View} {q:Nat} {o:dy} {u r:V} (hq:H q=.dead) (h:Left (H.set q o) H' u r):Left H H' u r:=fun a ha hau=>by
 have e:¬ a=q:=by rintro rfl; exact ha hq
 have:=h a (by simp[View.set,e]; exact ha) hau
 simpa [View.set,e] using this
set_option maxHeartbeats 8000000 in
theorem AO (u:V) (l:List aI) (hl:l.length≤100000) (x:aI) (H:View) (ho:bf H u 2 (aS l)):aC Tryz.prog 108 [u,.agg (bK x)] H fun r H'=>bf H' r 2 (aS (ep l x))∧Left H H' u r:=by
 refine aC.of mixed vF ?_
 have hlen:cG u=some l.length:=by rw[ho.len]; simp[aS]
 have hle:=BY l x
 simp (disch:=omega) only [↓wr,seval,wq,ah,ag,ak,aa,ab,af,ai,ae,qV,bK]
 refine bc.up (dT l x) (fun i T H'=>H'=H∧i≤dT l x∧T 0=u∧T 3=.aO (bK x) 0∧T 5=gi i) ⟨rfl,by omega,rfl,rfl,rfl⟩ ?_
 rintro i k T H' hk ⟨eH,hi,t0,t3,t5⟩
 subst eH
 simp (disch:=omega) only [↓wr,seval,wq,ah,ag,ak,aa,ab,af,ai,ae,oS,t0,t3,t5,hlen]
 have stop:i=dT l x→True:=fun _=>trivial
 refine av.dec (fun hc=>?_) (fun hc=>?_)
 ·have hy:l[i]?=some (l[i]'(by omega)):=T4 (by omega)
  generalize l[i]'(by omega)=y at hy
  obtain ⟨id,hu,hid⟩:=ho.sl (by simp[aS]; omega)
  have hl3:(aS l).length=l.length:=by simp[aS]
  have hg:(aS l).getD i []=bK y:=by simp[aS,T0,hy]
  have h15:=LZ y x
  simp only[bK] at h15 hg
  simp (disch:=omega) only [↓wr,seval,wq,ah,ag,ak,aa,ab,af,ai,ae,t0,t3,t5,hu,hid,hg,bK]
  refine ⟨by simp[aS]; omega,by simp[aS]; omega,?_⟩
  refine aE.pure h15 (by kernel_rfl) ?_
  simp (disch:=omega) only [↓wr,seval,wq,ah,ag,ak,aa,ab,af,ai,ae,t0,t3,t5]
  refine av.split (fun e=>?_) (fun e=>?_)
  ·have hlt:i < dT l x:=by
    rcases Uv i (dT l x) with h | h
    ·exact h
    ·have:=BT l x y (by rw[show dT l x=i by omega]; exact hy)
     rw[this] at e; exact absurd e (by simp)
   simp (disch:=omega) only [↓wr,seval,wq,ah,ag,ak,aa,ab,af,ai,ae,t0,t3,t5]
   exact aN hk hlt ⟨rfl,hlt,t0,t3,rfl⟩
  have hia:i=dT l x:=by
   rcases Uv i (dT l x) with h | h
   ·rw[BL l x i y hy h] at e; exact absurd e (by simp)
   ·omega
  simp (disch:=omega) only [↓wr,seval,wq,ah,ag,ak,aa,ab,af,ai,ae,t0,t3,t5,hlen]
  refine av.dec (fun _=>?_) (fun h=>absurd hc h)
  simp (disch:=omega) only [↓wr,seval,wq,ah,ag,ak,aa,ab,af,ai,ae,t0,t3,t5,hu,hid,hg,bK]
  refine ⟨by simp[aS]; omega,by simp[aS]; omega,?_⟩
  refine jT (xs:=#[.int .i64 y.aH,.int .i64 y.dot]) (ys:=#[.int .i64 x.aH,.int .i64 x.dot]) Tryz.underlying33 (by kernel_rfl) (by kernel_rfl) ?_ ?_ (tF y x) (.inl ⟨rfl,rfl⟩) ?_
  ·rfl
  ·rfl
  rw[Cb]
  simp (disch:=omega) only [↓wr,seval,wq,ah,ag,ak,aa,ab,af,ai,ae,t0,t3,t5]
  refine av.dec (fun e2=>?_) (fun e2=>?_)
  ·subst e2
   simp (disch:=omega) only [↓wr,seval,wq,ah,ag,ak,aa,ab,af,ai,ae,t0]
   rw[wD,T9 (by rw[← hia]; exact hy)]
   exact ⟨ho,fun id hid ho=>⟨rfl,ho⟩⟩
  rw[hl3] at hu
  have hel:bX H' (.sl id i (l.length - i) 2)=some (aS (l.drop i),[id]):=by
   obtain ⟨q,hq⟩:∃ q,l.length - i=q+1:=⟨l.length - i - 1,by omega⟩
   rw[hq,rH H' id i q 2 2 (aS l) hid (by rw[hl3]; omega)]
   rw[show (aS l).drop i=aS (l.drop i) from List.map_drop.symm,Uo (by simp[aS]; omega)]
  simp (disch:=omega) only [↓wr,seval,wq,ah,ag,ak,aa,ab,af,ai,ae,t0,t3,t5,hu,xN (sz:=2) (id:=id) (off:=0) (k:=l.length) (m:=i) (by omega),hel]
  refine ib bf.nil (N9 _) (by unfold aK aS; simp; omega) (by unfold aK aS; simp; omega) ?_
  intro rest H1 hor lr
  simp (disch:=omega) only [↓wr,seval,wq,ah,ag,ak,aa,ab,af,ai,ae,t0,t3,t5,hu,sQ (sz:=2) (id:=id) (off:=0) (k:=l.length) (m:=i) (by omega),bK]
  intro q hq
  have hidr:owner rest≠some id:=(lr id (by rw[hid]; simp) (by simp[owner])).2
  have hid1:H1 id=.arr 2 (aS l):=by rw[(lr id (by rw[hid]; simp) (by simp[owner])).1,hid]
  have hqid:¬ id=q:=by rintro rfl; rw[hid1] at hq; simp at hq
  simp (disch:=omega) only [↓wr,seval,wq,ah,ag,ak,aa,ab,af,ai,ae,cb]
  rw[vL _ _ _ _ _ _ _ _ _ _ (by rfl)]
  simp (disch:=omega) only [↓wr,seval,wq,ah,ag,ak,aa,ab,af,ai,ae,hqid,hid1,hl3]
  refine ⟨⟨by omega,by unfold aK; omega,by unfold aK; omega⟩,fun n2 hn2=>?_⟩
  try rw[Vj]
  have n2q:¬ n2=q:=by rintro rfl; simp at hn2
  rw[T6 n2q] at hn2
  have n2id:¬ n2=id:=by rintro rfl; rw[hid1] at hn2; simp at hn2
  have hor3:=((hor.fresh (o:=.arr 2 [[gi x.aH,gi x.dot]]) hq).other (o:=.dead) hidr).fresh (m:=n2) (o:=.arr 2 (List.take i (aS l) ++ [[gi x.aH,gi x.dot]])) (by simp[View.set,n2q,n2id,hn2])
  have ho3:bf (((H1.set q (.arr 2 [[gi x.aH,gi x.dot]])).set id .dead).set n2 (.arr 2 (List.take i (aS l) ++ [[gi x.aH,gi x.dot]]))) (.sl n2 0 (i+1) 2) 2 (List.take i (aS l) ++ [[gi x.aH,gi x.dot]]):=.inr ⟨n2,by simp[hl3]; omega,by simp[View.set]⟩
  have hk3:∀ a,H' a≠.dead→a≠id→(((H1.set q (.arr 2 [[gi x.aH,gi x.dot]])).set id .dead).set n2 (.arr 2 (List.take i (aS l) ++ [[gi x.aH,gi x.dot]]))) a=H' a∧a≠n2:=fun a ha hai=>by
   have h1:=(lr a ha (by simp[owner])).1
   have aq:¬ a=q:=by rintro rfl; rw[hq] at h1; exact ha h1.symm
   have an:¬ a=n2:=by rintro rfl; rw[hn2] at h1; exact ha h1.symm
   exact ⟨by simp[View.set,aq,an,hai,h1],an⟩
  generalize ((H1.set q (.arr 2 [[gi x.aH,gi x.dot]])).set id .dead).set n2 (.arr 2 (List.take i (aS l) ++ [[gi x.aH,gi x.dot]]))=H3 at hor3 ho3 hk3 ⊢
  rw[Vb] at hor3
  obtain ⟨rd,he⟩:=Nk hor3
  simp (disch:=omega) only [↓wr,seval,wq,ah,ag,ak,aa,ab,af,ai,ae,he]
  refine ib ho3 (N9 _) (by unfold aK aS; simp; omega) (by unfold aK aS; simp; omega) ?_
  intro r H4 o4 l4
  simp (disch:=omega) only [↓wr,seval,wq,ah,ag,ak,aa,ab,af,ai,ae]
  refine ⟨?_,fun a ha hau=>?_⟩
  ·rw[wD,T6 (by rw[← hia,hy]; simpa using e2),← hia]
   simpa [aS,bK,List.map_take,List.map_drop] using o4
  ·obtain ⟨k1,k2⟩:=hk3 a ha (by rintro rfl; exact hau (by rw[hu]; rfl))
   have:=l4 a (by rw[k1]; exact ha) (by simp[owner]; exact fun h=>k2 h.symm)
   exact ⟨by rw[this.1,k1],this.2⟩
 ·simp (disch:=omega) only [↓wr,seval,wq,ah,ag,ak,aa,ab,af,ai,ae,t0,t3,t5,hlen]
  refine av.dec (fun h=>absurd h hc) (fun _=>?_)
  have hil:i=l.length:=by omega
  subst hil
  have hput:aS (ep l x)=aS l ++ [[gi x.aH,gi x.dot]]:=by
   rw[wD,show dT l x=l.length by omega,UF (Ug _),T6 (by simp),List.take_length,List.drop_length]
   simp[aS,bK]
  rcases ho with ⟨e,k0,hu⟩ | ⟨id,hu,hid⟩
  ·have hl0:l=[]:=by simpa [aS] using e
   subst hl0
   simp (disch:=omega) only [↓wr,seval,wq,ah,ag,ak,aa,ab,af,ai,ae,t0,t3,t5,hu,show ∀ k,dQ 2 (.emp k) (some (gi 0)) none=some (.emp k,.none,[]) from fun k=>rfl,show ∀ k,dQ 2 (.emp k) none (some (gi 0))=some (.emp k,.none,[]) from fun k=>rfl]
   refine pN bf.nil ?_
   simp (disch:=omega) only [↓wr,seval,wq,ah,ag,ak,aa,ab,af,ai,ae,t0,t3,t5,hu,show ∀ k,dQ 2 (.emp k) none (some (gi 0))=some (.emp k,.none,[]) from fun k=>rfl,bK]
   intro q hq
   simp (disch:=omega) only [↓wr,seval,wq,ah,ag,ak,aa,ab,af,ai,ae,cb]
   refine ib (sz:=2) (u:=.emp k0) bf.nil (by simp[aX]) (by unfold aK; simp) (by unfold aK; simp) ?_
   intro r H4 o4 l4
   simp (disch:=omega) only [↓wr,seval,wq,ah,ag,ak,aa,ab,af,ai,ae]
   refine pN o4 ?_
   simp (disch:=omega) only [↓wr,seval,wq,ah,ag,ak,aa,ab,af,ai,ae]
   exact ⟨by rw[hput]; exact o4,hu ▸ Left.behind hq l4⟩
  ·rw[show (aS l).length=l.length by simp[aS]] at hu
   simp (disch:=omega) only [↓wr,seval,wq,ah,ag,ak,aa,ab,af,ai,ae,t0,t3,t5,hu,xN (sz:=2) (id:=id) (off:=0) (k:=l.length) (m:=l.length) (by omega),sQ (sz:=2) (id:=id) (off:=0) (k:=l.length) (m:=l.length) (by omega)]
   rw[Nat.sub_self,show bX H' (.sl id l.length 0 2)=some ([],[]) from rfl]
   simp (disch:=omega) only [↓wr,seval,wq,ah,ag,ak,aa,ab,af,ai,ae]
   refine pN bf.nil ?_
   simp (disch:=omega) only [↓wr,seval,wq,ah,ag,ak,aa,ab,af,ai,ae,t0,t3,t5,hu,sQ (sz:=2) (id:=id) (off:=0) (k:=l.length) (m:=l.length) (by omega),bK]
   intro q hq
   simp (disch:=omega) only [↓wr,seval,wq,ah,ag,ak,aa,ab,af,ai,ae,cb]
   have ho2:bf H' (.sl id 0 l.length 2) 2 (aS l):=.inr ⟨id,by simp[aS],hid⟩
   refine ib (sz:=2) (ho2.fresh hq) (by simp[aX]) (by unfold aK aS; simp; omega) (by unfold aK aS; simp; omega) ?_
   intro r H4 o4 l4
   simp (disch:=omega) only [↓wr,seval,wq,ah,ag,ak,aa,ab,af,ai,ae]
   refine pN o4 ?_
   simp (disch:=omega) only [↓wr,seval,wq,ah,ag,ak,aa,ab,af,ai,ae]
   exact ⟨by rw[hput]; exact o4,hu ▸ Left.behind hq l4⟩
def aM (g:aw) (r:Int):List Int:=if r = -1 then [-1 - g.start] else (aB g r).right
def bL (g:aw) (x:aI):Int × Bool:=if x.dot=(aM g x.aH).length then (0,false) else ((aM g x.aH).getD x.dot.toNat 0,true)
def oU:SF:=⟨.seq (ao [cO 2 0,((some 4),.op (.bP (.val (.emp 1))))]) <|
 .seq (.seq (ao [aj 5 1,aQ 6 .eql 5 (-1)]) <|
 .cond (.tmp 6) (.seq (ao [aD 7 3 2,ay 8 7,((some 9),.op (.arith .sub (.val (.val (.int .i64 (-1)))) (.tmp 8))),((some 10),.op (.cw 1 1 [(.val (.int .i64 0))] [(0,(.tmp 9))])),aj 4 10]) <|
 .ret) (.skip)) <|
 .seq (ao [aD 11 2 2,ay 12 11,aj 13 1,aR 14 3 12 13,aD 15 1 14,ay 16 15,aj 4 16]) <|
 .ret,
 [.tmp 4],17⟩
theorem uc:aU Tryz.prog 55 [2]=some oU:=by kernel_rfl
def qA:SF:=⟨.seq (ao [cO 2 0,cO 3 1,bj 4 0,bH 5 false]) <|
 .seq (ao [bp 7 4 2,aD 8 0 3,ay 9 8,bD 10 55 [7,9],aj 6 10]) <|
 .seq (.seq (ao [aD 11 1 3,ay 12 11,aj 13 6,aV 14 13,bg 15 .eql 12 14]) <|
 .cond (.tmp 15) (.seq (ao [bj 4 0,bH 5 false]) <|
 .ret) (.skip)) <|
 .seq (ao [aj 16 6,aD 17 1 3,ay 18 17,aR 19 1 16 18,ay 20 19,aj 4 20,bH 5 true]) <|
 .ret,
 [.tmp 4,.tmp 5],21⟩
theorem uS:aU Tryz.prog 51 [2,3]=some qA:=by kernel_rfl
theorem CA (g:aw) (hs : -100≤g.start∧g.start≤100) (r:Int) (hr : -1≤r∧r < (g.rules.length:Int)):aG Tryz.prog 55 [.agg (au g),gi r] (encI (aM g r)):=by
 refine aG.of (by
  intro v hv; simp at hv
  rcases hv with rfl | rfl
  ·exact cT _ (dR g)
  ·exact .val _) ?_
 refine aC.of mixed uc ?_
 unfold aM
 simp (disch:=omega) only [↓wr,seval,wq,ah,ag,ak,aa,ab,af,ai,ae,oU,au,encS]
 refine av.eq (fun h1=>?_) (fun h1=>?_)
 ·simp (disch:=omega) only [↓wr,seval,wq,ah,ag,ak,aa,ab,af,ai,ae,au,encS]
  intro n
  rw[T9 h1]
  rintro h' hv
  refine er.fr (mw (l:=[-1 - g.start]) (.inr ⟨n,rfl,?_⟩))
  rw[hv]; simp[View.set]
 ·have hR:g.rules[r.toNat]?=some (aB g r):=by unfold aB; exact getD_some (by omega)
  rw[T6 h1]
  generalize aB g r=R at hR
  simp (disch:=omega) only [↓wr,seval,wq,ah,ag,ak,aa,ab,af,ai,ae,au,encS,T8,hR,Ue,aP]
  intro h' _
  exact .tree _ (fM R.right)
theorem MS (g:aw) (hs : -100≤g.start∧g.start≤100) (x:aI) (hx : -1≤x.aH∧x.aH < (g.rules.length:Int)) (hd:0≤x.dot∧x.dot≤(aM g x.aH).length) (hl:(aM g x.aH).length≤1000) :
  aG Tryz.prog 51 [.agg (au g),.agg (bK x)] (.bE [gi (bL g x).1,gb (bL g x).2]):=by
 have h1:=CA g hs x.aH hx
 refine aG.tree (by
  intro v hv; simp at hv
  rcases hv with rfl | rfl
  ·exact cT _ (dR g)
  ·exact cT _ fun v hv=>by simp[bK] at hv; rcases hv with rfl | rfl <;> exact .val _) (.bE _ fun i hi=>by
   match i,hi with
   | 0,_=>exact .val _
   | 1,_=>exact .val _) fun H=>?_
 refine aC.of mixed uS ?_
 simp only[au,encS,encI] at h1
 unfold bL
 simp (disch:=omega) only [↓wr,seval,wq,ah,ag,ak,aa,ab,af,ai,ae,qA,au,encS,bK]
 refine aE.pure h1 (by kernel_rfl) ?_
 generalize aM g x.aH=R at hd hl ⊢
 simp (disch:=omega) only [↓wr,seval,wq,ah,ag,ak,aa,ab,af,ai,ae,bK]
 refine av.eq (fun h2=>?_) (fun h2=>?_)
 ·simp (disch:=omega) only [↓wr,seval,wq,ah,ag,ak,aa,ab,af,ai,ae]
  rw[T9 h2]
 ·have hg:R[x.dot.toNat]?=some (R.getD x.dot.toNat 0):=getD_some (by omega)
  simp (disch:=omega) only [↓wr,seval,wq,ah,ag,ak,aa,ab,af,ai,ae,bK,T8,hg,Ue]
  rw[T6 h2]
theorem eY {a b:aI} : cH a b=true↔a.aH < b.aH∨a.aH=b.aH∧a.dot < b.dot:=by
 simp[cH]
theorem nF {a b c:aI} (h:cH a b=true) (k:cH b c=true):cH a c=true:=by
 rw[eY] at h k ⊢; omega
theorem kU {a:aI} : cH a a=false:=by
 cases h:cH a a with
 | false=>rfl
 | true=>rw[eY] at h; omega
theorem Ix {a b:aI} (h:cH a b=true):cH b a=false:=by
 cases k:cH b a with
 | false=>rfl
 | true=>have:=nF h k; rw[kU] at this; exact absurd this (by simp)
theorem vS {a b:aI} (h:cH a b=false) (hne:¬ a=b):cH b a=true:=by
 rw[eY]
 have h1:¬ cH a b=true:=by simp[h]
 rw[eY] at h1
 obtain ⟨ar,ad⟩:=a
 obtain ⟨br,bd⟩:=b
 simp only[aI.mk.injEq] at hne
 simp only at h1 ⊢
 omega
abbrev cx (l:List aI):Prop:=l.Pairwise fun a b=>cH a b=true
theorem ju:∀ {l:List aI} {x y:aI},y∈ep l x↔y=x∨y∈l
 | [],x,y=>by simp[ep]
 | z :: l,x,y=>by
  rw[ep]
  split
  ·simp only[Uk,ju (l:=l)]
   constructor
   ·rintro (h | h | h) <;> simp[h]
   ·rintro (h | h | h) <;> simp[h]
  ·split
   ·rename_i h; subst h; simp
   ·simp
theorem rF:∀ {l:List aI} {x:aI},cx l→cx (ep l x)
 | [],x,_=>by simp[ep,cx]
 | z :: l,x,h=>by
  rw[cx,Vi] at h
  rw[ep]
  split
  ·rename_i hz
   rw[cx,Vi]
   refine ⟨fun y hy=>?_,rF h.2⟩
   rcases ju.1 hy with rfl | hy
   ·exact hz
   ·exact h.1 y hy
  ·rename_i hz
   split
   ·exact Vi.2 h
   ·rename_i hne
    have hxz:=vS (by simpa using hz) hne
    rw[cx,Vi]
    refine ⟨fun y hy=>?_,Vi.2 h⟩
    rcases Uk.1 hy with rfl | hy
    ·exact hxz
    ·exact nF hxz (h.1 y hy)
theorem Ef:∀ (l:List aI) (x:aI),(ep l x).length=l.length∨(ep l x).length=l.length+1
 | [],x=>.inr rfl
 | z :: l,x=>by
  rw[ep]
  split
  ·rcases Ef l x with h | h <;> simp[h]
  ·split <;> simp
theorem BX:∀ {l:List aI} {x:aI},cx l→x∈l→ep l x=l
 | [],x,_,h=>by simp at h
 | z :: l,x,hs,h=>by
  rw[cx,Vi] at hs
  rw[ep]
  rcases Uk.1 h with rfl | h
  ·rw[T6 (by simp[kU]),T9 rfl]
  ·rw[T9 (hs.1 x h),BX hs.2 h]
theorem Cz:∀ {l:List aI} {x:aI},x ∉ l→(ep l x).length=l.length+1
 | [],x,_=>rfl
 | z :: l,x,h=>by
  simp only[Uk,not_or] at h
  rw[ep]
  split
  ·simp[Cz h.2]
  ·rw[T6 (fun e=>h.1 e.symm)]; rfl
theorem Es:∀ {l:List aI} {x:aI},(∀ y∈l,cH y x=true)→ep l x=l ++ [x]
 | [],x,_=>rfl
 | z :: l,x,h=>by
  rw[ep,T9 (h z (by simp)),Es fun y hy=>h y (by simp[hy])]; rfl
theorem yR:∀ {a b:List aI},cx a→cx b→(∀ x,x∈a↔x∈b)→a=b
 | [],[],_,_,_=>rfl
 | [],y :: b,_,_,h=>by have:=(h y).2 (by simp); simp at this
 | x :: a,[],_,_,h=>by have:=(h x).1 (by simp); simp at this
 | x :: a,y :: b,ha,hb,h=>by
  rw[cx,Vi] at ha hb
  have hxy:x=y:=by
   have h1:=(h x).1 (by simp)
   have h2:=(h y).2 (by simp)
   rcases Uk.1 h1 with h1 | h1
   ·exact h1
   ·rcases Uk.1 h2 with h2 | h2
    ·exact h2.symm
    ·have:=nF (ha.1 y h2) (hb.1 x h1)
     rw[kU] at this; exact absurd this (by simp)
  subst hxy
  congr 1
  refine yR ha.2 hb.2 fun z=>?_
  have hz:=h z
  simp only[Uk] at hz
  constructor
  ·intro hm
   rcases hz.1 (.inr hm) with rfl | h
   ·have:=ha.1 z hm; rw[kU] at this; exact absurd this (by simp)
   ·exact h
  ·intro hm
   rcases hz.2 (.inr hm) with rfl | h
   ·have:=hb.1 z hm; rw[kU] at this; exact absurd this (by simp)
   ·exact h
theorem Ga:∀ (l:List Int) (a n:Int),l.Pairwise (· < ·)→(∀ x∈l,a≤x∧x < a+n)→0≤n→(l.length:Int)≤n
 | [],a,n,_,_,hn=>by simpa using hn
 | x :: l,a,n,hp,hm,hn=>by
  rw[Vi] at hp
  have h1:=hm x (by simp)
  have:=Ga l (x+1) (a+n - (x+1)) hp.2 (fun y hy=>by have:=hp.1 y hy; have:=hm y (by simp[hy]); omega) (by omega)
  simp only[Um]; omega
def cq (g:aw) (x:aI):Prop:=(-1≤x.aH∧x.aH < (g.rules.length:Int))∧0≤x.dot∧x.dot≤(aM g x.aH).length
theorem eU {g:aw} (hf:g.dt) {r:Int} (h : -1≤r∧r < (g.rules.length:Int)):(aM g r).length≤6:=by
 unfold aM
 split
 ·simp
 ·have hR:g.rules[r.toNat]?=some (aB g r):=by unfold aB; exact getD_some (by omega)
  exact hf.right _ (Ub hR)
theorem iv {g:aw} (hf:g.dt) {l:List aI} (hs:cx l) (hl:∀ x∈l,cq g x):l.length≤287:=by
 have hd:∀ x∈l,0≤x.dot∧x.dot≤6:=fun x hx=>by
  have h1:=hl x hx
  have:=eU hf h1.1
  exact ⟨h1.2.1,by have:=h1.2.2; omega⟩
 have h1:(l.map fun x=>(x.aH+1) * 7+x.dot).Pairwise (· < ·):=by
  rw[VX]
  refine List.Pairwise.imp_of_mem ?_ hs
  intro a b ha hb hab
  rw[eY] at hab
  have:=hd a ha; have:=hd b hb
  omega
 have:=Ga _ 0 287 h1 (fun y hy=>by
  obtain ⟨x,hx,rfl⟩:=Ur.1 hy
  have h2:=(hl x hx).1
  have:=hd x hx; have:=hf.rules
  omega) (by omega)
 simp at this
 omega
inductive mr (g:aw) (l:List aI):aI→Prop
 | base {x:aI} : x∈l→mr g l x
 | step {x:aI} {s:Int} {k:Nat} {R:aW} : mr g l x→bL g x=(s,true)→s < 0→g.rules[k]?=some R→R.left = -1 - s→mr g l ⟨k,0⟩
theorem mr.has {g:aw} {l:List aI} (hl:∀ x∈l,cq g x) {x:aI} (h:mr g l x):cq g x:=by
 induction h with
 | base h=>exact hl _ h
 | step _ _ _ hk _ _ =>
  have:=(Uj.1 hk).1
  exact ⟨⟨by simp only; omega,by simp only; omega⟩,by simp only; omega,by simp only; omega⟩
def FO (g:aw):List aI:=(List.range (g.rules.length+1)).flatMap fun (r:Nat)=>(List.range 7).map fun (d:Nat)=>(⟨(r:Int) - 1,(d:Int)⟩:aI)
theorem Ke {g:aw} (hf:g.dt) {x:aI} (h:cq g x):x∈FO g:=by
 have:=eU hf h.1
 obtain ⟨⟨h1,h2⟩,h3,h4⟩:=h
 simp only[FO,VQ,Ur,UR]
 refine ⟨(x.aH+1).toNat,by omega,x.dot.toNat,by omega,?_⟩
 obtain ⟨r,d⟩:=x
 simp only at h1 h2 h3 h4 this
 simp only[aI.mk.injEq]; omega
theorem rV:∀ (l a:List aI),cx a→cx (l.foldl ep a)∧∀ x,x∈l.foldl ep a↔x∈a∨x∈l
 | [],a,h=>⟨h,fun x=>by simp⟩
 | y :: l,a,h=>by
  obtain ⟨h1,h2⟩:=rV l (ep a y) (rF h)
  refine ⟨h1,fun x=>?_⟩
  rw[Uu,h2,ju,Uk]
  constructor
  ·rintro ((h | h) | h) <;> simp[h]
  ·rintro (h | h | h) <;> simp[h]
open Classical in
noncomputable def cr (g:aw) (l:List aI):List aI:=((FO g).filter fun x=>decide (mr g l x)).foldl ep []
theorem lh (g:aw) (l:List aI):cx (cr g l):=(rV _ [] .nil).1
theorem c7 {g:aw} (hf:g.dt) {l:List aI} (hl:∀ x∈l,cq g x) {x:aI} : x∈cr g l↔mr g l x:=by
 classical
 rw[cr,(rV _ [] .nil).2]
 simp only[List.not_mem_nil,false_or,UQ,Ul]
 exact ⟨fun h=>h.2,fun h=>⟨Ke hf (h.has hl),h⟩⟩
theorem G1 {g:aw} (hf:g.dt) {l o:List aI} (hl:∀ x∈l,cq g x) (hs:cx o) (h1:∀ x∈o,mr g l x) (h2:∀ x∈l,x∈o)
  (h3:∀ x∈o,∀ (s:Int) (k:Nat) (R:aW),bL g x=(s,true)→s < 0→g.rules[k]?=some R→R.left = -1 - s→(⟨k,0⟩:aI)∈o):cr g l=o:=by
 refine yR (lh g l) hs fun x=>?_
 rw[c7 hf hl]
 refine ⟨fun h=>?_,h1 x⟩
 induction h with
 | base h=>exact h2 _ h
 | step _ hn hs hk hL ih=>exact h3 _ ih _ _ _ hn hs hk hL
theorem Ni {g:aw} (hf:g.dt) {l:List aI} (hl:∀ x∈l,cq g x):(cr g l).length≤287 :=
 iv hf (lh g l) fun _ hx=>((c7 hf hl).1 hx).has hl
def bu (g:aw) (l:List aI) (s:Int):List aI:=(l.filter fun x=>decide (bL g x=(s,true))).map fun x=>⟨x.aH,x.dot+1⟩
theorem kC {g:aw} {l:List aI} {s:Int} {y:aI} : y∈bu g l s↔∃ x∈l,bL g x=(s,true)∧y=⟨x.aH,x.dot+1⟩:=by
 simp only[bu,Ur,UQ,Ul]
 constructor
 ·rintro ⟨x,⟨h1,h2⟩,rfl⟩; exact ⟨x,h1,h2,rfl⟩
 ·rintro ⟨x,h1,h2,rfl⟩; exact ⟨x,⟨h1,h2⟩,rfl⟩
theorem Eo {g:aw} {l:List aI} (s:Int) (h:cx l):cx (bu g l s):=by
 rw[cx,bu,VX]
 refine (h.filter _).imp ?_
 intro a b hab
 rw[eY] at hab ⊢
 simp only; omega
theorem tS {g:aw} {x:aI} {s:Int} (h:bL g x=(s,true)):x.dot≠(aM g x.aH).length∧(aM g x.aH).getD x.dot.toNat 0=s:=by
 unfold bL at h
 split at h
 ·simp at h
 ·rename_i hd; exact ⟨hd,by simpa using h⟩
theorem Hk {g:aw} {l:List aI} {s:Int} (hl:∀ x∈l,cq g x):∀ y∈bu g l s,cq g y:=by
 intro y hy
 obtain ⟨x,hx,hn,rfl⟩:=kC.1 hy
 have h1:=hl x hx
 have h2:=(tS hn).1
 exact ⟨h1.1,by simp only; have:=h1.2; omega,by simp only; have:=h1.2; omega⟩
theorem MM {g:aw} {l:List aI} (hs:cx l) {i:Nat} {x:aI} (hx:l[i]?=some x) (s:Int) :
  bu g (l.take (i+1)) s=if bL g x=(s,true) then ep (bu g (l.take i) s) ⟨x.aH,x.dot+1⟩ else bu g (l.take i) s:=by
 have e:l.take (i+1)=l.take i ++ [x]:=by rw[Uw,hx]; rfl
 rw[e]
 split
 ·rename_i h
  rw[Es]
  ·simp[bu,h]
  ·intro y hy
   obtain ⟨z,hz,_,rfl⟩:=kC.1 hy
   have h2:cx (l.take (i+1)):=hs.sublist (List.take_sublist _ _)
   rw[e,cx,List.pairwise_append] at h2
   have:=h2.2.2 z hz x (by simp)
   rw[eY] at this ⊢
   simp only; omega
 ·rename_i h
  simp[bu,h]
theorem sB {g:aw} {l:List aI} {s:Int} : (bu g l s).length≤l.length:=by
 rw[bu,Uc]; exact UW _ _
structure aT where
 bh:List aI
 bm:List dC
 deriving DecidableEq
abbrev bz:aT:=⟨[],[]⟩
def aZ (g:aw) (i:Nat):Int:=if i < g.az.length then i else -1 - ((i:Int) - g.az.length)
def findD:List aT→List aI→Int
 | [],_=>-1
 | s :: l,k=>if s.bh=k then 0 else if findD l k < 0 then -1 else findD l k+1
theorem sx:∀ (l:List aT) (k:List aI),-1≤findD l k
 | [],_=>by simp[findD]
 | s :: l,k=>by
  have:=sx l k
  rw[findD]; split
  ·omega
  ·split <;> omega
theorem wb:∀ (l:List aT) (k:List aI),findD l k < l.length
 | [],_=>by simp[findD]
 | s :: l,k=>by
  have:=wb l k
  rw[findD]; simp only[Um]; split
  ·omega
  ·split <;> omega
theorem GH:∀ (l:List aT) (k:List aI) (i:Nat),findD l k=i→∃ s,l[i]?=some s∧s.bh=k
 | [],_,i,h=>by simp[findD] at h
 | s :: l,k,i,h=>by
  rw[findD] at h
  split at h
  ·rename_i e
   have:i=0:=by omega
   subst this
   exact ⟨s,rfl,e⟩
  ·split at h
   ·omega
   ·obtain ⟨j,rfl⟩:∃ j,i=j+1:=⟨i - 1,by omega⟩
    obtain ⟨t,h1,h2⟩:=GH l k j (by omega)
    exact ⟨t,by simpa using h1,h2⟩
theorem Gm:∀ (l:List aT) (k:List aI),findD l k < 0→∀ s∈l,s.bh≠k
 | [],_,_,s,hs=>by simp at hs
 | t :: l,k,h,s,hs=>by
  rw[findD] at h
  split at h
  ·omega
  ·rename_i hne
   have hl:findD l k < 0:=by
    split at h
    ·assumption
    ·omega
   rcases Uk.1 hs with rfl | hs
   ·exact hne
   ·exact Gm l k hl s hs
theorem Gr:∀ (l:List aT) (k:List aI) (i:Nat) (s:aT),l[i]?=some s→s.bh=k→(∀ j t,j < i→l[j]?=some t→t.bh≠k)→findD l k=i
 | [],_,_,_,h,_,_=>by simp at h
 | t :: l,k,0,s,h,hk,_=>by simp at h; subst h; simp[findD,hk]
 | t :: l,k,i+1,s,h,hk,hn=>by
  have h0:=hn 0 t (by omega) rfl
  have:=Gr l k i s (by simpa using h) hk fun j u hj hu=>hn (j+1) u (by omega) (by simpa using hu)
  rw[findD,T6 h0,this,T6 (by omega)]; omega
theorem Cs:∀ (l:List aT) (k:List aI),(∀ s∈l,s.bh≠k)→findD l k = -1
 | [],_,_=>rfl
 | t :: l,k,h=>by
  have:=Cs l k fun s hs=>h s (by simp[hs])
  rw[findD,T6 (h t (by simp)),this]; rfl
def c8 (g:aw) (l:List aI) (at_:Nat) (out:List aT) (i:Nat):List aT :=
 if bu g l (aZ g i)=[] then out else
 if findD out (bu g l (aZ g i)) < 0 then (out ++ [(⟨bu g l (aZ g i),[]⟩:aT)]).modify at_ fun s=>(⟨s.bh,s.bm ++ [⟨aZ g i,out.length⟩]⟩:aT)
 else out.modify at_ fun s=>(⟨s.bh,s.bm ++ [⟨aZ g i,findD out (bu g l (aZ g i))⟩]⟩:aT)
noncomputable def AW (g:aw) (at_:Nat) (out:List aT) (n:Nat):List aT:=(List.range n).foldl (c8 g (cr g (out.getD at_ bz).bh) at_) out
noncomputable def fh (g:aw):Nat→Nat→List aT→List aT × Int
 | 0,_,out=>(out,0)
 | f+1,at_,out=>if at_ < out.length then
   (if 300 < (AW g at_ out (g.az.length+g.ax.length)).length then ([],5) else fh g f (at_+1) (AW g at_ out (g.az.length+g.ax.length)))
  else (out,0)
def dO:List aT:=[⟨[⟨-1,0⟩],[]⟩]
abbrev BV:=BitVec 32
def eo (n:Int):BV:=if 0≤n∧n≤31 then BitVec.twoPow 32 n.toNat else 0
theorem Mm {a b:BV} (h:∀ i,i < 32→a.getLsbD i=b.getLsbD i):a=b:=BitVec.eq_of_getLsbD_eq fun i hi=>h i hi
def nB (a b:BV):Prop:=∀ i,a.getLsbD i=true→b.getLsbD i=true
def fe (null:List Bool) (first:List BV) (rest:BV):List Int→BV
 | []=>rest
 | s :: l=>if 0≤s then eo s else if null.getD (-1 - s).toNat false=true then first.getD (-1 - s).toNat 0 ||| fe null first rest l else first.getD (-1 - s).toNat 0
def j0 (null:List Bool) (fs:List BV) (r:aW):List BV:=fs.set r.left.toNat (fs.getD r.left.toNat 0 ||| fe null fs 0 r.right)
theorem EI (null:List Bool) (fs:List BV) (r:aW):(j0 null fs r).length=fs.length:=by simp[j0]
def sq (g:aw) (null:List Bool) (fs:List BV):List BV:=g.rules.foldl (j0 null) fs
theorem Et (null:List Bool):∀ (l:List aW) (fs:List BV),(l.foldl (j0 null) fs).length=fs.length
 | [],_=>rfl
 | r :: l,fs=>by rw[Uu,Et null l,EI]
theorem K8 (g:aw) (null:List Bool) (fs:List BV):(sq g null fs).length=fs.length:=Et _ _ _
def cJ (g:aw) (null:List Bool):List BV:=iter (sq g null) g.ax.length (List.replicate g.ax.length 0)
theorem yS {f:List BV→List BV} (hf:∀ l,(f l).length=l.length):∀ (n:Nat) (l:List BV),(iter f n l).length=l.length
 | 0,_=>rfl
 | n+1,l=>by rw[iter,yS hf n,hf]
theorem BD (g:aw) (null:List Bool):(cJ g null).length=g.ax.length:=by
 rw[cJ,yS (K8 g null)]; simp
def kg:List dC→Int→Int
 | [],_=>-1
 | e :: l,s=>if e.sym=s then e.to else kg l s
def lJ (a:List aT):Int→List Int→Int × Bool
 | at_,[]=>(at_,true)
 | at_,s :: l=>if 0≤kg (a.getD at_.toNat bz).bm s∧kg (a.getD at_.toNat bz).bm s < a.length then lJ a (kg (a.getD at_.toNat bz).bm s) l else (0,false)
def jY (a:List aT) (at_:Int) (l:List Int):Int × Bool:=if at_ < 0∨(a.length:Int)≤at_ then (0,false) else lJ a at_ l
abbrev Sets:=List (List BV)
theorem fI {α:Type} (l:List α) (i j:Nat) (x d:α):(l.set i x).getD j d=if i=j∧i < l.length then x else l.getD j d:=by
 simp only[T0,Vm]
 by_cases e:i=j
 ·subst e
  by_cases h:i < l.length
  ·simp[h]
  ·simp[h]
 ·simp[e]
def jh (g:aw) (x:aI):List Int:=if 0≤x.aH then (aB g x.aH).right.drop (x.dot+1).toNat else []
inductive oM (g:aw) (null:List Bool) (a:List aT) (ls:List (List aI)):Nat→aI→Nat→Prop
 | start:(⟨-1,0⟩:aI)∈ls.getD 0 []→oM g null a ls 0 ⟨-1,0⟩ g.az.length
 | move {i:Nat} {x:aI} {t:Nat} {s:Int} : oM g null a ls i x t→bL g x=(s,true)→(⟨x.aH,x.dot+1⟩:aI)∈ls.getD (jY a i [s]).1.toNat []→oM g null a ls (jY a i [s]).1.toNat ⟨x.aH,x.dot+1⟩ t
 | begin {i:Nat} {x:aI} {t u:Nat} {s:Int} {k:Nat} : oM g null a ls i x t→bL g x=(s,true)→s < 0→k < g.rules.length→(aB g k).left = -1 - s→(⟨k,0⟩:aI)∈ls.getD i [] →
  (fe null (cJ g null) (BitVec.twoPow 32 t) (jh g x)).getLsbD u=true→oM g null a ls i ⟨k,0⟩ u
theorem oM.mem {g:aw} {null:List Bool} {a:List aT} {ls:List (List aI)} {i:Nat} {x:aI} {t:Nat} (h:oM g null a ls i x t):x∈ls.getD i []:=by
 cases h <;> assumption
section
variable {g:aw} {null:List Bool} {a:List aT} {ls:List (List aI)}
end
theorem rv {g:aw} (hf:g.dt) : -100≤g.start∧g.start≤100:=by
 have:=hf.iX; have:=hf.start; have:=hf.ax; omega
theorem Am (g:aw) (hf:g.dt) (x:aI) (hx:cq g x):aG Tryz.prog 51 [.agg (au g),.agg (bK x)] (.bE [gi (bL g x).1,gb (bL g x).2]) :=
 MS g (rv hf) x hx.1 hx.2 (by have:=eU hf hx.1; omega)
theorem qc {l:List aI} {i:Nat} {y:aI} (h:l[i]?=some y):(aS l).getD i []=[gi y.aH,gi y.dot]:=by simp[aS,T0,h,bK]
theorem bF (l:List aI):(aS l).length=l.length:=by simp[aS]
theorem wL {g:aw} {x:aI} {s:Int} {b:Bool} (hf:g.dt) (hx:cq g x) (h:bL g x=(s,b)) : -1000≤s∧s≤1000:=by
 have hsym:∀ s∈aM g x.aH,-1000≤s∧s≤1000:=by
  intro s hs
  unfold aM at hs
  split at hs
  ·simp at hs; subst hs; have:=rv hf; omega
  ·have hR:g.rules[x.aH.toNat]?=some (aB g x.aH):=by unfold aB; exact getD_some (by have:=hx.1; omega)
   have h1:=hf.sym _ (Ub hR) s hs
   have:=hf.az; have:=hf.ax
   unfold iz at h1
   split at h1 <;> simp at h1 <;> omega
 unfold bL at h
 split at h
 ·simp at h; omega
 ·rename_i hd
  simp only[Ua] at h
  have hlt:x.dot.toNat < (aM g x.aH).length:=by have:=hx.2; omega
  rw[← h.1]
  exact hsym _ (Ub (getD_some hlt))
def ln:SC :=
 .seq (.seq (ao [aj 12 6,aj 13 1,aV 14 13,bg 15 .lss 12 14]) <|
 .cond (.tmp 15) (.skip) (.exit 0)) <|
 .seq (.block 1 (ao [aj 18 5,aj 19 1,aj 20 6,aR 21 2 19 20,bp 22 2 21,bD 23 108 [18,22],aj 5 23])) <|
 ao [aj 16 6,aQ 17 .add 16 1,aj 6 17]
def iF:SC :=
 .seq (.seq (.region false [⟨none,[aj 41 9,aj 42 41]⟩,⟨(some (42,true)),[aj 43 8,aQ 44 .lss 43 0]⟩,⟨none,[eS 45 42 44,aj 46 45]⟩,⟨(some (46,true)),[aj 47 11,aD 48 2 2,ay 49 48,aV 50 49,bg 51 .lss 47 50]⟩,⟨none,[eS 52 46 51]⟩]) <|
 .cond (.tmp 52) (.skip) (.exit 4)) <|
 .seq (.block 5 (.seq (ao [aD 55 2 2,ay 56 55,aj 57 11,aR 58 3 56 57,aD 59 0 58,ay 60 59,aj 61 8,((some 62),.op (.arith .sub (.val (.val (.int .i64 (-1)))) (.tmp 61))),bg 63 .eql 60 62]) <|
 .cond (.tmp 63) (ao [aj 64 5,aj 65 11,((some 66),.op (.build [(.val (.int .i64 0)),(.val (.int .i64 0))] [(0,1,(.tmp 65))])),bD 67 108 [64,66],aj 5 67]) (.skip))) <|
 ao [aj 53 11,aQ 54 .add 53 1,aj 11 54]
def lu:SC :=
 .seq (.seq (ao [aj 24 7,aj 25 5,aV 26 25,bg 27 .lss 24 26]) <|
 .cond (.tmp 27) (.skip) (.exit 2)) <|
 .seq (.block 3 (.seq (ao [bp 31 4 2,aj 32 5,aj 33 7,aR 34 2 32 33,bp 35 2 34,bD 36 51 [31,35],aj 30 36,gP 37 0 30,gP 38 1 30,aj 8 37,aj 9 38]) <|
 .seq (ao [aj 39 5,aV 40 39,aj 10 40]) <|
 .seq (.seq (ao [bj 11 0]) <|
 .block 4 (.loop iF)) <|
 .seq (ao [aj 68 5,aV 69 68,aj 70 10,bg 71 .gtr 69 70]) <|
 .cond (.tmp 71) (ao [bj 7 (-1)]) (.skip))) <|
 ao [aj 28 7,aQ 29 .add 28 1,aj 7 29]
def nk:SF:=⟨.seq (ao [cO 2 0,((some 4),.op (.bP (.val (.emp 1))))]) <|
 .seq (ao [((some 5),.op (.bP (.val (.emp 1))))]) <|
 .seq (.seq (ao [bj 6 0]) <|
 .block 0 (.loop ln)) <|
 .seq (.seq (ao [bj 7 0]) <|
 .block 2 (.loop lu)) <|
 .seq (ao [aj 72 5,aj 4 72]) <|
 .ret,
 [.tmp 4],73⟩
theorem rS:aU Tryz.prog 60 [2]=some nk:=by kernel_rfl
def mV:SC :=
 .seq (.seq (ao [aj 11 8,aj 12 1,aV 13 12,bg 14 .lss 11 13]) <|
 .cond (.tmp 14) (.skip) (.exit 0)) <|
 .seq (.block 1 (.seq (ao [bp 18 4 3,aj 19 1,aj 20 8,aR 21 2 19 20,bp 22 2 21,bD 23 51 [18,22],aj 17 23,gP 24 0 17,gP 25 1 17,aj 9 24,aj 10 25]) <|
 .seq (.region false [⟨none,[aj 26 10,aj 27 26]⟩,⟨(some (27,true)),[aj 28 9,aj 29 2,bg 30 .eql 28 29]⟩,⟨none,[eS 31 27 30]⟩]) <|
 .cond (.tmp 31) (ao [aj 32 7,aj 33 1,aj 34 8,aR 35 2 33 34,aD 36 0 35,ay 37 36,aj 38 1,aj 39 8,aR 40 2 38 39,aD 41 1 40,ay 42 41,aQ 43 .add 42 1,((some 44),.op (.build [(.val (.int .i64 0)),(.val (.int .i64 0))] [(0,1,(.tmp 37)),(1,1,(.tmp 43))])),bD 45 108 [32,44],aj 7 45]) (.skip))) <|
 ao [aj 15 8,aQ 16 .add 15 1,aj 8 16]
def pf:SF:=⟨.seq (ao [cO 3 0,((some 6),.op (.bP (.val (.emp 1))))]) <|
 .seq (ao [((some 7),.op (.bP (.val (.emp 1))))]) <|
 .seq (.seq (ao [bj 8 0]) <|
 .block 0 (.loop mV)) <|
 .seq (ao [aj 46 7,aj 6 46]) <|
 .ret,
 [.tmp 6],47⟩
theorem uf:aU Tryz.prog 66 [3]=some pf:=by kernel_rfl
def na:SC :=
 .seq (.seq (ao [aj 11 5,aj 12 0,aV 13 12,bg 14 .lss 11 13]) <|
 .cond (.tmp 14) (.skip) (.exit 0)) <|
 .seq (.block 1 (.seq (ao [aj 17 0,aj 18 5,aR 19 2 17 18,bp 20 2 19,aj 21 1,aj 22 5,aR 23 2 21 22,bp 24 2 23,((some 25),.op (.old (.binOp .neq 33 (.tmp 20) (.tmp 24) 33) 4))]) <|
 .cond (.tmp 25) (.seq (ao [bH 4 false]) <|
 .ret) (.skip))) <|
 ao [aj 15 5,aQ 16 .add 15 1,aj 5 16]
def pb:SF:=⟨.seq (ao [bH 4 false]) <|
 .seq (.seq (ao [aj 6 0,aV 7 6,aj 8 1,aV 9 8,bg 10 .neq 7 9]) <|
 .cond (.tmp 10) (.seq (ao [bH 4 false]) <|
 .ret) (.skip)) <|
 .seq (.seq (ao [bj 5 0]) <|
 .block 0 (.loop na)) <|
 .seq (ao [bH 4 true]) <|
 .ret,
 [.tmp 4],26⟩
theorem ud:aU Tryz.prog 21 []=some pb:=by kernel_rfl
def ot:SF:=⟨.seq (ao [cO 2 0,bj 4 0]) <|
 .seq (.seq (ao [aj 5 1,aD 6 0 2,ay 7 6,aV 8 7,bg 9 .lss 5 8]) <|
 .cond (.tmp 9) (.seq (ao [aj 10 1,aj 4 10]) <|
 .ret) (.skip)) <|
 .seq (ao [aj 11 1,aD 12 0 2,ay 13 12,aV 14 13,bg 15 .sub 11 14,((some 16),.op (.arith .sub (.val (.val (.int .i64 (-1)))) (.tmp 15))),aj 4 16]) <|
 .ret,
 [.tmp 4],17⟩
theorem sR:aU Tryz.prog 65 [2]=some ot:=by kernel_rfl
def Sc (g:aw) (out:List aI) (x:aI):Prop:=∀ (s:Int) (k:Nat) (R:aW),bL g x=(s,true)→s < 0→g.rules[k]?=some R→R.left = -1 - s→(⟨k,0⟩:aI)∈out
def PY (g:aw) (l:List aI) (H:View) (m:Nat) (T:Env) (H':View):Prop:=∃ (i:Nat) (r:V) (out:List aI),m=(300 - out.length) * 1000+(300 - i)∧i≤out.length∧bf H' r 2 (aS out)∧dx H H' r∧cx out∧(∀ x∈out,mr g l x)∧(∀ x∈l,x∈out)∧(∀ j x,j < i→out[j]?=some x→Sc g out x) ∧
 T 2=.aO (au g) 0∧T 5=r∧T 7=gi i
set_option maxHeartbeats 8000000 in
theorem yX (g:aw) (hf:g.dt) (l:List aI) (hl:∀ x∈l,cq g x) (hn:l.length≤10000) (u:V) (H:View) (ho:bf H u 2 (aS l)):aC Tryz.prog 60 [.agg (au g),u] H fun r H'=>bf H' r 2 (aS (cr g l))∧dx H H' r:=by
 refine aC.of mixed rS ?_
 have hlen:cG u=some l.length:=by rw[ho.len]; simp[aS]
 have hru:=hf.rules
 simp (disch:=omega) only [↓wr,seval,wq,ah,ag,ak,aa,ab,af,ai,ae,nk,au,encS]
 refine bc.up l.length (fun i T H'=>∃ (r:V) (out:List aI),bf H' r 2 (aS out)∧dx H H' r∧cx out∧(∀ x,x∈out↔x∈l.take i)∧out.length≤287∧T 1=u∧T 2=.aO (au g) 0∧T 5=r∧T 6=gi i)
  ⟨.emp 1,[],.nil,.emp,.nil,by simp,by simp,rfl,rfl,rfl,rfl⟩ ?_
 rintro i k T H' hk ⟨r,out,o1,fr,hso,hm,hle,t1,t2,t5,t6⟩
 simp (disch:=omega) only [↓wr,seval,wq,ah,ag,ak,aa,ab,af,ai,ae,ln,t1,t2,t5,t6,hlen]
 refine av.dec (fun hc=>?_) (fun hc=>?_)
 ·have hy:l[i]?=some (l[i]'(by omega)):=T4 (by omega)
  have htk:l.take (i+1)=l.take i ++ [l[i]'(by omega)]:=by rw[Uw,hy]; rfl
  generalize l[i]'(by omega)=y at hy htk
  obtain ⟨id,hu,hid⟩:=ho.sl (by simp[aS]; omega)
  have hid':H' id=.arr 2 (aS l):=by rw[(fr id (by rw[hid]; simp)).1,hid]
  simp (disch:=omega) only [↓wr,seval,wq,ah,ag,ak,aa,ab,af,ai,ae,t1,t2,t5,t6,hu,hid',qc hy]
  refine ⟨by first | omega | (simp[aS]; omega),by first | omega | (simp[aS]; omega),?_⟩
  refine aE.ez ((AO r out (by omega) y H' o1).mono ?_)
  rintro r2 H2 ⟨o2,l2⟩
  simp (disch:=omega) only [↓wr,seval,wq,ah,ag,ak,aa,ab,af,ai,ae,t1,t2,t5,t6]
  have hmm:∀ x,x∈ep out y↔x∈l.take (i+1):=fun x=>by
   rw[ju,htk,Uy,hm,UT,or_comm]
  have hs2:=rF (x:=y) hso
  exact aN hk (by omega) ⟨r2,ep out y,o2,fr.step l2,hs2,hmm,iv hf hs2 (fun x hx=>hl x (List.mem_of_mem_take ((hmm x).1 hx))),t1,t2,rfl,rfl⟩
 rw[Uo (by omega)] at hm
 simp (disch:=omega) only [↓wr,seval,wq,ah,ag,ak,aa,ab,af,ai,ae,t1,t2,t5,t6]
 refine bc.intro (PY g l H) ((300 - out.length) * 1000+300)
  ⟨0,r,out,by omega,Vu _,o1,fr,hso,fun x hx=>.base ((hm x).1 hx),fun x hx=>(hm x).2 hx,fun j x hj=>by omega,t2,t5,rfl⟩ ?_
 clear o1 fr hso hm hle t1 t2 t5 t6 hc hk
 rintro m T1 H1 ⟨i,r,out,rfl,hi,o1,fr,hso,hcl,hba,hdn,t2,t5,t7⟩
 have hhas:∀ x∈out,cq g x:=fun x hx=>(hcl x hx).has hl
 have hle:=iv hf hso hhas
 have hlr:cG r=some out.length:=by rw[o1.len,bF]
 simp (disch:=omega) only [↓wr,seval,wq,ah,ag,ak,aa,ab,af,ai,ae,lu,t2,t5,t7,hlr]
 refine av.dec (fun hc=>?_) (fun hc=>?_)
 ·have hy:out[i]?=some (out[i]'(by omega)):=T4 (by omega)
  have hyH:=hhas _ (Ud (show i < out.length by omega))
  have hyC:=hcl _ (Ud (show i < out.length by omega))
  generalize out[i]'(by omega)=y at hy hyH hyC
  have h1:=Am g hf y hyH
  cases hny:bL g y with
  | mk s okb =>
  have hsb:=wL hf hyH hny
  rw[hny] at h1
  obtain ⟨id,hu,hid⟩:=o1.sl (by simp[aS]; omega)
  rw[bF] at hu
  simp only[au,encS,bK] at h1
  simp (disch:=omega) only [↓wr,seval,wq,ah,ag,ak,aa,ab,af,ai,ae,t2,t5,t7,hu,hid,qc hy,au,encS]
  refine ⟨by first | omega | (simp[aS]; omega),by first | omega | (simp[aS]; omega),?_⟩
  refine aE.pure h1 (by kernel_rfl) ?_
  simp (disch:=omega) only [↓wr,seval,wq,ah,ag,ak,aa,ab,af,ai,ae,t2,t5,t7,hu]
  refine bc.up g.rules.length (fun k T H'=>∃ (r2:V) (out2:List aI),bf H' r2 2 (aS out2)∧dx H H' r2∧cx out2∧(∀ x∈out2,mr g l x)∧(∀ x∈out,x∈out2)∧out.length≤out2.length∧(out2.length=out.length→out2=out) ∧
   (∀ (q:Nat) (R:aW),q < k→okb=true→s < 0→g.rules[q]?=some R→R.left = -1 - s→(⟨q,0⟩:aI)∈out2)∧T 2=.aO (au g) 0∧T 5=r2∧T 7=gi i∧T 8=gi s∧T 9=gb okb∧T 10=gi out.length∧T 11=gi k)
   ⟨r,out,o1,fr,hso,hcl,fun x hx=>hx,Ug _,fun _=>rfl,fun q R hq=>by omega,t2,by rw[← hu]; exact t5,t7,rfl,rfl,rfl,rfl⟩ ?_
  clear o1 fr t2 t5 t7 hid hu
  rintro k j T2 H2 hk ⟨r2,out2,o2,fr2,hso2,hcl2,hsub,hlen2,hsame,hall,t2,t5,t7,t8,t9,t10,t11⟩
  have hhas2:∀ x∈out2,cq g x:=fun x hx=>(hcl2 x hx).has hl
  have hle2:=iv hf hso2 hhas2
  have hlr2:cG r2=some out2.length:=by rw[o2.len,bF]
  have more:out.length < out2.length→∀ T':Env,T' 2=.aO (au g) 0→T' 5=r2→T' 7=gi 0→∃ k',k' < (300 - out.length) * 1000+(300 - i)∧PY g l H k' T' H2:=fun h T' e2 e5 e7 =>
   ⟨(300 - out2.length) * 1000+300,by omega,0,r2,out2,by omega,Vu _,o2,fr2,hso2,hcl2,fun x hx=>hsub x (hba x hx),fun j x hj=>by omega,e2,e5,e7⟩
  have stay:(okb=true→s < 0→g.rules.length≤k)→¬ out.length < out2.length→∀ T':Env,T' 2=.aO (au g) 0→T' 5=r2→T' 7=gi ((i:Int)+1)→∃ k',k' < (300 - out.length) * 1000+(300 - i)∧PY g l H k' T' H2:=fun hend h T' e2 e5 e7=>by
   have e:=hsame (by omega)
   subst e
   refine ⟨(300 - out2.length) * 1000+(300 - (i+1)),by omega,i+1,r2,out2,rfl,by omega,o2,fr2,hso2,hcl2,hba,fun j x hj hx=>?_,e2,e5,e7⟩
   rcases Uv j i with hji | hji
   ·exact hdn j x hji hx
   ·have:j=i:=by omega
    subst this
    rw[hy] at hx
    simp only[T7] at hx
    subst hx
    intro s' q R h1 h2 h3 h4
    rw[hny] at h1
    simp only[Ua] at h1
    obtain ⟨rfl,rfl⟩:=h1
    have:=(Uj.1 h3).1
    exact hall q R (by have:=hend rfl h2; omega) rfl h2 h3 h4
  cases okb with
  | false =>
   simp (disch:=omega) only [↓wr,seval,wq,ah,ag,ak,aa,ab,af,ai,ae,iF,t2,t5,t7,t8,t9,t10,t11,hlr2]
   refine av.dec (fun hg=>?_) (fun hg=>?_)
   ·simp (disch:=omega) only [↓wr,seval,wq,ah,ag,ak,aa,ab,af,ai,ae,t2,t5,t7]
    exact more (by omega) _ t2 t5 rfl
   ·simp (disch:=omega) only [↓wr,seval,wq,ah,ag,ak,aa,ab,af,ai,ae,t2,t5,t7]
    exact stay (fun h=>by simp at h) (by omega) _ t2 t5 rfl
  | true =>
   simp (disch:=omega) only [↓wr,seval,wq,ah,ag,ak,aa,ab,af,ai,ae,iF,t2,t5,t7,t8,t9,t10,t11,hlr2,au]
   refine av.dec (fun hneg=>?_) (fun hneg=>?_)
   ·simp (disch:=omega) only [↓wr,seval,wq,ah,ag,ak,aa,ab,af,ai,ae,t2,t5,t7,t8,t9,t10,t11,hlr2,au]
    refine av.dec (fun hkl=>?_) (fun hkl=>?_)
    ·have hR:g.rules[k]?=some (g.rules[k]'(by omega)):=T4 (by omega)
     have hL:=hf.left _ (Ud (show k < g.rules.length by omega))
     generalize g.rules[k]'(by omega)=R at hR hL
     simp (disch:=omega) only [↓wr,seval,wq,ah,ag,ak,aa,ab,af,ai,ae,t2,t5,t7,t8,t9,t10,t11,au,aP,T8,hR,Ue]
     refine av.eq (fun he=>?_) (fun he=>?_)
     ·simp (disch:=omega) only [↓wr,seval,wq,ah,ag,ak,aa,ab,af,ai,ae,t2,t5,t7,t8,t9,t10,t11]
      refine aE.ez ((AO r2 out2 (by omega) ⟨k,0⟩ H2 o2).mono ?_)
      rintro r3 H3 ⟨o3,l3⟩
      simp (disch:=omega) only [↓wr,seval,wq,ah,ag,ak,aa,ab,af,ai,ae,t2,t5,t7,t8,t9,t10,t11]
      have hnew:mr g l ⟨k,0⟩:=.step hyC hny hneg hR he
      refine aN hk (by omega) ⟨r3,ep out2 ⟨k,0⟩,o3,fr2.step l3,rF hso2,fun x hx=>?_,fun x hx=>ju.2 (.inr (hsub x hx)),by have:=Ef out2 ⟨k,0⟩; omega,fun h=>?_,fun q R' hq h2 h3 h4=>?_,t2,rfl,t7,t8,t9,t10,rfl⟩
      ·rcases ju.1 hx with rfl | hx
       ·exact hnew
       ·exact hcl2 x hx
      ·have hin:(⟨k,0⟩:aI)∈out2:=Vs fun hno=>by
        have:=Cz hno; omega
       rw[BX hso2 hin] at h ⊢
       exact hsame h
      ·rcases Uv q k with hqk | hqk
       ·exact ju.2 (.inr (hall q R' hqk rfl h2 h3 h4))
       ·have:q=k:=by omega
        subst this
        exact ju.2 (.inl rfl)
     ·simp (disch:=omega) only [↓wr,seval,wq,ah,ag,ak,aa,ab,af,ai,ae,t2,t5,t7,t8,t9,t10,t11]
      refine aN hk (by omega) ⟨r2,out2,o2,fr2,hso2,hcl2,hsub,hlen2,hsame,fun q R' hq h2 h3 h4=>?_,t2,t5,t7,t8,t9,t10,rfl⟩
      rcases Uv q k with hqk | hqk
      ·exact hall q R' hqk rfl h2 h3 h4
      ·have:q=k:=by omega
       subst this
       rw[hR] at h3
       simp only[T7] at h3
       subst h3
       exact absurd h4 he
    ·simp (disch:=omega) only [↓wr,seval,wq,ah,ag,ak,aa,ab,af,ai,ae,t2,t5,t7,t8,t9,t10,t11,hlr2]
     refine av.dec (fun hg=>?_) (fun hg=>?_)
     ·simp (disch:=omega) only [↓wr,seval,wq,ah,ag,ak,aa,ab,af,ai,ae,t2,t5,t7]
      exact more (by omega) _ t2 t5 rfl
     ·simp (disch:=omega) only [↓wr,seval,wq,ah,ag,ak,aa,ab,af,ai,ae,t2,t5,t7]
      exact stay (fun _ _=>by omega) (by omega) _ t2 t5 rfl
   ·simp (disch:=omega) only [↓wr,seval,wq,ah,ag,ak,aa,ab,af,ai,ae,t2,t5,t7,t8,t9,t10,t11,hlr2]
    refine av.dec (fun hg=>?_) (fun hg=>?_)
    ·simp (disch:=omega) only [↓wr,seval,wq,ah,ag,ak,aa,ab,af,ai,ae,t2,t5,t7]
     exact more (by omega) _ t2 t5 rfl
    ·simp (disch:=omega) only [↓wr,seval,wq,ah,ag,ak,aa,ab,af,ai,ae,t2,t5,t7]
     exact stay (fun _ h=>absurd h hneg) (by omega) _ t2 t5 rfl
 ·simp (disch:=omega) only [↓wr,seval,wq,ah,ag,ak,aa,ab,af,ai,ae,t2,t5,t7]
  have hi2:i=out.length:=by omega
  rw[G1 hf hl hso hcl hba (fun x hx s k R h1 h2 h3 h4=>by
   obtain ⟨j,hj,e⟩:=U6.1 hx
   exact hdn j x (by omega) (by rw[T4 hj,e]) s k R h1 h2 h3 h4)]
  exact ⟨o1,fr⟩
set_option maxHeartbeats 8000000 in
theorem KL (g:aw) (hf:g.dt) (l:List aI) (hs:cx l) (hl:∀ x∈l,cq g x) (s:Int) (u:V) (H:View) (ho:bf H u 2 (aS l)):aC Tryz.prog 66 [.agg (au g),u,gi s] H fun r H'=>bf H' r 2 (aS (bu g l s))∧dx H H' r:=by
 refine aC.of mixed uf ?_
 have hlen:cG u=some l.length:=by rw[ho.len]; simp[aS]
 have hle:=iv hf hs hl
 simp (disch:=omega) only [↓wr,seval,wq,ah,ag,ak,aa,ab,af,ai,ae,pf,au,encS]
 refine bc.up l.length (fun i T H'=>∃ (r:V),bf H' r 2 (aS (bu g (l.take i) s))∧dx H H' r∧T 1=u∧T 2=gi s∧T 3=.aO (au g) 0∧T 7=r∧T 8=gi i)
  ⟨.emp 1,.nil,.emp,rfl,rfl,rfl,rfl,rfl⟩ ?_
 rintro i k T H' hk ⟨r,o1,fr,t1,t2,t3,t7,t8⟩
 simp (disch:=omega) only [↓wr,seval,wq,ah,ag,ak,aa,ab,af,ai,ae,mV,t1,t2,t3,t7,t8,hlen]
 refine av.dec (fun hc=>?_) (fun hc=>?_)
 ·have hy:l[i]?=some (l[i]'(by omega)):=T4 (by omega)
  have hyH:=hl _ (Ud (show i < l.length by omega))
  have htk:=MM (g:=g) hs (show l[i]?=some (l[i]'(by omega)) from hy) s
  generalize l[i]'(by omega)=y at hy hyH htk
  have h1:=Am g hf y hyH
  cases hny:bL g y with
  | mk q okb =>
  rw[hny] at h1
  obtain ⟨id,hu,hid⟩:=ho.sl (by simp[aS]; omega)
  have hid':H' id=.arr 2 (aS l):=by rw[(fr id (by rw[hid]; simp)).1,hid]
  rw[bF] at hu
  have hdot:=hyH.2
  have h6:=eU hf hyH.1
  have hml:=sB (g:=g) (l:=l.take i) (s:=s)
  simp only[UN] at hml
  simp only[au,encS,bK] at h1
  simp (disch:=omega) only [↓wr,seval,wq,ah,ag,ak,aa,ab,af,ai,ae,t1,t2,t3,t7,t8,hu,hid',qc hy,au,encS]
  refine ⟨by first | omega | (simp[aS]; omega),by first | omega | (simp[aS]; omega),?_⟩
  refine aE.pure h1 (by kernel_rfl) ?_
  have skip:¬ bL g y=(s,true)→∀ T':Env,T' 1=u→T' 2=gi s→T' 3=.aO (au g) 0→T' 7=r→T' 8=gi ((i:Int)+1)→∃ k',k' < k∧DH l.length k' (fun i T H'=>∃ (r:V),bf H' r 2 (aS (bu g (l.take i) s))∧dx H H' r∧T 1=u∧T 2=gi s∧T 3=.aO (au g) 0∧T 7=r∧T 8=gi i) T' H':=fun hne T' e1 e2 e3 e7 e8=>by
   rw[T6 hne] at htk
   exact aN hk (by omega) ⟨r,by rw[htk]; exact o1,fr,e1,e2,e3,e7,e8⟩
  cases okb with
  | false =>
   simp (disch:=omega) only [↓wr,seval,wq,ah,ag,ak,aa,ab,af,ai,ae,t1,t2,t3,t7,t8]
   exact skip (by rw[hny]; simp) _ t1 t2 t3 t7 rfl
  | true =>
   simp (disch:=omega) only [↓wr,seval,wq,ah,ag,ak,aa,ab,af,ai,ae,t1,t2,t3,t7,t8]
   refine av.eq (fun he=>?_) (fun he=>?_)
   ·simp (disch:=omega) only [↓wr,seval,wq,ah,ag,ak,aa,ab,af,ai,ae,t1,t2,t3,t7,t8,hu,hid',qc hy]
    refine ⟨by first | omega | (simp[aS]; omega),by first | omega | (simp[aS]; omega),?_⟩
    refine ⟨by first | omega | (simp[aS]; omega),by first | omega | (simp[aS]; omega),?_⟩
    refine aE.ez ((AO r (bu g (l.take i) s) (by omega) ⟨y.aH,y.dot+1⟩ H' o1).mono ?_)
    rintro r2 H2 ⟨o2,l2⟩
    simp (disch:=omega) only [↓wr,seval,wq,ah,ag,ak,aa,ab,af,ai,ae,t1,t2,t3,t7,t8]
    rw[T9 (by rw[hny,he])] at htk
    exact aN hk (by omega) ⟨r2,by rw[htk]; exact o2,fr.step l2,t1,t2,t3,rfl,rfl⟩
   ·simp (disch:=omega) only [↓wr,seval,wq,ah,ag,ak,aa,ab,af,ai,ae,t1,t2,t3,t7,t8]
    exact skip (by rw[hny]; simp[he]) _ t1 t2 t3 t7 rfl
 ·simp (disch:=omega) only [↓wr,seval,wq,ah,ag,ak,aa,ab,af,ai,ae,t1,t2,t3,t7,t8]
  rw[Uo (by omega)] at o1
  exact ⟨o1,fr⟩
theorem BW {g:aw} (hf:g.dt) {i:Nat} (hi:i < g.az.length+g.ax.length) : -100≤aZ g i∧aZ g i≤100:=by
 have:=hf.az; have:=hf.ax
 unfold aZ; split <;> omega
theorem Ie (g:aw) (hf:g.dt) (i:Nat) (hi:i < g.az.length+g.ax.length):aG Tryz.prog 65 [.agg (au g),gi i] (gi (aZ g i)):=by
 refine aG.val (by
  intro v hv; simp at hv
  rcases hv with rfl | rfl
  ·exact cT _ (dR g)
  ·exact .val _) fun H=>?_
 have:=hf.az; have:=hf.ax
 refine aC.of mixed sR ?_
 unfold aZ
 simp (disch:=omega) only [↓wr,seval,wq,ah,ag,ak,aa,ab,af,ai,ae,ot,au,encS]
 refine av.dec (fun h=>?_) (fun h=>?_)
 ·simp (disch:=omega) only [↓wr,seval,wq,ah,ag,ak,aa,ab,af,ai,ae]
  rw[T9 (by omega)]
 ·simp (disch:=omega) only [↓wr,seval,wq,ah,ag,ak,aa,ab,af,ai,ae,au]
  rw[T6 (by omega)]
theorem zq (l:List aI):Tree (.aL (aS l)):=fD _ _ fun x _ v hv=>by simp[bK] at hv; rcases hv with rfl | rfl <;> exact .val _
theorem KK (a b:List aI) (ha:aY a) (hb:aY b):aG Tryz.prog 21 [.aL (aS a),.aL (aS b)] (gb (a == b)):=by
 unfold aY at ha hb
 refine aG.val (by
  intro v hv; simp at hv
  rcases hv with rfl | rfl <;> exact zq _) fun H=>?_
 refine aC.of mixed ud ?_
 simp (disch:=omega) only [↓wr,seval,wq,ah,ag,ak,aa,ab,af,ai,ae,pb,aS]
 refine av.ne (fun h=>?_) (fun h=>?_)
 ·simp (disch:=omega) only [↓wr,seval,wq,ah,ag,ak,aa,ab,af,ai,ae]
  have:(a == b)=false:=by simp; rintro rfl; exact h rfl
  rw[this]
 ·simp (disch:=omega) only [↓wr,seval,wq,ah,ag,ak,aa,ab,af,ai,ae]
  refine bc.up a.length (fun i T H'=>a.take i=b.take i∧T 0=.aL (aS a)∧T 1=.aL (aS b)∧T 5=gi i) ⟨rfl,rfl,rfl,rfl⟩ ?_
  rintro i k T H' hk ⟨he,t0,t1,t5⟩
  simp (disch:=omega) only [↓wr,seval,wq,ah,ag,ak,aa,ab,af,ai,ae,na,t0,t1,t5,aS]
  refine av.dec (fun hc=>?_) (fun hc=>?_)
  ·have hx:a[i]?=some (a[i]'(by omega)):=T4 (by omega)
   have hy:b[i]?=some (b[i]'(by omega)):=T4 (by omega)
   generalize a[i]'(by omega)=x at hx
   generalize b[i]'(by omega)=y at hy
   simp (disch:=omega) only [↓wr,seval,wq,ah,ag,ak,aa,ab,af,ai,ae,t0,t1,t5,aS,T8,hx,hy,Ue,bK]
   refine jT (xs:=#[.int .i64 x.aH,.int .i64 x.dot]) (ys:=#[.int .i64 y.aH,.int .i64 y.dot]) Tryz.underlying33 (by kernel_rfl) (by kernel_rfl) ?_ ?_ (tF x y) (.inr ⟨rfl,rfl⟩) ?_
   ·rfl
   ·rfl
   rw[Cb]
   simp (disch:=omega) only [↓wr,seval,wq,ah,ag,ak,aa,ab,af,ai,ae,t0,t1,t5]
   refine av.dec (fun e2=>?_) (fun e2=>?_)
   ·simp (disch:=omega) only [↓wr,seval,wq,ah,ag,ak,aa,ab,af,ai,ae,t0,t1,t5]
    exact aN hk (by omega) ⟨by rw[Uw,Uw,he,hx,hy,e2],t0,t1,rfl⟩
   ·simp (disch:=omega) only [↓wr,seval,wq,ah,ag,ak,aa,ab,af,ai,ae]
    have:(a == b)=false:=by
     simp; rintro rfl
     rw[hx] at hy; simp at hy; exact e2 hy
    rw[this]
  ·simp (disch:=omega) only [↓wr,seval,wq,ah,ag,ak,aa,ab,af,ai,ae,t0,t1,t5]
   rw[Uo (by omega),Uo (by omega)] at he
   rw[he,Vy]
def CX (p:Nat→Bool):Nat→BV
 | 0=>0
 | n+1=>if p n=true then CX p n ||| BitVec.twoPow 32 n else CX p n
theorem Au (p:Nat→Bool):∀ (n i:Nat),n≤32→((CX p n).getLsbD i=true↔i < n∧p i=true)
 | 0,i,_=>by simp[CX]
 | n+1,i,h=>by
  have ih:=Au p n i (by omega)
  rw[CX]
  split
  ·rename_i hp
   rw[UU,U8,ih,VV]
   simp only[Uh,Ul]
   constructor
   ·rintro (⟨h1,h2⟩ | ⟨h1,rfl⟩)
    ·exact ⟨by omega,h2⟩
    ·exact ⟨by omega,hp⟩
   ·rintro ⟨h1,h2⟩
    rcases Uv i n with h3 | h3
    ·exact .inl ⟨h3,h2⟩
    ·exact .inr ⟨by omega,by omega⟩
  ·rename_i hp
   rw[ih]
   constructor
   ·rintro ⟨h1,h2⟩; exact ⟨by omega,h2⟩
   ·rintro ⟨h1,h2⟩
    refine ⟨?_,h2⟩
    rcases Uv i n with h3 | h3
    ·exact h3
    ·have:i=n:=by omega
     subst this; exact absurd h2 hp
structure eP where
 aH:Int
 set:BV
 deriving DecidableEq
noncomputable def cy (g:aw):List aT × Int:=if isRed g=true then fh g 302 0 dO else ([],1)
noncomputable def gL (g:aw) (a:List aT):List (List aI):=a.map fun s=>cr g s.bh
open Classical in
noncomputable def uo (g:aw) (a:List aT) (i:Nat) (x:aI):BV:=CX (fun t=>decide (oM g (aA g false) a (gL g a) i x t)) 32
noncomputable def gK (g:aw) (a:List aT) (i:Nat):List eP:=((gL g a).getD i []).filterMap fun x=>if (bL g x).2=false∧0≤x.aH then some ⟨x.aH,uo g a i x⟩ else none
noncomputable def s7 (g:aw) (a:List aT):List (List eP):=(List.range a.length).map (gK g a)
noncomputable def Fv (g:aw):List (List eP) × Int:=if (cy g).2=0 then (s7 g (cy g).1,0) else ([],(cy g).2)
structure dN (g:aw) (at_ i:Nat) (out:List aT):Prop where
 bh:∀ s∈out,cx s.bh∧s.bh≠[]∧∀ x∈s.bh,cq g x
 bm:∀ j s,out[j]?=some s→s.bm.length≤40∧(j=at_→s.bm.length≤i)∧(at_ < j→s.bm=[])
 to:∀ s∈out,∀ e∈s.bm,0≤e.to∧e.to < out.length
 sym:∀ s∈out,∀ e∈s.bm,-1000≤e.sym∧e.sym≤1000
theorem mem_modify {α:Type} {l:List α} {i:Nat} {f:α→α} {y:α} (h:y∈l.modify i f):y∈l∨∃ x,l[i]?=some x∧y=f x:=by
 obtain ⟨j,hj,e⟩:=U6.1 h
 simp only[List.length_modify] at hj
 rw[List.getElem_modify] at e
 split at e
 ·rename_i hij
  subst hij
  exact .inr ⟨l[i],T4 hj,e.symm⟩
 ·exact .inl (e ▸ Ud hj)
theorem Mb (g:aw) (l:List aI) (at_:Nat) (out:List aT) (i:Nat):out.length≤(c8 g l at_ out i).length∧(c8 g l at_ out i).length≤out.length+1:=by
 unfold c8
 split
 ·omega
 ·split
  ·simp
  ·simp
theorem dN.put {g:aw} {at_ i:Nat} {out:List aT} (h:dN g at_ i out) (hi:i < 40) {s:Int} (hs : -1000≤s∧s≤1000) {to:Int} (ht:0≤to∧to < out.length):dN g at_ (i+1) (out.modify at_ fun x=>(⟨x.bh,x.bm ++ [⟨s,to⟩]⟩:aT)):=by
 refine ⟨fun y hy=>?_,fun j y hy=>?_,fun y hy e he=>?_,fun y hy e he=>?_⟩
 rotate_right
 ·rcases mem_modify hy with hy | ⟨x,hx,rfl⟩
  ·exact h.sym y hy e he
  ·rcases Uy.1 he with he | he
   ·exact h.sym x (Ub hx) e he
   ·simp at he; subst he; exact hs
 ·rcases mem_modify hy with hy | ⟨x,hx,rfl⟩
  ·exact h.bh y hy
  ·exact h.bh x (Ub hx)
 ·rw[List.getElem?_modify] at hy
  cases hx:out[j]? with
  | none=>rw[hx] at hy; simp at hy
  | some x =>
   rw[hx] at hy
   have h1:=h.bm j x hx
   by_cases e:at_=j
   ·subst e
    simp at hy
    subst hy
    have:=h1.2.1 rfl
    refine ⟨by simp; omega,fun _=>by simp; omega,fun h=>by omega⟩
   ·simp[e] at hy
    subst hy
    exact ⟨h1.1,fun h=>absurd h.symm e,h1.2.2⟩
 ·rw[List.length_modify]
  rcases mem_modify hy with hy | ⟨x,hx,rfl⟩
  ·exact h.to y hy e he
  ·rcases Uy.1 he with he | he
   ·exact h.to x (Ub hx) e he
   ·simp at he; subst he; exact ht
theorem dN.up {g:aw} {at_ i:Nat} {out:List aT} (h:dN g at_ i out):dN g at_ (i+1) out :=
 ⟨h.bh,fun j s hs=>by have:=h.bm j s hs; exact ⟨this.1,fun e=>by have:=this.2.1 e; omega,this.2.2⟩,h.to,h.sym⟩
theorem dN.add {g:aw} {at_ i:Nat} {out:List aT} (h:dN g at_ i out) {k:List aI} (hk:cx k∧k≠[]∧∀ x∈k,cq g x):dN g at_ i (out ++ [⟨k,[]⟩]):=by
 refine ⟨fun y hy=>?_,fun j y hy=>?_,fun y hy e he=>?_,fun y hy e he=>?_⟩
 rotate_right
 ·rcases Uy.1 hy with hy | hy
  ·exact h.sym y hy e he
  ·simp at hy; subst hy; simp at he
 ·rcases Uy.1 hy with hy | hy
  ·exact h.bh y hy
  ·simp at hy; subst hy; exact hk
 ·rcases Uv j out.length with hj | hj
  ·rw[Us hj] at hy; exact h.bm j y hy
  ·rw[UH hj] at hy
   cases hq:j - out.length with
   | zero=>rw[hq] at hy; simp at hy; subst hy; exact ⟨by simp,fun _=>by simp,fun _=>rfl⟩
   | succ q=>rw[hq] at hy; simp at hy
 ·rcases Uy.1 hy with hy | hy
  ·have:=h.to y hy e he; simp; omega
  ·simp at hy; subst hy; simp at he
theorem dN.step {g:aw} {l:List aI} (hs:cx l) (hl:∀ x∈l,cq g x) {at_ i:Nat} {out:List aT} (h:dN g at_ i out) (hi:i < 40):dN g at_ (i+1) (c8 g l at_ out i):=by
 unfold c8
 split
 ·exact h.up
 ·rename_i hne
  have hb : -1000≤aZ g i∧aZ g i≤1000:=by unfold aZ; split <;> omega
  split
  ·exact (h.add ⟨Eo _ hs,hne,Hk hl⟩).put hi hb (by simp; omega)
  ·have:=wb out (bu g l (aZ g i))
   exact h.put hi hb ⟨by omega,this⟩
theorem dN.next {g:aw} {at_ i:Nat} {out:List aT} (h:dN g at_ i out):dN g (at_+1) 0 out :=
 ⟨h.bh,fun j s hs=>by
  have:=h.bm j s hs
  exact ⟨this.1,fun e=>by have:=this.2.2 (by omega); simp[this],fun e=>this.2.2 (by omega)⟩,h.to,h.sym⟩
theorem dN.row {g:aw} {l:List aI} (hs:cx l) (hl:∀ x∈l,cq g x) {at_:Nat} {out:List aT} (h:dN g at_ 0 out):∀ n:Nat,n≤40→dN g at_ n ((List.range n).foldl (c8 g l at_) out)∧out.length≤((List.range n).foldl (c8 g l at_) out).length∧((List.range n).foldl (c8 g l at_) out).length≤out.length+n
 | 0,_=>⟨h,Ug _,Ug _⟩
 | n+1,hn=>by
  obtain ⟨h1,h2,h3⟩:=dN.row hs hl h n (by omega)
  rw[U4,UM]
  simp only[Uu,Vk]
  have:=Mb g l at_ ((List.range n).foldl (c8 g l at_) out) n
  exact ⟨h1.step hs hl (by omega),by omega,by omega⟩
theorem mM {g:aw} : dN g 0 0 dO:=by
 refine ⟨fun s hs=>?_,fun j s hs=>?_,fun s hs e he=>?_,fun s hs e he=>?_⟩
 rotate_right
 ·simp[dO] at hs; subst hs; simp at he
 ·simp[dO] at hs; subst hs
  refine ⟨by simp[cx],by simp,fun x hx=>?_⟩
  simp at hx; subst hx
  exact ⟨⟨by simp,by simp only; omega⟩,by simp,by simp[aM]⟩
 ·have:=Ub hs
  simp[dO] at this; subst this; simp
 ·simp[dO] at hs; subst hs; simp at he
theorem dN.nU {g:aw} (hf:g.dt) {at_ i:Nat} {out:List aT} (h:dN g at_ i out) {j:Nat} (hj:j < out.length):cx (cr g (out.getD j bz).bh)∧∀ x∈cr g (out.getD j bz).bh,cq g x:=by
 have hm:=Ub (getD_some (d:=bz) hj)
 exact ⟨lh _ _,fun x hx=>((c7 hf (h.bh _ hm).2.2).1 hx).has (h.bh _ hm).2.2⟩
structure Fx (g:aw) (a:List aT):Prop where
 bh:∀ s∈a,cx s.bh∧s.bh≠[]∧∀ x∈s.bh,cq g x
 bm:∀ s∈a,s.bm.length≤40
 to:∀ s∈a,∀ e∈s.bm,0≤e.to∧e.to < a.length
 sym:∀ s∈a,∀ e∈s.bm,-1000≤e.sym∧e.sym≤1000
theorem dN.ok {g:aw} {at_ i:Nat} {out:List aT} (h:dN g at_ i out):Fx g out :=
 ⟨h.bh,fun s hs=>by obtain ⟨j,hj,e⟩:=U6.1 hs; exact (h.bm j s (by rw[T4 hj,e])).1,h.to,h.sym⟩
theorem FP {g:aw} (hf:g.dt):∀ (f at_:Nat) (out:List aT),dN g at_ 0 out→1≤out.length→out.length≤300→(fh g f at_ out).2=0→Fx g (fh g f at_ out).1∧1≤(fh g f at_ out).1.length∧(fh g f at_ out).1.length≤300
 | 0,_,out,h,h1,h2,_=>⟨h.ok,h1,h2⟩
 | f+1,at_,out,h,h1,h2,h3=>by
  rw[fh] at h3 ⊢
  split
  ·rename_i ha
   rw[T9 ha] at h3
   have hr:=dN.row (h.nU hf ha).1 (h.nU hf ha).2 h (g.az.length+g.ax.length) (by have:=hf.az; have:=hf.ax; omega)
   rw[show (List.range (g.az.length+g.ax.length)).foldl (c8 g (cr g (out.getD at_ bz).bh) at_) out=AW g at_ out (g.az.length+g.ax.length) from rfl] at hr
   split
   ·rename_i hc; rw[T9 hc] at h3; simp at h3
   ·rename_i hc
    rw[T6 hc] at h3
    exact FP hf f (at_+1) _ hr.1.next (by omega) (by omega) h3
  ·exact ⟨h.ok,h1,h2⟩
theorem GK {g:aw} (hf:g.dt) (h:(cy g).2=0):Fx g (cy g).1∧1≤(cy g).1.length∧(cy g).1.length≤300:=by
 unfold cy at h ⊢
 split
 ·rename_i hr
  rw[T9 hr] at h
  exact FP hf 302 0 dO mM (by simp[dO]) (by simp[dO]) h
 ·rename_i hr
  rw[T6 hr] at h
  simp at h
def fW (l:List dC):List (List V):=l.map kd
def j6 (s:aT):List V:=[.aL (aS s.bh),.aL (fW s.bm)]
def bO (a:List aT):V:=.aL (a.map j6)
theorem Qt (l:List dC):Tree (.aL (fW l)):=fD _ _ fun x _ v hv=>by simp[kd] at hv; rcases hv with rfl | rfl <;> exact .val _
theorem Lt (s:aT):∀ v∈j6 s,Tree v:=by
 intro v hv; simp[j6] at hv
 rcases hv with rfl | rfl
 ·exact zq _
 ·exact Qt _
theorem uh (a:List aT):Tree (bO a):=fD _ _ fun x _=>Lt x
abbrev oW:=V × V × aT
def eJ (A:List oW):List (List V):=A.map fun x=>[x.1,x.2.1]
def lp (A:List oW):List cF:=A.flatMap fun x=>[(x.1,2,aS x.2.2.bh),(x.2.1,2,fW x.2.2.bm)]
theorem cY (A:List oW):(eJ A).length=A.length:=by simp[eJ]
theorem mY {A:List oW} {x:oW} (hx:x∈A):(x.1,2,aS x.2.2.bh)∈lp A∧(x.2.1,2,fW x.2.2.bm)∈lp A:=by
 constructor <;> exact VQ.2 ⟨x,hx,by simp⟩
theorem De {h:aJ} {u:V} {A:List oW} (ho:bf h.view u 2 (eJ A)) (hb:∀ x∈A,bf h.view x.1 2 (aS x.2.2.bh)∧bf h.view x.2.1 2 (fW x.2.2.bm)):er h u (bO (A.map fun x=>x.2.2)):=by
 have hg:∀ i (hi:i < A.length),(eJ A).getD i []=[(A[i]).1,(A[i]).2.1]∧(((A.map fun x=>x.2.2).map j6).getD i [])=j6 (A[i]).2.2:=fun i hi=>by
  simp[eJ,T0,hi]
 refine er.own ho (by simp[eJ]) (fun i hi=>?_) (fun i j hi hj=>?_)
 ·have hi':i < A.length:=by simpa [eJ] using hi
  rw[(hg i hi').1,(hg i hi').2]; rfl
 ·have hi':i < A.length:=by simpa [eJ] using hi
  rw[(hg i hi').2] at hj ⊢
  rw[(hg i hi').1]
  have hx:=hb _ (Ud hi')
  generalize A[i]'hi'=y at hx hj
  obtain ⟨h1,h2⟩:=hx
  match j,hj with
  | 0,_ =>
   refine er.own h1 rfl (fun i _=>rfl) (fun i j hi hj=>?_)
   rw[bF] at hi
   have e:(aS y.2.2.bh).getD i []=bK y.2.2.bh[i]:=by simp[aS,T0,hi]
   rw[e] at hj ⊢
   match j,hj with
   | 0,_=>exact .val _
   | 1,_=>exact .val _
  | 1,_ =>
   refine er.own h2 rfl (fun i _=>rfl) (fun i j hi hj=>?_)
   simp only[fW,Uc] at hi
   have e:(fW y.2.2.bm).getD i []=kd y.2.2.bm[i]:=by simp[fW,T0,hi]
   rw[e] at hj ⊢
   match j,hj with
   | 0,_=>exact .val _
   | 1,_=>exact .val _
  | n+2,hj=>exact absurd hj (by simp[j6])
def oC:SC :=
 .seq (.seq (ao [aj 6 5,aj 7 0,aV 8 7,bg 9 .lss 6 8]) <|
 .cond (.tmp 9) (.skip) (.exit 0)) <|
 .seq (.block 1 (.seq (ao [aj 12 0,aj 13 5,aR 14 2 12 13,aD 15 0 14,ay 16 15,aj 17 1,bD 18 21 [16,17]]) <|
 .cond (.tmp 18) (.seq (ao [aj 19 5,aj 4 19]) <|
 .ret) (.skip))) <|
 ao [aj 10 5,aQ 11 .add 10 1,aj 5 11]
def qf:SF:=⟨.seq (ao [bj 4 0]) <|
 .seq (.seq (ao [bj 5 0]) <|
 .block 0 (.loop oC)) <|
 .seq (ao [bj 4 (-1)]) <|
 .ret,
 [.tmp 4],20⟩
theorem vu:aU Tryz.prog 67 []=some qf:=by kernel_rfl
def mI:SC :=
 .seq (.seq (ao [aj 31 7,aD 32 0 1,ay 33 32,aV 34 33,aD 35 1 1,ay 36 35,aV 37 36,bg 38 .add 34 37,bg 39 .lss 31 38]) <|
 .cond (.tmp 39) (.skip) (.exit 2)) <|
 .seq (.block 3 (.seq (ao [bp 42 4 1,aj 43 7,bD 44 65 [42,43],aj 8 44]) <|
 .seq (ao [bp 45 4 1,aj 46 6,aj 47 8,bD 48 66 [45,46,47],aj 9 48]) <|
 .seq (.seq (ao [aj 49 9,aV 50 49,aQ 51 .eql 50 0]) <|
 .cond (.tmp 51) (.exit 3) (.skip)) <|
 .seq (ao [aj 52 4,aj 53 9,bD 54 67 [52,53],aj 10 54]) <|
 .seq (.seq (ao [aj 55 10,aQ 56 .lss 55 0]) <|
 .cond (.tmp 56) (.seq (ao [aj 57 4,aV 58 57,aj 10 58]) <|
 ao [aj 59 4,aj 60 9,((some 61),.op (.build [(.emp 1),(.emp 1)] [(0,1,(.tmp 60))])),((some 62),.op (.cw 1 2 [(.emp 1),(.emp 1)] [(0,(.tmp 61))])),((some 63),.op (.app 2 48 (.tmp 59) (.tmp 62))),aj 4 63]) (.skip)) <|
 ao [aj 64 4,aj 65 5,aj 66 4,aj 67 5,aR 68 2 66 67,aD 69 1 68,ay 70 69,aj 71 8,aj 72 10,((some 73),.op (.build [(.val (.int .i64 0)),(.val (.int .i64 0))] [(0,1,(.tmp 71)),(1,1,(.tmp 72))])),((some 74),.op (.cw 1 2 [(.val (.int .i64 0)),(.val (.int .i64 0))] [(0,(.tmp 73))])),((some 75),.op (.app 2 16 (.tmp 70) (.tmp 74))),aR 76 2 64 65,aD 77 1 76,(none,.op (.store 1 (.tmp 77) (.tmp 75)))])) <|
 ao [aj 40 7,aQ 41 .add 40 1,aj 7 41]
def ni:SC :=
 .seq (.seq (ao [aj 18 5,aj 19 4,aV 20 19,bg 21 .lss 18 20]) <|
 .cond (.tmp 21) (.skip) (.exit 0)) <|
 .seq (.block 1 (.seq (ao [bp 24 4 1,aj 25 4,aj 26 5,aR 27 2 25 26,aD 28 0 27,ay 29 28,bD 30 60 [24,29],aj 6 30]) <|
 .seq (.seq (ao [bj 7 0]) <|
 .block 2 (.loop mI)) <|
 .seq (ao [aj 78 4,aV 79 78,aQ 80 .gtr 79 300]) <|
 .cond (.tmp 80) (.seq (ao [((some 2),.op (.bP (.val (.emp 1)))),bj 3 5]) <|
 .ret) (.skip))) <|
 ao [aj 22 5,aQ 23 .add 22 1,aj 5 23]
def oO:SF:=⟨.seq (ao [cO 1 0,((some 2),.op (.bP (.val (.emp 1)))),bj 3 0]) <|
 .seq (.seq (ao [bp 11 4 1,bD 12 30 [11],dp 13 12]) <|
 .cond (.tmp 13) (.seq (ao [((some 2),.op (.bP (.val (.emp 1)))),bj 3 1]) <|
 .ret) (.skip)) <|
 .seq (ao [((some 14),.op (.build [(.val (.int .i64 0)),(.val (.int .i64 0))] [(0,1,(.val (.val (.int .i64 (-1)))))])),((some 15),.op (.cw 1 2 [(.val (.int .i64 0)),(.val (.int .i64 0))] [(0,(.tmp 14))])),((some 16),.op (.build [(.emp 1),(.emp 1)] [(0,1,(.tmp 15))])),((some 17),.op (.cw 1 2 [(.emp 1),(.emp 1)] [(0,(.tmp 16))])),aj 4 17]) <|
 .seq (.seq (ao [bj 5 0]) <|
 .block 0 (.loop ni)) <|
 .seq (ao [aj 81 4,aj 2 81,bj 3 0]) <|
 .ret,
 [.tmp 2,.tmp 3],82⟩
theorem tM:aU Tryz.prog 25 [1]=some oO:=by kernel_rfl
theorem Kl:∀ (a:List aT) (k:List aI) (i:Nat),(∀ j s,j < i→a[j]?=some s→s.bh≠k)→(∀ s,a[i]?=some s→s.bh=k→findD a k=i)∧(i=a.length→findD a k = -1):=by
 intro a k i h
 refine ⟨fun s h1 h2=>Gr a k i s h1 h2 h,fun e=>?_⟩
 subst e
 refine Cs a k fun s hs=>?_
 obtain ⟨j,hj,e⟩:=U6.1 hs
 exact h j s hj (by rw[T4 hj,e])
theorem LH (a:List aT) (ha:aY a) (hs:∀ s∈a,aY s.bh) (k:List aI) (hk:aY k):aG Tryz.prog 67 [bO a,.aL (aS k)] (gi (findD a k)):=by
 unfold aY at ha
 refine aG.val (by
  intro v hv; simp at hv
  rcases hv with rfl | rfl
  ·exact uh _
  ·exact zq _) fun H=>?_
 refine aC.of mixed vu ?_
 simp (disch:=omega) only [↓wr,seval,wq,ah,ag,ak,aa,ab,af,ai,ae,qf,bO]
 refine bc.up a.length (fun i T H'=>(∀ j s,j < i→a[j]?=some s→s.bh≠k)∧T 0=bO a∧T 1=.aL (aS k)∧T 5=gi i) ⟨fun j s h=>by omega,rfl,rfl,rfl⟩ ?_
 rintro i n T H' hn ⟨hall,t0,t1,t5⟩
 obtain ⟨f1,f2⟩:=Kl a k i hall
 simp (disch:=omega) only [↓wr,seval,wq,ah,ag,ak,aa,ab,af,ai,ae,oC,t0,t1,t5,bO]
 refine av.dec (fun hc=>?_) (fun hc=>?_)
 ·have hx:a[i]?=some (a[i]'(by omega)):=T4 (by omega)
  have hm:=hs _ (Ud (show i < a.length by omega))
  generalize a[i]'(by omega)=x at hx hm
  simp (disch:=omega) only [↓wr,seval,wq,ah,ag,ak,aa,ab,af,ai,ae,t0,t1,t5,bO,T8,hx,Ue,j6]
  refine aE.pure (KK x.bh k hm hk) (by kernel_rfl) ?_
  simp (disch:=omega) only [↓wr,seval,wq,ah,ag,ak,aa,ab,af,ai,ae,t0,t1,t5]
  refine av.split (fun e=>?_) (fun e=>?_)
  ·simp (disch:=omega) only [↓wr,seval,wq,ah,ag,ak,aa,ab,af,ai,ae,t0,t1,t5]
   rw[f1 x hx (by simpa using e)]
  ·simp (disch:=omega) only [↓wr,seval,wq,ah,ag,ak,aa,ab,af,ai,ae,t0,t1,t5]
   refine aN hn (by omega) ⟨fun j s hj hjs=>?_,t0,t1,rfl⟩
   rcases Uv j i with h | h
   ·exact hall j s h hjs
   ·have:j=i:=by omega
    subst this
    rw[hx] at hjs; simp at hjs; subst hjs
    simpa using e
 ·simp (disch:=omega) only [↓wr,seval,wq,ah,ag,ak,aa,ab,af,ai,ae,t0,t1,t5]
  rw[f2 (by omega)]
theorem KJ {g:aw} (hf:g.dt) {s:aT} (h:cx s.bh∧s.bh≠[]∧∀ x∈s.bh,cq g x):aY s.bh:=by
 have:=iv hf h.1 h.2.2; unfold aY; omega
theorem eA.TW {H:View} {u:V} {A:List oW} {L:List cF} (h:bt H ((u,2,eJ A) :: L)) (hL:∀ x∈lp A,x∈L):eA H u (bO (A.map fun x=>x.2.2)):=by
 rintro h' rfl
 exact (De h.head fun x hx=>⟨h.1 _ (Ux _ (hL _ (mY hx).1)),h.1 _ (Ux _ (hL _ (mY hx).2))⟩).fr
theorem eA.lr {H:View} {u:V} {l:List aI} (h:bf H u 2 (aS l)):eA H u (.aL (aS l)) :=
 eA.own h fun e he v hv=>by
  obtain ⟨x,_,rfl⟩:=Ur.1 he
  simp[bK] at hv; rcases hv with rfl | rfl <;> exact .val _
theorem nA {h:aJ} {u v:V} {e:Int} (h1:er h u v):er h (.bE [u,gi e]) (.bE [v,gi e]):=.bE _ _ rfl fun i hi=>by
 match i,hi with
 | 0,_=>exact h1
 | 1,_=>exact .val _
theorem mo {α:Type} {l:List α} {i:Nat} (h:i < l.length):∃ a x b,l=a ++ x :: b∧a.length=i∧l[i]?=some x :=
 ⟨l.take i,l[i],l.drop (i+1),by rw[← UO h,List.take_append_drop],by simp; omega,T4 h⟩
theorem Ct {α:Type} (a:List α) (x:α) (b:List α) (f:α→α):(a ++ x :: b).modify a.length f=a ++ f x :: b:=by
 induction a with
 | nil=>rfl
 | cons y a ih=>simp only[UI,Um,List.modify_succ_cons,ih]
theorem fv {g:aw} (h:isRed g=true):bR g=true:=by
 unfold isRed at h
 simp only[Uh,Va,Ul] at h
 refine U7 fun hn=>?_
 have h1:=h.1
 unfold fy at h1
 simp[hn] at h1
theorem nO {g:aw} (h:isRed g=true):g.dt:=bM (fv h)
theorem Td {α:Type} {a b c:α} {l:List α} : (a :: b :: c :: l).Perm (c :: b :: a :: l):=(List.Perm.swap _ _ _).trans (((List.Perm.swap _ _ _).cons _).trans (List.Perm.swap _ _ _))
theorem RL {α:Type} {e u p r:α} {S:List α} : (e :: u :: p :: r :: S).Perm (u :: r :: (S ++ [p,e])) :=
 (List.Perm.swap _ _ _).trans (.cons _ (Td.trans (.cons _ (List.perm_append_comm (l₁:=[p,e]) (l₂:=S)))))
theorem Ng {α:Type} {u r k e:α} {S1 S2:List α} : (u :: r :: (S1 ++ k :: e :: S2)).Perm (e :: u :: r :: (S1 ++ k :: S2)):=by
 have h:(S1 ++ k :: e :: S2).Perm (e :: (S1 ++ k :: S2)):=by
  have:=UZ (a:=e) (l₁:=S1 ++ [k]) (l₂:=S2)
  simpa using this
 exact (((h.cons r).cons u).trans ((List.Perm.swap _ _ _).cons u)).trans (List.Perm.swap _ _ _)
theorem zj (A:List oW) (x:oW) (B:List oW):lp (A ++ x :: B)=lp A ++ (x.1,2,aS x.2.2.bh) :: (x.2.1,2,fW x.2.2.bm) :: lp B:=by simp[lp]
def Tv (g:aw) (m:Nat) (T:Env) (H:View):Prop:=∃ (at_:Nat) (u:V) (A:List oW) (out:List aT),m+at_=302∧out=A.map (fun x=>x.2.2)∧bt H ((u,2,eJ A) :: lp A)∧dN g at_ 0 out∧1≤out.length∧out.length≤300∧fh g m at_ out=cy g∧at_≤out.length ∧
 T 1=.aO (au g) 0∧T 4=u∧T 5=gi at_
set_option maxHeartbeats 16000000 in
theorem Kn (g:aw) (hg:g.Ok):cX Tryz.prog 25 [.agg (au g)] (.bE [bO (cy g).1,gi (cy g).2]):=by
 refine cX.of (ef g) ?_
 have hIs:=L6 g hg
 refine aC.of mixed tM ?_
 simp only[au,encS] at hIs
 simp (disch:=omega) only [↓wr,seval,wq,ah,ag,ak,aa,ab,af,ai,ae,oO,au,encS]
 refine aE.pure hIs (by kernel_rfl) ?_
 simp (disch:=omega) only [↓wr,seval,wq,ah,ag,ak,aa,ab,af,ai,ae]
 refine av.split (fun hr=>?_) (fun hr=>?_)
 rotate_left
 ·simp (disch:=omega) only [↓wr,seval,wq,ah,ag,ak,aa,ab,af,ai,ae]
  intro h' _
  have e:cy g=([],1):=by unfold cy; rw[T6 (by rw[hr]; simp)]
  rw[e]
  exact nA (.emp _)
 have hf:g.dt:=nO hr
 have e0:fh g 302 0 dO=cy g:=by unfold cy; rw[T9 hr]
 have hT:=hf.az; have hN:=hf.ax
 simp (disch:=omega) only [↓wr,seval,wq,ah,ag,ak,aa,ab,af,ai,ae]
 intro q1 q2 hq2
 have o0:bt (((View.set (fun _=>dy.dead) q1 (.arr 2 [[gi (-1),gi 0]])).set q2 (.arr 2 [[.sl q1 0 1 2,.emp 1]]))) ((.sl q2 0 1 2,2,eJ [(.sl q1 0 1 2,.emp 1,⟨[⟨-1,0⟩],[]⟩)]) :: lp [(.sl q1 0 1 2,.emp 1,⟨[⟨-1,0⟩],[]⟩)]) :=
  (((bt.nil.emp (k:=1) (sz:=2)).new (n:=q1) rfl 2 [[gi (-1),gi 0]]).new (by simpa [View.set] using hq2) 2 [[.sl q1 0 1 2,.emp 1]])
 generalize (View.set (fun _=>dy.dead) q1 (.arr 2 [[gi (-1),gi 0]])).set q2 (.arr 2 [[.sl q1 0 1 2,.emp 1]])=H0 at o0 ⊢
 refine bc.intro (Tv g) 302 ⟨0,_,_,dO,rfl,rfl,o0,mM,Ug _,by simp[dO],e0,by omega,rfl,rfl,rfl⟩ ?_
 clear o0 hq2
 rintro m T H ⟨at_,u,A,out,hm,rfl,ho,hI,h1,h300,hl,hle,t1,t4,t5⟩
 have hlu:cG u=some A.length:=by rw[ho.head.len,cY]
 simp only[Uc] at h1 h300 hle
 simp (disch:=omega) only [↓wr,seval,wq,ah,ag,ak,aa,ab,af,ai,ae,ni,t1,t4,t5,hlu]
 refine av.dec (fun hc=>?_) (fun hc=>?_)
 rotate_left
 ·simp (disch:=omega) only [↓wr,seval,wq,ah,ag,ak,aa,ab,af,ai,ae,t1,t4,t5]
  have e1:cy g=(A.map (fun x=>x.2.2),0):=by
   rw[← hl]
   cases m with
   | zero=>rfl
   | succ m=>rw[fh,T6 (by simp; omega)]
  rw[e1]
  rintro h' rfl
  exact nA (De ho.head fun x hx=>⟨ho.1 _ (Ux _ (mY hx).1),ho.1 _ (Ux _ (mY hx).2)⟩)
 obtain ⟨m,rfl⟩:∃ q,m=q+1:=⟨m - 1,by omega⟩
 have hat:at_ < A.length:=by omega
 obtain ⟨A1,x,A2,rfl,hA1,hx⟩:=mo hat
 have hxm:x∈A1 ++ x :: A2:=by simp
 obtain ⟨hk1,hk2,hk3⟩:=hI.bh x.2.2 (List.mem_map_of_mem hxm)
 have hkl:=iv hf hk1 hk3
 have hh:bf H u 2 (eJ (A1 ++ x :: A2)):=ho.head
 obtain ⟨id,hu,hid⟩:=hh.sl (by rw[cY]; omega)
 have hgx:(eJ (A1 ++ x :: A2)).getD at_ []=[x.1,x.2.1]:=by simp[eJ,T0,← hA1]
 have hcl:cr g ((List.map (fun x=>x.2.2) (A1 ++ x :: A2)).getD at_ bz).bh=cr g x.2.2.bh:=by
  rw[T0,T8,hx]; rfl
 have hrow:=fun n hn=>dN.row (hI.nU hf (show at_ < ((A1 ++ x :: A2).map fun x=>x.2.2).length by simpa using hat)).1 (hI.nU hf (show at_ < ((A1 ++ x :: A2).map fun x=>x.2.2).length by simpa using hat)).2 hI n hn
 rw[fh,T9 (by simpa using hat),AW] at hl
 rw[hcl] at hl hrow
 have hcs:=lh g x.2.2.bh
 have hch:∀ y∈cr g x.2.2.bh,cq g y:=fun y hy=>((c7 hf hk3).1 hy).has hk3
 rw[cY] at hu
 simp (disch:=omega) only [↓wr,seval,wq,ah,ag,ak,aa,ab,af,ai,ae,t1,t4,t5,hu,hid,hgx,au,encS]
 refine ⟨by omega,by rw[cY]; omega,?_⟩
 refine aE.ez ((yX g hf x.2.2.bh hk3 (by omega) x.1 H (ho.1 _ (Ux _ (mY hxm).1))).mono ?_)
 rintro r H2 ⟨or,fr⟩
 have o2:=ho.Lc or fr
 clear or fr hid hgx hcl hx
 generalize cr g x.2.2.bh=cl at *
 generalize hout0:(A1 ++ x :: A2).map (fun x=>x.2.2)=out0 at *
 have hol:out0.length=(A1 ++ x :: A2).length:=by rw[← hout0]; simp
 simp (disch:=omega) only [↓wr,seval,wq,ah,ag,ak,aa,ab,af,ai,ae,t1,t4,t5]
 refine bc.up (g.az.length+g.ax.length) (fun i T H'=>∃ (u:V) (A:List oW),A.map (fun x=>x.2.2)=(List.range i).foldl (c8 g cl at_) out0∧bt H' ((r,2,aS cl) :: (u,2,eJ A) :: lp A)∧T 1=.aO (au g) 0∧T 4=u∧T 5=gi at_∧T 6=r∧T 7=gi i)
  ⟨u,_,hout0,o2,t1,by rw[← hu]; exact t4,t5,rfl,rfl⟩ ?_
 rw[← hol] at h1 h300 hle hat
 clear o2 ho hh hu t1 t4 t5 hlu hout0 hxm hol hc hk1 hk2 hk3 hkl hA1
 clear u H2 H T id A1 x A2
 rintro i k T H' hk ⟨u,A,hA,ho,t1,t4,t5,t6,t7⟩
 obtain ⟨iI,il1,il2⟩:=hrow i (by omega)
 rw[← hA] at iI il1 il2
 rw[Uc] at il1 il2
 have hlu:cG u=some A.length:=by rw[ho.tail.head.len,cY]
 have hcl':=iv hf hcs hch
 simp (disch:=omega) only [↓wr,seval,wq,ah,ag,ak,aa,ab,af,ai,ae,mI,t1,t4,t5,t6,t7,au,encS]
 refine av.dec (fun hc=>?_) (fun hc=>?_)
 rotate_left
 ·have hi:i=g.az.length+g.ax.length:=by omega
  subst hi
  rw[← hA] at hl
  simp (disch:=omega) only [↓wr,seval,wq,ah,ag,ak,aa,ab,af,ai,ae,t1,t4,t5,t6,hlu]
  refine av.dec (fun h3=>?_) (fun h3=>?_)
  ·simp (disch:=omega) only [↓wr,seval,wq,ah,ag,ak,aa,ab,af,ai,ae]
   intro h' _
   rw[T9 (by rw[Uc]; omega)] at hl
   rw[← hl]
   exact nA (.emp _)
  ·simp (disch:=omega) only [↓wr,seval,wq,ah,ag,ak,aa,ab,af,ai,ae,t1,t4,t5]
   rw[T6 (by rw[Uc]; omega)] at hl
   exact ⟨m,by omega,at_+1,u,A,_,by omega,rfl,ho.tail,iI.next,by rw[Uc]; omega,by rw[Uc]; omega,hl,by rw[Uc]; omega,t1,t4,rfl⟩
 have hcN:i < g.az.length+g.ax.length:=by omega
 have hs15:=Ie g hf i hcN
 have hsb:=BW hf hcN
 simp only[au,encS] at hs15
 simp (disch:=omega) only [↓wr,seval,wq,ah,ag,ak,aa,ab,af,ai,ae,t1,t4,t5,t6,t7,au,encS]
 refine aE.pure hs15 (by kernel_rfl) ?_
 simp (disch:=omega) only [↓wr,seval,wq,ah,ag,ak,aa,ab,af,ai,ae,t1,t4,t5,t6,t7,au,encS]
 refine aE.ez ((KL g hf cl hcs hch (aZ g i) r H' ho.head).mono ?_)
 rintro r9 H9 ⟨or,fr⟩
 have o9:=ho.Lc or fr
 have hml:=sB (g:=g) (l:=cl) (s:=aZ g i)
 have hl9:cG r9=some (bu g cl (aZ g i)).length:=by rw[or.len,bF]
 have hstep:(List.range (i+1)).foldl (c8 g cl at_) out0=c8 g cl at_ (A.map fun x=>x.2.2) i:=by rw[U4,UM,← hA]; rfl
 simp (disch:=omega) only [↓wr,seval,wq,ah,ag,ak,aa,ab,af,ai,ae,t1,t4,t5,t6,t7,hl9]
 refine av.eq (fun he=>?_) (fun he=>?_)
 ·have hnil:bu g cl (aZ g i)=[]:=Vn.1 (by omega)
  simp (disch:=omega) only [↓wr,seval,wq,ah,ag,ak,aa,ab,af,ai,ae,t1,t4,t5,t6,t7]
  exact aN hk (by omega) ⟨u,A,by rw[hstep,c8,T9 hnil],o9.tail,t1,t4,t5,t6,rfl⟩
 have hne:bu g cl (aZ g i)≠[]:=fun e=>he (by rw[e]; rfl)
 simp (disch:=omega) only [↓wr,seval,wq,ah,ag,ak,aa,ab,af,ai,ae,t1,t4,t5,t6,t7]
 have hfind:=LH (A.map fun x=>x.2.2) (by unfold aY; rw[Uc]; omega) (fun s hs=>KJ hf (iI.bh s hs)) (bu g cl (aZ g i)) (by unfold aY; omega)
 refine aE.AD hfind (by kernel_rfl) (.val _) ⟨eA.TW o9.tail.tail (fun x hx=>hx),eA.lr or,trivial⟩ ?_
 have hfl:=wb (A.map fun x=>x.2.2) (bu g cl (aZ g i))
 have hfg:=sx (A.map fun x=>x.2.2) (bu g cl (aZ g i))
 rw[Uc] at hfl
 have hat2:at_ < A.length:=by omega
 simp (disch:=omega) only [↓wr,seval,wq,ah,ag,ak,aa,ab,af,ai,ae,t1,t4,t5,t6,t7]
 obtain ⟨A1,x,A2,hAs,hA1,hx⟩:=mo hat2
 have hxe:x.2.2.bm.length≤40:=(iI.bm at_ x.2.2 (by rw[T8,hx]; rfl)).1
 have hgx:∀ B,(eJ (A1 ++ x :: B)).getD at_ []=[x.1,x.2.1]:=fun B=>by simp[eJ,T0,← hA1]
 have hput:∀ (B:List oW) (c:dC),((A1 ++ x :: B).map fun x=>x.2.2).modify at_ (fun s=>(⟨s.bh,s.bm ++ [c]⟩:aT))=(A1 ++ (x.1,x.2.1,(⟨x.2.2.bh,x.2.2.bm ++ [c]⟩:aT)) :: B).map fun x=>x.2.2:=fun B c=>by
  rw[UA,Uz,← hA1,← Uc (f:=fun x:oW=>x.2.2),Ct,UA,Uz]
 refine av.dec (fun hneg=>?_) (fun hneg=>?_)
 simp (disch:=omega) only [↓wr,seval,wq,ah,ag,ak,aa,ab,af,ai,ae,t1,t4,t5,t6,t7,hlu,or.cells,or.jt]
 intro q hq
 simp (disch:=omega) only [↓wr,seval,wq,ah,ag,ak,aa,ab,af,ai,ae,cb]
 have o10:=(o9.fresh (o:=.arr 2 [[r9,.emp 1]]) hq).at 2 (by simp)
 refine c6 o10 (by simp[or.jt,zk]) (by unfold aK; rw[cY]; simp; omega) (by unfold aK; rw[cY]; simp; omega) ?_
 intro u2 H10 o11 _
 simp only[List.getElem_cons_succ,List.getElem_cons_zero,List.eraseIdx_cons_succ,List.eraseIdx_cons_zero] at o11
 have o12:=(o11.emp (k:=1) (sz:=2)).perm RL
 have hst:c8 g cl at_ (A.map fun x=>x.2.2) i=((A1 ++ x :: (A2 ++ [(r9,.emp 1,(⟨bu g cl (aZ g i),[]⟩:aT))])).map fun x=>x.2.2).modify at_ (fun s=>(⟨s.bh,s.bm ++ [⟨aZ g i,(A.length:Int)⟩]⟩:aT)):=by
  rw[c8,T6 hne,T9 hneg,Uc]
  congr 1
  rw[hAs]; simp
 have o13:bt H10 ((u2,2,eJ (A1 ++ x :: (A2 ++ [(r9,.emp 1,(⟨bu g cl (aZ g i),[]⟩:aT))]))) :: (r,2,aS cl) :: lp (A1 ++ x :: (A2 ++ [(r9,.emp 1,(⟨bu g cl (aZ g i),[]⟩:aT))]))):=by
  have e1:eJ (A1 ++ x :: (A2 ++ [(r9,.emp 1,(⟨bu g cl (aZ g i),[]⟩:aT))]))=eJ A ++ [[r9,.emp 1]]:=by rw[hAs]; simp[eJ]
  have e2:lp (A1 ++ x :: (A2 ++ [(r9,.emp 1,(⟨bu g cl (aZ g i),[]⟩:aT))]))=lp A ++ [(r9,2,aS (bu g cl (aZ g i))),(.emp 1,2,[])]:=by rw[hAs]; simp[lp]; rfl
  rw[e1,e2]
  exact o12
 generalize (A2 ++ [(r9,V.emp 1,(⟨bu g cl (aZ g i),[]⟩:aT))])=B at hst o13
 generalize (A.length:Int)=to at hst ⊢
 rotate_left
 have hst:c8 g cl at_ (A.map fun x=>x.2.2) i=((A1 ++ x :: A2).map fun x=>x.2.2).modify at_ (fun s=>(⟨s.bh,s.bm ++ [⟨aZ g i,findD (A.map fun x=>x.2.2) (bu g cl (aZ g i))⟩]⟩:aT)):=by
  rw[c8,T6 hne,T6 hneg,← hAs]
 have o13:=o9.tail.perm (.swap _ _ _)
 clear or fr
 generalize H9=H10 at o9 o13 ⊢
 obtain ⟨u2,hu2⟩:∃ y,y=u:=⟨_,rfl⟩
 rw[← hu2] at o13 t4
 rw[hAs] at o13
 generalize findD (A.map fun x=>x.2.2) (bu g cl (aZ g i))=to at hst ⊢
 generalize A2=B at hst o13
 all_goals (
  obtain ⟨id,hu,hid⟩:=(show bf H10 u2 2 (eJ (A1 ++ x :: B)) from o13.head).sl (by rw[cY]; simp; omega)
  rw[cY] at hu
  rw[zj] at o13
  simp (disch:=omega) only [↓wr,seval,wq,ah,ag,ak,aa,ab,af,ai,ae,t1,t4,t5,t6,t7,hu,hid,hgx B]
  refine ⟨by simp; omega,by rw[cY]; simp; omega,?_⟩
  intro q2 hq2
  simp (disch:=omega) only [↓wr,seval,wq,ah,ag,ak,aa,ab,af,ai,ae,cb]
  refine c6 ((o13.perm Ng).fresh hq2) (by simp[aX]) (by unfold aK; simp[fW]; omega) (by unfold aK; simp[fW]; omega) ?_
  intro e2 H11 o14 _
  have hid2:H11 id=.arr 2 (eJ (A1 ++ x :: B)):=((o14.own 1 rfl).live (by rw[hu]; rfl)).1
  simp (disch:=omega) only [↓wr,seval,wq,ah,ag,ak,aa,ab,af,ai,ae,t1,t4,t5,t6,t7,hu,hid2,hgx B,o14.head.cells,o14.head.jt]
  have hset:(eJ (A1 ++ x :: B)).set at_ [x.1,e2]=eJ (A1 ++ (x.1,e2,(⟨x.2.2.bh,x.2.2.bm ++ [⟨aZ g i,to⟩]⟩:aT)) :: B):=by
   rw[← hA1]; simp[eJ]
  have hpd:fW (x.2.2.bm ++ [⟨aZ g i,to⟩])=fW x.2.2.bm ++ [[gi (aZ g i),gi to]]:=by simp[fW,kd]
  have o15:=o14.perm (.swap _ _ _)
  rw[hu] at o15
  have o16:=((o15.put (es':=eJ (A1 ++ (x.1,e2,(⟨x.2.2.bh,x.2.2.bm ++ [⟨aZ g i,to⟩]⟩:aT)) :: B)) (by rw[cY,cY]; simp) (by rw[cY])).perm (.swap _ _ _)).perm Ng.symm
  rw[← hpd] at o16
  have o17:=o16.perm (.swap _ _ _)
  rw[← hu] at o17
  rw[hset]
  refine ⟨by simp; omega,by rw[cY]; simp; omega,aN hk (by omega) ⟨u2,_,?_,by rw[zj]; exact o17,t1,by first | rfl | exact t4 | exact hu.symm,t5,t6,rfl⟩⟩
  rw[hstep,hst,hput]; simp)
end Gv
