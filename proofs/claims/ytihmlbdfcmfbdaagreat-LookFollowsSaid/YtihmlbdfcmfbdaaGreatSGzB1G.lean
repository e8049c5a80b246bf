/-
  Part 7 of the proof: what the machine does and what the functions answer.
  Conditions: those that each lemma names.
-/
import Derived.Test.YtihmlbdfcmfbdaaGreatSGzB1F
set_option linter.unusedSimpArgs false
set_option linter.unusedVariables false
set_option maxRecDepth 100000
namespace Gv
open Go Go.Proofs
inductive eh (h:aE):V→V→Prop
 | val (v:Value):eh h (.val v) (.val v)
 | emp (k:Nat):eh h (.emp k) (.aH [])
 | sl (id off len esz z:Nat) (es es':List (List V)):h.view id=.arr z es→off+len≤es.length→es'.length=len →
  (∀ i,i < len→(es'.getD i []).length=(es.getD (off+i) []).length) →
  (∀ i j,i < len→j < (es'.getD i []).length→eh h ((es.getD (off+i) []).getD j .any) ((es'.getD i []).getD j .any))→eh h (.sl id off len esz) (.aH es')
 | agg (cs cs':List V):cs'.length=cs.length→(∀ i,i < cs.length→eh h (cs.getD i .any) (cs'.getD i .any))→eh h (.agg cs) (.agg cs')
 | bt (cs cs':List V):cs'.length=cs.length→(∀ i,i < cs.length→eh h (cs.getD i .any) (cs'.getD i .any))→eh h (.bt cs) (.bt cs')
theorem OQ {h:aE} {Z:Nat→Prop} {μ ν:Mu} {F:View} {hp:Array Obj} (hr:gu Z μ hp (cat h F)) {v t:V} (fr:eh h v t):∀ {x:Value},aA Z μ hp v x→aA (iG μ) ν hp t x:=by
 have hcat:∀ id,h.view id≠.dead→cat h F id=h.view id:=fun id hd=>by simp only[cat]; rw[Ra (gJ hd)]
 induction fr with
 | val v=>intro x hx; cases hx with | val _ hv=>exact .val _ hv
 | emp k=>intro x hx; cases hx with | emp _ a=>exact .gM a 0 (fun _=>rfl)
 | sl id off len esz z es es' hH hle hlen hl _ ih =>
  intro x hx
  cases hx with
  | nh _ _ _ a =>
   have:es'=[]:=SV.1 hlen
   subst this
   exact .gM a 0 (fun _=>rfl)
  | sl _ _ _ _ b o0 cap c e f hm hlec hb hs =>
   have hor:=hr.obj id
   rw[hcat id (by rw[hH]; simp),hH] at hor
   obtain ⟨rfl,_,h3,h4⟩:=hor b o0 esz hm
   have hx:∀ i,∃ ci:Nat→Value,∀ j,j < esz→i < len→cellAt hp b (o0+off * esz+i * esz+j)=some (ci j)∧aA Z μ hp ((es.getD (off+i) []).getD j .any) (ci j):=by
    intro i
    by_cases hi:i < len
    ·obtain ⟨ci,hci⟩:=mb (n:=esz) (p:=fun j x=>cellAt hp b (o0+off * esz+i * esz+j)=some x∧aA Z μ hp ((es.getD (off+i) []).getD j .any) x) (fun j hj=>by
      obtain ⟨x,hx,hv⟩:=h4 (off+i) j (by omega) hj
      rw[RP,← S8] at hx
      exact ⟨x,hx,hv⟩)
     exact ⟨ci,fun j hj _=>hci j hj⟩
    ·exact ⟨fun _=>undef,fun j _ h=>absurd h hi⟩
   obtain ⟨cf,hcf⟩:=Classical.axiomOfChoice hx
   have hel:∀ i,i < es'.length→(es'.getD i []).length=esz:=fun i hi=>by rw[hl i (by omega)]; exact h3 _ (by omega)
   have:=aA.aH (Z:=iG μ) (μ:=ν) (hp:=hp) es' b (o0+off * esz) esz cap cf ⟨id,o0,esz,hm⟩ (by omega) hel
    (fun i j hi hj=>(hcf i j hj (by omega)).1) (fun i j hi hj=>ih i j (by omega) (by rw[hel i hi]; exact hj) (hcf i j hj (by omega)).2)
   rw[hlen] at this
   exact this
 | agg cs cs' hlen _ ih =>
  intro x hx
  cases hx with
  | agg _ aas h1 h2=>exact .agg _ _ (by omega) (fun i hi=>ih i (by omega) (h2 i (by omega)))
 | bt cs cs' hlen _ ih =>
  intro x hx
  cases hx with
  | bt _ aas h1 h2=>exact .bt _ _ (by omega) (fun i hi=>ih i (by omega) (h2 i (by omega)))
def de (P:Program) (f:FuncId) (vs:List V) (t:V):Prop :=
 ∀ Z μ (w:World) (xs:List Value),fi Z μ w.heap vs xs→(∀ b,Z b→b < w.heap.size) →
  Calls P f xs.toArray w fun e w'=>∃ x Z',e=.returned x∧(∀ ν,aA Z' ν w'.heap t x)∧dT w w'∧(∀ b,Z' b→w.heap.size≤b∧b < w'.heap.size)∧fq w.heap w'.heap (fun _=>False)
theorem de.pure {P:Program} {f:FuncId} {vs:List V} {t:V} (h:de P f vs t):aG P f vs t:=by
 intro Z μ w xs hrel hz
 refine (h Z μ w xs hrel hz).mono ?_
 rintro e w' ⟨x,Z',rfl,hv,hs,hz',ho⟩
 exact ⟨x,fun b=>Z b∨Z' b,rfl,fun ν=>(hv ν).mono ⟨fun _ h=>.inr h,fun _ _=>rfl,fun _ _ h=>h,eP.refl _⟩,hs,fun _ h=>.inl h,fun b hb=>hb.imp id (hz' b),ho⟩
theorem de.tv {P:Program} {f:FuncId} {vs:List V} {r t:V} {h':aE} (ht:∀ v∈vs,Tree v) (hc:bH P f vs [] r h') (hf:eh h' r t):de P f vs t:=by
 intro Z μ w xs hrel hz
 have hrel0:fi Z (fun _=>none) w.heap vs xs:=⟨hrel.1,fun i hi=>tt (hrel.2 i hi) (by
  simp only[Q6,Q7 hi,Rq]
  exact ht _ (Rj _))⟩
 have hr0:gu Z (fun _=>none) w.heap (cat [] fun _=>.dead):=by
  rw[AI]
  exact ⟨fun _=>trivial,fun i j b o s o' s' _ h=>by simp at h,fun id b o s h=>by simp at h,hz,fun id b o s h=>by simp at h⟩
 refine (hc.2 Z _ _ w xs hrel0 hr0 (fun _ _ _=>rfl)).mono ?_
 rintro e w' ⟨x,Z',μ',rfl,hv,hh,hex,_⟩
 refine ⟨x,iG μ',rfl,fun ν=>OQ hh hf hv,hex.same,?_,fun b hb _=>hex.frame b hb (by rintro ⟨_,_,_,h⟩; simp at h)⟩
 rintro b ⟨id,o,s,hb⟩
 rcases hex.zT _ _ _ _ hb with h1 | ⟨_,h1 | ⟨_,_,_,h1⟩⟩
 ·simp at h1
 ·exact ⟨h1,hh.lt _ _ _ _ hb⟩
 ·simp at h1
theorem de.of {P:Program} {f:FuncId} {vs:List V} {t:V} (ht:∀ v∈vs,Tree v) (h:aB P f vs (fun _=>.dead) fun r H'=>∀ h':aE,h'.view=H'→eh h' r t):de P f vs t:=by
 obtain ⟨r,h',ha,_,hf⟩:=h.2 [] CK
 exact de.tv ht ha (hf h' rfl)
theorem bH.s6 {P:Program} {f:FuncId} {ts vs:List V} {t:V} {h:aE} (hc:de P f ts t) (hl:ts.length=vs.length)
  (hfr:∀ i,i < vs.length→Fr h (vs.getD i .any) (ts.getD i .any)):bH P f vs h t h:=by
 refine ⟨Ri _,fun Z μ F w xs hrel hr hfree=>?_⟩
 have hts:fi (fun b=>Z b∨iG μ b) μ w.heap ts xs:=⟨by rw[hl,hrel.1],fun i hi=>zj hr (hfr i (by omega)) (hrel.2 i (by omega))⟩
 have hzl:∀ b,(Z b∨iG μ b)→b < w.heap.size:=by
  rintro b (hb | ⟨id,o,s,hb⟩)
  ·exact hr.cg b hb
  ·exact hr.lt _ _ _ _ hb
 refine (hc _ μ w xs hts hzl).mono ?_
 rintro e w' ⟨x,Z',rfl,hv,hs,hz',ho⟩
 have hm:gj Z (fun b=>Z b∨Z' b) μ μ w.heap w'.heap:=⟨fun _ h=>.inl h,fun b hb=>ho b (hr.cg b hb) (fun x=>x),fun _ _ h=>h,ho.oB⟩
 refine ⟨x,fun b=>Z b∨Z' b,μ,rfl,(hv μ).mono ⟨fun _ h=>.inr h,fun _ _=>rfl,fun _ _ h=>h,eP.refl _⟩,⟨fun id=>(hr.obj id).mono hm rfl (fun b o s hx=>ho b (hr.lt _ _ _ _ hx) (fun x=>x)),hr.inj,fun id b o s hx=>RC (hr.lt _ _ _ _ hx) hs.size,fun b hb=>?_,fun id b o s hx hzb=>?_⟩,
  ⟨hs,hm,fun b hb _=>ho b hb (fun x=>x),fun b hb=>hb.imp id (fun h=>(hz' b h).1),fun _ _ _ _ h=>.inl h⟩,fun _ _=>rfl⟩
 ·rcases hb with hb | hb
  ·exact RC (hr.cg b hb) hs.size
  ·exact (hz' b hb).2
 ·rcases hzb with hb | hb
  ·exact hr.gf _ _ _ _ hx hb
  ·have:=hr.lt _ _ _ _ hx; have:=(hz' b hb).1; omega
theorem aF.s6 {P:Program} {q:Bool} {f:FuncId} {H:View} {vs ts:List V} {K:V→View→Prop} {v:bX (H,K)} {t:V} (hc:de P f ts t) (hok:db P f=true) (hl:ts.length=vs.length)
  (hfr:∀ i,i < vs.length→fh H (vs.getD i .any) (ts.getD i .any)) (hk:K t H):aF P q f vs H K v:=by
 unfold aF
 cases q with
 | true=>exact ⟨hok,fun h e=>⟨t,h,bH.s6 hc hl (fun i hi=>hfr i hi h e),fun _ _=>rfl,e ▸ hk⟩⟩
 | false =>
  refine ⟨hok,?_⟩
  rintro h rfl
  exact ⟨t,h,bH.s6 hc hl (fun i hi=>hfr i hi h rfl),.refl _,hk⟩
noncomputable def mO (fz:V→Option V):List V→Option (List V)
 | []=>some []
 | v :: l=>match fz v,mO fz l with
  | some a,some b=>some (a :: b)
  | _,_=>none
noncomputable def AF (fz:V→Option V):List (List V)→Option (List (List V))
 | []=>some []
 | v :: l=>match mO fz v,AF fz l with
  | some a,some b=>some (a :: b)
  | _,_=>none
noncomputable def vy (H:View):Nat→V→Option V
 | 0,_=>none
 | k+1,v=>match v with
  | .val x=>some (.val x)
  | .emp _=>some (.aH [])
  | .sl id off len _=>match H id with
   | .arr _ es=>if off+len≤es.length then (AF (vy H k) ((es.drop off).take len)).map .aH else none
   | _=>none
  | .agg cs=>(mO (vy H k) cs).map .agg
  | .bt cs=>(mO (vy H k) cs).map .bt
  | _=>none
theorem gI {fz:V→Option V} : ∀ (l l':List V),mO fz l=some l'→l'.length=l.length∧∀ i,i < l.length→fz (l.getD i .any)=some (l'.getD i .any)
 | [],l',h=>by simp only[mO,Q8] at h; subst h; exact ⟨rfl,fun i hi=>by simp at hi⟩
 | v :: l,l',h=>by
  simp only[mO] at h
  split at h
  ·rename_i a b h1 h2
   simp only[Q8] at h; subst h
   obtain ⟨g1,g2⟩:=gI l b h2
   refine ⟨by simp[g1],fun i hi=>?_⟩
   cases i with
   | zero=>exact h1
   | succ i=>exact g2 i (by simpa using hi)
  ·simp at h
theorem AX {fz:V→Option V} : ∀ (l l':List (List V)),AF fz l=some l'→l'.length=l.length∧∀ i,i < l.length→mO fz (l.getD i [])=some (l'.getD i [])
 | [],l',h=>by simp only[AF,Q8] at h; subst h; exact ⟨rfl,fun i hi=>by simp at hi⟩
 | v :: l,l',h=>by
  simp only[AF] at h
  split at h
  ·rename_i a b h1 h2
   simp only[Q8] at h; subst h
   obtain ⟨g1,g2⟩:=AX l b h2
   refine ⟨by simp[g1],fun i hi=>?_⟩
   cases i with
   | zero=>exact h1
   | succ i=>exact g2 i (by simpa using hi)
  ·simp at h
theorem G8 (h:aE):∀ (k:Nat) (v t:V),vy h.view k v=some t→eh h v t
 | 0,v,t,hf=>by simp[vy] at hf
 | k+1,v,t,hf=>by
  have ih:=G8 h k
  simp only[vy] at hf
  split at hf
  ·simp only[Q8] at hf; subst hf; exact .val _
  ·simp only[Q8] at hf; subst hf; exact .emp _
  ·rename_i id off len esz
   split at hf
   ·rename_i z es hH
    split at hf
    ·rename_i hle
     simp only[Rf] at hf
     obtain ⟨es',he,rfl⟩:=hf
     obtain ⟨g1,g2⟩:=AX _ _ he
     have hlen:es'.length=len:=by rw[g1]; simp; omega
     have hg:∀ i,i < len→((es.drop off).take len).getD i []=es.getD (off+i) []:=fun i hi=>by
      simp[Q6,SE,hi]
     have g3:∀ i,i < len→mO (vy h.view k) (es.getD (off+i) [])=some (es'.getD i []):=fun i hi=>by
      rw[← hg i hi]; exact g2 i (by rw[← g1,hlen]; exact hi)
     exact .sl id off len esz z es es' hH hle hlen (fun i hi=>(gI _ _ (g3 i hi)).1) (fun i j hi hj=>ih _ _ ((gI _ _ (g3 i hi)).2 j (by rw[← (gI _ _ (g3 i hi)).1]; exact hj)))
    ·simp at hf
   ·simp at hf
  ·simp only[Rf] at hf
   obtain ⟨l,hl,rfl⟩:=hf
   obtain ⟨g1,g2⟩:=gI _ _ hl
   exact .agg _ _ g1 (fun i hi=>ih _ _ (g2 i hi))
  ·simp only[Rf] at hf
   obtain ⟨l,hl,rfl⟩:=hf
   obtain ⟨g1,g2⟩:=gI _ _ hl
   exact .bt _ _ g1 (fun i hi=>ih _ _ (g2 i hi))
  ·simp at hf
noncomputable def N3:Option (V × ES)→Option V
 | some (v,e)=>vy e.V 50 v
 | none=>none
noncomputable def wX (P:Program) (tab:List (FuncId × DF)) (ext:vd) (f:FuncId) (vs:List V):Option V :=
 N3 (Df P tab ext (Ec P tab ext 100000) f vs ⟨.nil,.nil,0,[]⟩)
theorem tQ {P:Program} (hm:P.follows .mixedOrders=true) {tab:List (FuncId × DF)} {ext:vd} (ht:rm P tab) (hx:qw P ext) {f:FuncId} {vs:List V} {t:V} (hvs:∀ v∈vs,Tree v) (h:wX P tab ext f vs=some t) :
  de P f vs t:=by
 unfold wX N3 at h
 split at h
 ·rename_i v e hr
  obtain ⟨h1,h',h2,h3,_⟩:=EA ht hx (GY hm ht hx 100000) f vs _ v e [] hr ⟨by funext k; rfl,rfl⟩
  rw[h3.1] at h
  exact de.tv hvs h2 (G8 h' 50 v t h)
 ·simp at h
def zr (P:Program) (fs:List (FuncId × List Nat)):List (FuncId × DF):=fs.filterMap fun f=>(EX P f.1 f.2).map (f.1,·)
theorem yb (P:Program) (fs:List (FuncId × List Nat)):rm P (zr P fs):=by
 intro p hp
 unfold zr at hp
 obtain ⟨f,_,h⟩:=Sf.1 hp
 simp only[Rf] at h
 obtain ⟨d,h1,rfl⟩:=h
 exact ⟨f.2,h1⟩
structure ao.dL (g:ao):Prop where
 av:g.av.length≤24
 pN:1≤g.az.length
 az:g.az.length≤16
 Pq:1≤g.rules.length
 rules:g.rules.length≤40
 jT:0≤g.start
 start:g.start < g.az.length
 left:∀ r∈g.rules,0≤r.left∧r.left < g.az.length
 right:∀ r∈g.rules,r.right.length≤6
 sym:∀ r∈g.rules,∀ s∈r.right,gP g s=true
 prec:∀ r∈g.rules,-1≤r.prec∧r.prec < g.av.length
theorem wD {g:ao} : ∀ (l:List aM) (top:Int),gm g l top=true→top≤(g.az.length:Int) - 1∧∀ r∈l,0≤r.left∧r.left < g.az.length∧gZ g r=true
 | [],top,h=>by simp[gm] at h; exact ⟨by omega,fun r hr=>by simp at hr⟩
 | r :: l,top,h=>by
  simp only[gm,Rg,Rn] at h
  obtain ⟨⟨⟨h1,h2⟩,h3⟩,h4⟩:=h
  obtain ⟨k1,k2⟩:=wD l _ h4
  have h5:r.left≤(if r.left > top then r.left else top):=by split <;> omega
  have h6:top≤(if r.left > top then r.left else top):=by split <;> omega
  refine ⟨by omega,fun r' hr=>?_⟩
  rcases Rm.1 hr with rfl | hr
  ·exact ⟨h1,by omega,h3⟩
  ·exact k2 r' hr
theorem bL {g:ao} (h:bE g=true):g.dL:=by
 simp only[bE,jr,jQ,Rg,Rn] at h
 obtain ⟨⟨⟨⟨⟨⟨⟨h1,_⟩,⟨h2,h3⟩,_⟩,h4⟩,h5⟩,h6⟩,h7⟩,h8⟩:=h
 have k:=(wD _ _ h8).2
 have hb:∀ r∈g.rules,r.right.length≤6∧-1≤r.prec∧r.prec < g.av.length∧∀ s∈r.right,gP g s=true:=fun r hr=>by
  have:=(k r hr).2.2
  simp only[gZ,Rg,Rn,RD,lA] at this
  exact ⟨this.1.1.1,this.1.1.2,this.1.2,fun s hs=>(this.2 s hs).1⟩
 exact ⟨h1,h2,h3,h4,h5,h6,h7,fun r hr=>⟨(k r hr).1,(k r hr).2.1⟩,fun r hr=>(hb r hr).1,fun r hr=>(hb r hr).2.2.2,fun r hr=>⟨(hb r hr).2.1,(hb r hr).2.2.1⟩⟩
theorem ao.dL.neg {g:ao} (h:g.dL) {r:aM} (hr:r∈g.rules) {s:Int} (hs:s∈r.right) (hn:s < 0) : -1 - s < g.az.length:=by
 have:=h.sym r hr s hs
 simp only[gP] at this
 rw[Q9 (by omega)] at this
 simpa using this
theorem OT (l:List Int) (is:List Bool) (t:Bool) (hl:aV l) (hs:∀ s∈l,cm s∧(s < 0→-1 - s < is.length)):aG Tryz.prog 117 [encI l,bG is,gb t] (gb (bZ l is t)) :=
 aG.val (by
  intro v hv; simp at hv
  rcases hv with rfl | rfl | rfl
  ·exact gD _
  ·exact gG _
  ·exact .val _) (fun H=>(Pz l is t hl hs H).mono fun r H' h=>h.1)
abbrev cR (is:List Bool):List (List V):=is.map fun x=>[gb x]
theorem BR {h:aE} {id:Nat} {is:List Bool} (hv:h.view id=.arr 1 (cR is)):eh h (.sl id 0 is.length 1) (bG is):=by
 refine .sl id 0 is.length 1 1 (cR is) _ hv (by simp) (by simp) (fun i hi=>by simp) (fun i j hi hj=>?_)
 rw[R8]
 have e:(cR is).getD i []=[gb is[i]]:=by simp[Q6,hi]
 rw[e] at hj ⊢
 have:j=0:=by simp at hj; omega
 subst this
 exact .val _
theorem zI {H:View} {id n:Nat} {is:List Bool} (hv:H id=.arr 1 (cR is)) (hn:n=is.length):fh H (.sl id 0 n 1) (bG is):=by
 have ht:∀ e∈cR is,∀ v∈e,Tree v:=by
  intro e he v hv
  obtain ⟨a,_,rfl⟩:=Rv.1 he
  rw[RU] at hv
  subst hv
  exact .val _
 have:=fh.sl (off:=0) (len:=n) (esz:=1) hv (by simp[hn]) ht
 rwa [SK,Rz (by simp[hn])] at this
theorem wj {is:List Bool} {i:Nat} (h:i < is.length):(cR is).getD i []=[gb is[i]]:=by simp[Q6,h]
theorem qU (is:List Bool) (i:Nat) (b:Bool):(cR is).set i [gb b]=cR (is.set i b):=by simp[Sr]
theorem BW (n:Nat) (b:Bool):List.replicate n [gb b]=cR (List.replicate n b):=by simp
def iter {α:Type} (f:α→α):Nat→α→α
 | 0,x=>x
 | n+1,x=>iter f n (f x)
def dP (t:Bool) (is:List Bool) (r:aM):List Bool:=if bZ r.right is t=true then is.set r.left.toNat true else is
def js (g:ao) (t:Bool) (is:List Bool):List Bool:=g.rules.foldl (dP t) is
def cn (g:ao):List Bool:=List.replicate g.az.length false
def au (g:ao) (t:Bool):List Bool:=if bE g=true then iter (js g t) g.az.length (cn g) else []
theorem IY (t:Bool) (is:List Bool) (r:aM):(dP t is r).length=is.length:=by unfold dP; split <;> simp
def lJ:SC :=
 .seq (.seq (an [aj 22 7,aC 23 2 2,ay 24 23,bj 25 24,bz 26 .lss 22 25]) <|
 .cond (.tmp 26) (.skip) (.exit 2)) <|
 .seq (.block 3 (.seq (an [aC 29 2 2,ay 30 29,aj 31 7,aY 32 3 30 31,aC 33 1 32,ay 34 33,aj 35 5,aj 36 1,bJ 37 117 [34,35,36]]) <|
 .cond (.tmp 37) (an [aj 38 5,aC 39 2 2,ay 40 39,aj 41 7,aY 42 3 40 41,aC 43 0 42,ay 44 43,aY 45 1 38 44,(none,.op (.store 1 (.tmp 45) (.val (.val (.bool true)))))]) (.skip))) <|
 an [aj 27 7,aR 28 .add 27 1,aj 7 28]
def lQ:SC :=
 .seq (.seq (an [aj 15 6,aC 16 1 2,ay 17 16,bj 18 17,bz 19 .lss 15 18]) <|
 .cond (.tmp 19) (.skip) (.exit 0)) <|
 .seq (.block 1 (.seq (an [bA 7 0]) <|
 .block 2 (.loop lJ))) <|
 an [aj 20 6,aR 21 .add 20 1,aj 6 21]
def mV:SF:=⟨.seq (an [dN 2 0,((some 4),.op (.bN (.val (.emp 1))))]) <|
 .seq (.seq (an [bM 8 4 2,bJ 9 54 [8],dm 10 9]) <|
 .cond (.tmp 10) (.seq (an [((some 4),.op (.bN (.val (.emp 1))))]) <|
 .ret) (.skip)) <|
 .seq (an [aC 11 1 2,ay 12 11,bj 13 12,((some 14),.op (.make 1 1 [(.val (.bool false))] (.tmp 13) (.tmp 13))),aj 5 14]) <|
 .seq (.seq (an [bA 6 0]) <|
 .block 0 (.loop lQ)) <|
 .seq (an [aj 46 5,aj 4 46]) <|
 .ret,
 [.tmp 4],47⟩
theorem rO:aU Tryz.prog 125 [2]=some mV:=by kernel_rfl
def kO:SF:=⟨.seq (an [dN 1 0,((some 2),.op (.bN (.val (.emp 1))))]) <|
 .seq (an [bM 3 4 1,p7 4 125 [(.tmp 3),(.val (.val (.bool false)))],aj 2 4]) <|
 .ret,
 [.tmp 2],5⟩
theorem pv:aU Tryz.prog 81 [1]=some kO:=by kernel_rfl
theorem Md (g:ao) (t:Bool):∀ v∈[V.agg (aw g),gb t],Tree v:=by
 intro v hv; simp at hv
 rcases hv with rfl | rfl
 ·exact dS _ (eX g)
 ·exact .val _
set_option maxHeartbeats 2000000 in
theorem ME (g:ao) (hg:g.Ok) (t:Bool) (H:View):aB Tryz.prog 125 [.agg (aw g),gb t] H fun r H'=>∀ h':aE,h'.view=H'→eh h' r (bG (au g t)):=by
 refine aB.of mixed rO ?_
 simp (disch:=omega) only [↓wr,seval,wq,ah,ag,ak,aa,ab,af,ai,ae,mV,aw,encS]
 refine aF.pure (ud g hg) (by kernel_rfl) ?_
 repeat' (first | (refine aq.dec (fun _=>?_) (fun _=>?_)) | (refine aq.eq (fun _=>?_) (fun _=>?_)) | (refine aq.ne (fun _=>?_) (fun _=>?_)) | (refine aq.split (fun _=>?_) (fun _=>?_)) | (simp (disch:=omega) only [↓wr,seval,wq,ah,ag,ak,aa,ab,af,ai,ae,aw,encS]))
 ·rename_i hr
  have hf:=bL hr
  obtain ⟨hN1,hN2⟩:=And.intro hf.pN hf.az
  refine ⟨⟨by omega,by unfold aK; omega,by unfold aK; omega⟩,fun hz=>by omega,fun _ m hm=>?_⟩
  try simp (disch:=omega) only [↓wr,seval,wq,ah,ag,ak,aa,ab,af,ai,ae,aw,encS]
  refine bg.intro (fun k T H'=>∃ (i:Nat) (is:List Bool),i+k=g.az.length∧is.length=g.az.length∧iter (js g t) k is=iter (js g t) g.az.length (cn g)∧T 1=gb t∧T 2=.aL (aw g) 0∧T 5=.sl m 0 g.az.length 1∧H' m=.arr 1 (cR is)∧T 6=gi i) g.az.length ?_ ?_
  ·refine ⟨0,cn g,by omega,by simp[cn],rfl,?_⟩
   simp (disch:=omega) only [↓wr,↓reduceIte,wq,ah,ag,ak,aa,ab,af,ai,ae,Nat.reduceEqDiff,Nat.reduceAdd,Nat.reduceLT,Nat.reduceLeDiff,Int.reduceNeg,Int.reduceToNat,reduceCtorEq,aw,encS]
   exact ⟨by rw[BW]; rfl,rfl⟩
  ·rintro k T H' ⟨i,is,hk,hlen,hi,f1,f2,f5,fm,f6⟩
   simp (disch:=omega) only [↓wr,seval,wq,ah,ag,ak,aa,ab,af,ai,ae,lQ,f1,f2,f5,f6,aw,encS]
   refine aq.dec (fun hc=>?_) (fun hc=>?_)
   ·simp (disch:=omega) only [↓wr,seval,wq,ah,ag,ak,aa,ab,af,ai,ae,f1,f2,f5,f6,aw,encS]
    refine bg.intro (fun k' T H'=>∃ (j:Nat) (is':List Bool),j+k'=g.rules.length∧is'.length=g.az.length∧(g.rules.drop j).foldl (dP t) is'=js g t is∧T 1=gb t∧T 2=.aL (aw g) 0∧T 5=.sl m 0 g.az.length 1∧H' m=.arr 1 (cR is')∧T 6=gi i∧T 7=gi j) g.rules.length ?_ ?_
    ·refine ⟨0,is,by omega,hlen,rfl,?_⟩
     simp (disch:=omega) only [↓wr,↓reduceIte,wq,ah,ag,ak,aa,ab,af,ai,ae,Nat.reduceEqDiff,Nat.reduceAdd,Nat.reduceLT,Nat.reduceLeDiff,Int.reduceNeg,Int.reduceToNat,reduceCtorEq,f1,f2,f5,f6,fm,aw,encS]
     rfl
    ·rintro k' T' H'' ⟨j,is',hk',hlen',hj,e1,e2,e5,em,e6,e7⟩
     simp (disch:=omega) only [↓wr,seval,wq,ah,ag,ak,aa,ab,af,ai,ae,lJ,e1,e2,e5,e6,e7,aw]
     refine aq.dec (fun hd=>?_) (fun hd=>?_)
     ·have hle:=hf.rules
      have hg2:g.rules[j]?=some (g.rules[j]'(by omega)):=Q7 (by omega)
      rw[eC (show j < g.rules.length by omega)] at hj
      have hmem:g.rules[j]'(by omega)∈g.rules:=Rj _
      generalize g.rules[j]'(by omega)=r at hg2 hj hmem
      simp only[Rx] at hj
      obtain ⟨hl1,hl2⟩:=hf.left r hmem
      obtain ⟨_,_,hs1,hs2⟩:=hg.aD r hmem
      have hall:=OT r.right is' t hs1 (fun s hs=>⟨hs2 s hs,fun hn=>by have:=hf.neg hmem hs hn; omega⟩)
      simp (disch:=omega) only [↓wr,seval,wq,ah,ag,ak,aa,ab,af,ai,ae,e1,e2,e5,e6,e7,aw,encS,aO,Rc,hg2,Rk]
      refine aF.borrow hall (by kernel_rfl) (.val _) rfl (fun q hq=>?_) ?_
      ·match q,hq with
       | 0,_=>exact fh.tree (gD _)
       | 1,_=>exact zI em hlen'.symm
       | 2,_=>exact fh.tree (.val _)
      ·simp (disch:=omega) only [↓wr,seval,wq,ah,ag,ak,aa,ab,af,ai,ae,e1,e2,e5,e6,e7,aw,encS,aO,Rc,hg2,Rk]
       refine aq.split (fun ha=>?_) (fun ha=>?_)
       ·have hst:dP t is' r=is'.set r.left.toNat true:=by rw[dP,Ra ha]
        simp (disch:=omega) only [↓wr,seval,wq,ah,ag,ak,aa,ab,af,ai,ae,e1,e2,e5,e6,e7,em,aw,encS,aO,Rc,hg2,Rk,wj (show r.left.toNat < is'.length by omega)]
        rw[hst] at hj
        exact ⟨by omega,by omega,k' - 1,by omega,j+1,is'.set r.left.toNat true,by omega,by simp[hlen'],hj,by rw[qU],rfl⟩
       ·have hst:dP t is' r=is':=by rw[dP,Q9 (by rw[ha]; simp)]
        rw[hst] at hj
        simp (disch:=omega) only [↓wr,seval,wq,ah,ag,ak,aa,ab,af,ai,ae,e1,e2,e5,e6,e7]
        exact ⟨k' - 1,by omega,j+1,is',by omega,hlen',hj,by first | rfl | exact ⟨rfl,rfl⟩ | exact ⟨em,rfl⟩ | exact ⟨rfl,em,rfl⟩⟩
     ·rw[RB (by omega),SD] at hj
      simp (disch:=omega) only [↓wr,seval,wq,ah,ag,ak,aa,ab,af,ai,ae,e1,e2,e5,e6,e7]
      obtain ⟨q,rfl⟩:∃ q,k=q+1:=⟨k - 1,by omega⟩
      exact ⟨q,by omega,i+1,is',by omega,hlen',by rw[hj]; exact hi,rfl,em,rfl⟩
   ·simp (disch:=omega) only [↓wr,seval,wq,ah,ag,ak,aa,ab,af,ai,ae,f1,f2,f5,f6,fm]
    have:k=0:=by omega
    subst this
    rintro h' rfl
    simp only[au,Ra hr,← hi,iter]
    rw[← hlen]
    exact BR fm
 ·rename_i hr
  rintro h' rfl
  simp only[au,hr]
  exact .emp 1
theorem L1 (g:ao) (hg:g.Ok) (t:Bool):de Tryz.prog 125 [.agg (aw g),gb t] (bG (au g t)):=de.of (Md g t) (ME g hg t _)
theorem CY (g:ao) (hg:g.Ok) (H:View):aB Tryz.prog 81 [.agg (aw g)] H fun r H'=>r=bG (au g false)∧H'=H:=by
 refine aB.of mixed pv ?_
 simp (disch:=omega) only [↓wr,seval,wq,ah,ag,ak,aa,ab,af,ai,ae,kO,aw,encS]
 refine aF.pure (L1 g hg false).pure (by kernel_rfl) ?_
 simp (disch:=omega) only [↓wr,seval,wq,ah,ag,ak,aa,ab,af,ai,ae,aw,encS]
theorem uK (g:ao) (hg:g.Ok):aG Tryz.prog 81 [.agg (aw g)] (bG (au g false)) :=
 aG.of (eU g) ((CY g hg _).mono fun r H' h h' _=>by rw[h.1]; exact .tree _ (gG _))
def mark (is:List Bool) (s:Int):List Bool:=if s < 0 then is.set (-1 - s).toNat true else is
def jE (p is:List Bool) (r:aM):List Bool:=if (is.getD r.left.toNat false && bZ r.right p true)=true then r.right.foldl mark is else is
def sw (g:ao) (p is:List Bool):List Bool:=g.rules.foldl (jE p) is
def bP (g:ao):List Bool:=if bE g=true then iter (sw g (au g true)) g.az.length ((cn g).set g.start.toNat true) else []
theorem Ml (is:List Bool) (s:Int):(mark is s).length=is.length:=by unfold mark; split <;> simp
theorem Co:∀ (l:List Int) (is:List Bool),(l.foldl mark is).length=is.length
 | [],_=>rfl
 | s :: l,is=>by rw[Rx,Co l,Ml]
theorem KO (p is:List Bool) (r:aM):(jE p is r).length=is.length:=by unfold jE; split <;> simp[Co]
theorem yc {f:List Bool→List Bool} (hf:∀ is,(f is).length=is.length):∀ (n:Nat) (is:List Bool),(iter f n is).length=is.length
 | 0,_=>rfl
 | n+1,is=>by rw[iter,yc hf n,hf]
theorem x6 {α:Type} {f:List Bool→α→List Bool} (hf:∀ is x,(f is x).length=is.length):∀ (l:List α) (is:List Bool),(l.foldl f is).length=is.length
 | [],_=>rfl
 | x :: l,is=>by rw[Rx,x6 hf l,hf]
theorem fG {g:ao} (h:bE g=true) (t:Bool):(au g t).length=g.az.length:=by
 have hl:∀ is,(js g t is).length=is.length:=fun is=>x6 (IY t) _ _
 rw[au,Ra h,yc hl]
 simp[cn]
noncomputable def vI:List (FuncId × DF):=zr Tryz.prog [(148,[]),(147,[]),(233,[]),(234,[])]
theorem rA:rm Tryz.prog vI:=yb _ _
theorem NR (P:Program):qw P (fun _ _ _=>none):=fun _ _ _ _ h=>by simp at h
def Pf (o:Option V) (b:Bool):Bool:=match o with
 | some (.val (.bool c))=>c == b
 | _=>false
theorem Px {o:Option V} {b:Bool} (h:Pf o b=true):o=some (gb b):=by
 unfold Pf at h
 split at h
 ·rw[Sd] at h; rw[h]
 ·simp at h
noncomputable def vr (tab:List (FuncId × DF)) (f:FuncId) (p:Int→Bool):Bool:=(List.range 256).all fun c=>Pf (wX Tryz.prog tab (fun _ _ _=>none) f [gy (c:Int)]) (p (c:Int))
theorem tJ {tab:List (FuncId × DF)} (ht:rm Tryz.prog tab) {f:FuncId} {p:Int→Bool} (h:vr tab f p=true) (c:Int) (h0:0≤c) (h1:c≤255):aG Tryz.prog f [gy c] (gb (p c)):=by
 have:=RD.1 h c.toNat (by simp; omega)
 rw[show ((c.toNat:Nat):Int)=c by omega] at this
 exact (tQ mixed ht (NR _) (by intro v hv; simp at hv; subst hv; exact .val _) (Px this)).pure
def uW (c:Int):Bool:=decide (32≤c) && decide (c≤126) && c != 39 && c != 92
def AU (c:Int):Bool:=c == 110 || c == 116 || c == 92 || c == 39
theorem IC:vr vI 147 sZ=true:=by kernel_rfl
theorem Kd:vr vI 148 mM=true:=by kernel_rfl
theorem LI:vr vI 233 uW=true:=by kernel_rfl
theorem OK:vr vI 234 AU=true:=by kernel_rfl
theorem Bz {s:ByteArray} {c:Int} (h:c∈eO s):0≤c∧c≤255:=by
 unfold eO at h
 obtain ⟨b,_,rfl⟩:=Rv.1 h
 have:=b.toNat_lt
 omega
theorem Lz (s:ByteArray):fU s=(eO s).map fun x=>[gy x]:=by simp[fU,eO]
noncomputable def Hy:List (FuncId × DF):=zr Tryz.prog [(49,[]),(94,[]),(134,[]),(177,[]),(212,[]),(213,[]),(214,[]),(215,[]),(232,[]),(178,[]),(216,[]),(179,[]),(194,[]),(193,[]),(192,[]),(217,[]),(218,[]),(219,[]),(135,[]),(183,[]),(182,[]),(220,[]),(221,[]),(181,[]),(184,[]),(180,[]),(95,[1]),(138,[3]),(151,[]),(154,[]),(140,[4]),(186,[4]),(139,[2]),(152,[2]),(223,[3]),(136,[]),(185,[5]),(222,[]),(137,[])]
theorem I6:rm Tryz.prog Hy:=yb _ _
def yk (l:List Int):V:=.aH (l.map fun x=>[gy x])
theorem Jy (l:List Int):Tree (yk l):=eT _ _ fun x _ v hv=>by simp at hv; subst hv; exact .val _
def pS (g:ao):V:=.bt [.agg (aw g),.val (.complex .f64 0 0),gi 0]
theorem Gw {l:List Int} {g:ao} (h:wX Tryz.prog Hy (fun _ _ _=>none) 49 [yk l]=some (pS g)):de Tryz.prog 49 [yk l] (pS g) :=
 tQ mixed I6 (NR _) (by intro v hv; simp at hv; subst hv; exact Jy _) h
abbrev bF (κ:Type):=List (κ × V × Nat)
def bW {κ:Type} (key:κ→Value) (m:bF κ):List (V × V × Nat):=m.map fun x=>(.val (key x.1),x.2.1,x.2.2)
def getM {κ:Type} [BEq κ] (m:bF κ) (k:κ):Option V:=(m.find? fun x=>k == x.1).map (·.2.1)
def bu {κ:Type} [BEq κ] (k:κ) (v:V) (c:Nat):bF κ→bF κ
 | []=>[(k,v,c)]
 | x :: r=>if k == x.1 then (k,v,x.2.2) :: r else x :: bu k v c r
structure xY {κ:Type} [BEq κ] (P:Program) (kt:TypeId) (key:κ→Value):Prop where
 ty:∃ d,P.underlying kt=some d∧(∀ a b,Instr.sameNow d (key a) (key b)=some (a == b))∧(∀ a e,bp P (Instr.checkKey e 10000 kt (key a))=some ())
 bits:∀ a b,(a == b)=true→Instr.sameBits 10000 (key b) (key a)=true
theorem sJ {κ:Type} (key:κ→Value):∀ m:bF κ,gv (bW key m)=some (m.map fun x=>{ key:=key x.1,val:=.nilFunc,born:=x.2.2 })
 | []=>rfl
 | x :: r=>by
  have:=sJ key r
  simp only[bW] at this
  simp[bW,gv,cJ,this]
def fT {κ:Type} [BEq κ] (k:κ):bF κ→Option Nat
 | []=>none
 | x :: r=>if k == x.1 then some 0 else (fT k r).map (·+1)
theorem xR {κ:Type} [BEq κ] {key:κ→Value} {d:TypeDesc} (h:∀ a b,Instr.sameNow d (key a) (key b)=some (a == b)) (k:κ):∀ (m:bF κ) (i:Nat),
  Instr.findNow d (key k) (m.map fun x=>{ key:=key x.1,val:=.nilFunc,born:=x.2.2 }) i=some ((fT k m).map fun j=>(i+j,.nilFunc))
 | [],i=>rfl
 | x :: r,i=>by
  simp only[RE,Instr.findNow,h,fT]
  cases hk:k == x.1 with
  | true=>simp
  | false =>
   simp only[xR h k r (i+1),Ru,if_false,Option.map_map]
   congr 2
   funext j
   simp only[Function.comp]
   congr 1
   omega
theorem vY {κ:Type} [BEq κ] {P:Program} {kt:TypeId} {key:κ→Value} (h:xY P kt key) (k:κ) (e:Bool) (m:bF κ):kV P kt (.val (key k)) e (bW key m)=some (fT k m):=by
 obtain ⟨d,hd,hn,hc⟩:=h.ty
 have hu:bp P (underlying kt)=some d:=dB hd
 simp only[kV,cJ,sJ,aW,hc,RK]
 have:bp P (Instr.findKey kt (key k) (m.map fun x=>{ key:=key x.1,val:=.nilFunc,born:=x.2.2 }))=some ((fT k m).map fun j=>(0+j,.nilFunc)):=by
  unfold Instr.findKey
  rw[aW,hu,RK,xR hn]
  rfl
 rw[this]
 cases fT k m with
 | none=>rfl
 | some j=>simp
theorem tz {P:Program} {kt:TypeId} {d:TypeDesc} (h:P.underlying kt=some d) (hd:match d with | .int _ | .string | .bool=>True | _=>False) (e:Bool) (n:Nat) (v:Value):bp P (Instr.checkKey e (n+1) kt v)=some ():=by
 unfold Instr.checkKey
 rw[aW,dB h,RK]
 cases d <;> first | exact hd.elim | rfl
theorem jX {P:Program} {kt:TypeId} (k:IntKind) (h:P.underlying kt=some (.int k)):xY P kt (Value.int k) where
 ty:=⟨_,h,fun a b=>by simp[Instr.sameNow],fun a e=>tz h trivial e 9999 _⟩
 bits:=fun a b hab=>by
  have:a=b:=by simpa using hab
  subst this
  simp[Instr.sameBits]
theorem tB {κ:Type} [BEq κ] {key:κ→Value} (k:κ):∀ m:bF κ,match fT k m with
  | some i=>∃ x,m[i]?=some x∧(k == x.1)=true∧getM m k=some x.2.1∧(bW key m)[i]?=some (.val (key x.1),x.2.1,x.2.2)∧∀ v c,(bW key m).set i (.val (key k),v,x.2.2)=bW key (bu k v c m)∧(bu k v c m).length=m.length
  | none=>getM m k=none∧∀ v c,bW key m ++ [(.val (key k),v,c)]=bW key (bu k v c m)∧(bu k v c m).length=m.length+1
 | []=>⟨rfl,fun v c=>⟨rfl,rfl⟩⟩
 | x :: r=>by
  have ih:=tB (key:=key) k r
  simp only[fT]
  cases hk:k == x.1 with
  | true=>exact ⟨x,rfl,hk,by simp[getM,hk],rfl,fun v c=>by simp[bu,hk,bW]⟩
  | false =>
   simp only[Ru,if_false]
   cases hi:fT k r with
   | some i =>
    rw[hi] at ih
    obtain ⟨y,h1,h2,h3,h4,h5⟩:=ih
    refine ⟨y,by simpa using h1,h2,by simpa [getM,hk] using h3,by simpa [bW] using h4,fun v c=>?_⟩
    obtain ⟨g1,g2⟩:=h5 v c
    exact ⟨by simp only[bW] at g1 ⊢; simp[bu,hk,g1],by simp[bu,hk,g2]⟩
   | none =>
    rw[hi] at ih
    refine ⟨by simpa [getM,hk] using ih.1,fun v c=>?_⟩
    obtain ⟨g1,g2⟩:=ih.2 v c
    exact ⟨by simp only[bW] at g1 ⊢; simp[bu,hk,g1],by simp[bu,hk,g2]⟩
section
variable {P:Program} {T:Env} {H:View} {κ:Type} [BEq κ] {key:κ→Value} {kt et t ty:TypeId}
theorem wW {K:V→View→Prop} {w:bX (T,H,K)} {x i:Operand} {z:V} {id c:Nat} {m:bF κ} {k:κ} (hm:cT P t=some (kt,et)) (hz:zeroV P et=some z) (hk:xY P kt key)
  (hx:ev T x=.mp id) (hi:ev T i=.val (key k)) (hH:H id=.map (bW key m) c) (h:K ((getM m k).getD z) H):jD P (.lookup t x i false) ty T H K w:=by
 intro n _
 have hf:=vY hk k (bW key m).isEmpty m
 have hg:=tB (key:=key) k m
 refine ⟨(getM m k).getD z,.none,[id],?_,h⟩
 simp only[sI,bV,oper,eV,hm,hz,hx,hi,hH,hf]
 cases hj:fT k m with
 | some j =>
  rw[hj] at hg
  obtain ⟨y,h1,h2,h3,h4,_⟩:=hg
  simp[h4,h3]
 | none =>
  rw[hj] at hg
  simp[hg.1]
theorem NK {K:V→View→Prop} {w:bX (T,H,K)} {x i:Operand} {z:V} {id c:Nat} {m:bF κ} {k:κ} (hm:cT P t=some (kt,et)) (hz:zeroV P et=some z) (hk:xY P kt key)
  (hx:ev T x=.mp id) (hi:ev T i=.val (key k)) (hH:H id=.map (bW key m) c) (h:K (.bt [(getM m k).getD z,.val (.bool (getM m k).isSome)]) H):jD P (.lookup t x i true) ty T H K w:=by
 intro n _
 have hf:=vY hk k (bW key m).isEmpty m
 have hg:=tB (key:=key) k m
 refine ⟨_,.none,[id],?_,h⟩
 simp only[sI,bV,oper,eV,hm,hz,hx,hi,hH,hf]
 cases hj:fT k m with
 | some j =>
  rw[hj] at hg
  obtain ⟨y,h1,h2,h3,h4,_⟩:=hg
  simp[h4,h3]
 | none =>
  rw[hj] at hg
  simp[hg.1]
theorem Nd (hk:xY P kt key) (k k':κ) (h:(k == k')=true):sameKey (.val (key k')) (.val (key k))=true:=by
 simp only[sameKey,cJ]; exact hk.bits _ _ h
theorem sQ {K:V→View→Prop} {w:bX (T,H,K)} {x i y:Operand} {id c:Nat} {m:bF κ} {k:κ} {v:V} (hm:cT P t=some (kt,et)) (hk:xY P kt key)
  (hx:ev T x=.mp id) (hi:ev T i=.val (key k)) (hy:ev T y=v) (hH:H id=.map (bW key m) c)
  (h:∀ c',K .any (H.set id (.map (bW key (bu k v c m)) c'))):jD P (.mapUpdate t x i y) ty T H K w:=by
 intro n _
 have hf:=vY hk k false m
 have hg:=tB (key:=key) k m
 cases hj:fT k m with
 | some j =>
  rw[hj] at hg hf
  obtain ⟨z,h1,h2,h3,h4,h5⟩:=hg
  refine ⟨.any,.ep id (.map ((bW key m).set j (.val (key k),v,z.2.2)) c),[id],?_,?_⟩
  ·simp only[sI,bV,oper,er,hm,hx,hi,hy,hH,hf,h4,Nd hk k z.1 h2,if_true]
  ·rw[(h5 v c).1]; exact h c
 | none =>
  rw[hj] at hg hf
  refine ⟨.any,.ep id (.map (bW key m ++ [(.val (key k),v,c)]) (c+1)),[id],?_,?_⟩
  ·simp only[sI,bV,oper,er,hm,hx,hi,hy,hH,hf]
  ·rw[(hg.2 v c).1]; exact h (c+1)
theorem O9 {P:Program} {T:Env} {H:View} {t ty:TypeId} {x i y:Operand} {K:V→View→Prop} {w:bX (T,H,K)} : jD P (.insert t x i y) ty T H K w=jD P (.mapUpdate t x i y) ty T H K w:=propext Iff.rfl
omit [BEq κ] in
theorem PI {K:V→View→Prop} {w:bX (T,H,K)} {x:Operand} {id c:Nat} {m:bF κ} (hm:cT P t=some (kt,et)) (hx:ev T x=.mp id) (hH:H id=.map (bW key m) c) (h:K (ak m.length) H) :
  jD P (.call { callee:=.builtin .len,args:=#[x],argTypes:=#[t] }) ty T H K w:=by
 intro n _
 have hu:∃ a b,P.underlying t=some (.map a b):=by
  unfold cT at hm
  split at hm
  ·rename_i a b h1; exact ⟨a,b,h1⟩
  ·simp at hm
 obtain ⟨a,b,hu⟩:=hu
 refine ⟨ak m.length,.none,[id],?_,h⟩
 have hl:(bW key m).length=m.length:=by simp[bW]
 simp only[sI,bV,oper,SA,Rp,RF,rX,hu,hx,hH,hl]
 simp[hu,hx,hH,hl,rX]
end
theorem nO {κ:Type} [BEq κ] [LawfulBEq κ] (k k':κ) (v:V) (c:Nat):∀ m:bF κ,getM (bu k v c m) k'=if k' == k then some v else getM m k'
 | []=>by
  by_cases h:k'=k
  ·subst h; simp[bu,getM]
  ·simp[bu,getM,h]
 | x :: r=>by
  have ih:=nO k k' v c r
  simp only[bu]
  by_cases hk:k=x.1
  ·by_cases h:k'=k
   ·subst h; simp[hk,getM]
   ·have:¬ k'=x.1:=fun e=>h (e.trans hk.symm)
    simp[hk,getM,this]
  ·simp only[Sd,hk,if_false]
   by_cases h:k'=x.1
   ·have:¬ k'=k:=fun e=>hk (e.symm.trans h)
    simp[getM,h]
    subst h
    simp[this]
   ·simp only[getM,SZ,beq_eq_false_iff_ne.2 h] at ih ⊢
    exact ih
def dJ {κ β:Type} [BEq κ] (a:List (κ × β)) (k:κ):Option β:=(a.find? fun x=>k == x.1).map (·.2)
def jt {κ β:Type} [BEq κ] (k:κ) (v:β):List (κ × β)→List (κ × β)
 | []=>[(k,v)]
 | x :: r=>if k == x.1 then (k,v) :: r else x :: jt k v r
def mC {κ β:Type} (encV:β→V):List (κ × β)→bF κ→Prop
 | [],[]=>True
 | x :: a,y :: m=>y.1=x.1∧y.2.1=encV x.2∧mC encV a m
 | _,_=>False
theorem mC.get {κ β:Type} [BEq κ] {encV:β→V} (k:κ):∀ {a:List (κ × β)} {m:bF κ},mC encV a m→getM m k=(dJ a k).map encV
 | [],[],_=>rfl
 | x :: a,y :: m,⟨h1,h2,h3⟩=>by
  have ih:=mC.get k h3
  simp only[getM,dJ,SZ,h1] at ih ⊢
  cases k == x.1 with
  | true=>simp[h2]
  | false=>simpa using ih
theorem mC.put {κ β:Type} [BEq κ] {encV:β→V} (k:κ) (v:β) (c:Nat):∀ {a:List (κ × β)} {m:bF κ},mC encV a m→mC encV (jt k v a) (bu k (encV v) c m)
 | [],[],_=>⟨rfl,rfl,trivial⟩
 | x :: a,y :: m,⟨h1,h2,h3⟩=>by
  have ih:=mC.put k v c h3
  simp only[jt,bu,h1]
  cases k == x.1 with
  | true=>exact ⟨rfl,rfl,h3⟩
  | false=>exact ⟨h1,h2,ih⟩
theorem mC.len {κ β:Type} {encV:β→V} : ∀ {a:List (κ × β)} {m:bF κ},mC encV a m→m.length=a.length
 | [],[],_=>rfl
 | x :: a,y :: m,⟨_,_,h3⟩=>by simp[mC.len h3]
theorem D6 {κ β:Type} [BEq κ] [LawfulBEq κ] (k k':κ) (v:β):∀ a:List (κ × β),dJ (jt k v a) k'=if k' == k then some v else dJ a k'
 | []=>by
  by_cases h:k'=k
  ·subst h; simp[jt,dJ]
  ·simp[jt,dJ,h]
 | x :: r=>by
  have ih:=D6 k k' v r
  simp only[jt]
  by_cases hk:k=x.1
  ·by_cases h:k'=k
   ·subst h; simp[hk,dJ]
   ·have:¬ k'=x.1:=fun e=>h (e.trans hk.symm)
    simp[hk,dJ,this]
  ·simp only[Sd,hk,if_false]
   by_cases h:k'=x.1
   ·have:¬ k'=k:=fun e=>hk (e.symm.trans h)
    simp[dJ,h]
    subst h
    simp[this]
   ·simp only[dJ,SZ,beq_eq_false_iff_ne.2 h] at ih ⊢
    exact ih
def Gz (n k:Nat) (J:Nat→Env→View→Prop) (T:Env) (H:View):Prop:=∃ i,i+k=n∧J i T H
theorem bg.up {P:Program} {T:Env} {H:View} {c:SC} {Q:Exit→Env→View→Prop} {v:bX (T,H,Q)} (n:Nat) (J:Nat→Env→View→Prop) (h0:J 0 T H)
  (hs:∀ i k T H,i+k=n→J i T H→wS P c T H fun e T' H'=>xQ e (∃ k',k' < k∧Gz n k' J T' H') (Q e T' H')):bg P c T H Q v :=
 bg.intro (fun k T H=>Gz n k J T H) n ⟨0,by omega,h0⟩ fun k T H ⟨i,hk,hj⟩=>hs i k T H hk hj
theorem aQ {n i k:Nat} {J:Nat→Env→View→Prop} {T:Env} {H:View} (hk:i+k=n) (hlt:i < n) (hJ:J (i+1) T H):∃ k',k' < k∧Gz n k' J T H:=⟨k - 1,by omega,i+1,by omega,hJ⟩
def owner:V→Option Nat
 | .sl id _ _ _=>some id
 | _=>none
def bc (H:View) (u:V) (sz:Nat) (es:List (List V)):Prop :=
 (es=[]∧∃ k,u=.emp k)∨(∃ n,u=.sl n 0 es.length sz∧H n=.arr sz es)
theorem bc.nil {H:View} {sz k:Nat} : bc H (.emp k) sz []:=.inl ⟨rfl,k,rfl⟩
theorem bc.len {H:View} {u:V} {sz:Nat} {es:List (List V)} (h:bc H u sz es):cY u=some es.length:=by
 rcases h with ⟨rfl,k,rfl⟩ | ⟨n,rfl,_⟩ <;> rfl
theorem bc.live {H:View} {u:V} {sz:Nat} {es:List (List V)} (h:bc H u sz es) {id:Nat} (hid:owner u=some id):H id=.arr sz es∧u=.sl id 0 es.length sz:=by
 rcases h with ⟨rfl,k,rfl⟩ | ⟨n,rfl,hn⟩
 ·simp[owner] at hid
 ·simp[owner] at hid; subst hid; exact ⟨hn,rfl⟩
theorem bc.keep {H H':View} {u:V} {sz:Nat} {es:List (List V)} (h:bc H u sz es) (hk:∀ id,owner u=some id→H' id=H id):bc H' u sz es:=by
 rcases h with ⟨rfl,k,rfl⟩ | ⟨n,rfl,hn⟩
 ·exact .inl ⟨rfl,k,rfl⟩
 ·exact .inr ⟨n,rfl,by rw[hk n rfl]; exact hn⟩
theorem bc.fresh {H:View} {u:V} {sz m:Nat} {es:List (List V)} {o:dh} (h:bc H u sz es) (hm:H m=.dead):bc (H.set m o) u sz es :=
 h.keep fun id hid=>by
  have:=(h.live hid).1
  have e:id≠m:=by rintro rfl; rw[hm] at this; simp at this
  simp[View.set,e]
theorem bc.ne {H:View} {u:V} {sz m:Nat} {es:List (List V)} (h:bc H u sz es) (hm:H m=.dead):owner u≠some m:=fun e=>by
 have:=(h.live e).1; rw[hm] at this; simp at this
theorem bc.other {H:View} {u:V} {sz m:Nat} {es:List (List V)} {o:dh} (h:bc H u sz es) (hm:owner u≠some m):bc (H.set m o) u sz es :=
 h.keep fun id hid=>by
  have e:id≠m:=by rintro rfl; exact hm hid
  simp[View.set,e]
theorem bc.new {H:View} {n sz:Nat} {es:List (List V)} : bc (H.set n (.arr sz es)) (.sl n 0 es.length sz) sz es:=.inr ⟨n,rfl,by simp[View.set]⟩
theorem dW {H:View} {m z sz:Nat} {e:List V} : bR (View.set H m (.arr z [e])) (.sl m 0 1 sz)=some ([e],[m]):=by
 simp[bR,View.set]
def Left (H H':View) (u u':V):Prop:=∀ id,H id≠.dead→owner u≠some id→H' id=H id∧owner u'≠some id
theorem wa {sz bytes:Nat} {u:V} {es xs:List (List V)} {H:View} {K:V→View→Prop} {w:bX (H,K)} (ho:bc H u sz es) (hx:xs≠[]) (hok:(xs.all fun e=>e.length == sz && e.all aS)=true)
  (hl:(es.length+xs.length) * bytes < aK) (hl2:es.length+xs.length < aK) (hk:∀ u' H',bc H' u' sz (es ++ xs)→Left H H' u u'→K u' H'):px sz bytes u xs H K w:=by
 have he:xs.isEmpty=false:=by cases xs with | nil=>exact absurd rfl hx | cons=>rfl
 rcases ho with ⟨rfl,k,rfl⟩ | ⟨n,rfl,hn⟩
 ·rw[vT _ _ _ _ _ _ _ he]
  refine ⟨hok,⟨by simpa using hl,by simpa using hl2⟩,fun m hm=>hk _ _ ?_ ?_⟩
  ·exact .inr ⟨m,rfl,by simp[View.set]⟩
  ·intro id hid _
   have e:id≠m:=by rintro rfl; exact hid hm
   exact ⟨by simp[View.set,e],by simp[owner,Ne.symm e]⟩
 ·rw[yn _ _ _ _ _ _ _ _ _ _ he,hn]
  refine ⟨hok,⟨by simp,rfl,hl,hl2⟩,fun m hm=>hk _ _ ?_ ?_⟩
  ·refine .inr ⟨m,by simp,by simp[View.set]⟩
  ·intro id hid ho
   have e:id≠m:=by rintro rfl; exact hid hm
   have e2:id≠n:=by rintro rfl; exact ho rfl
   exact ⟨by simp[View.set,e,e2],by simp[owner,Ne.symm e]⟩
theorem Left.refl {H:View} {u:V} : Left H H u u:=fun _ _ h=>⟨rfl,h⟩
theorem oU {sz bytes:Nat} {u:V} {es xs:List (List V)} {H:View} {K:V→View→Prop} {w:bX (H,K)} (ho:bc H u sz es) (hok:(xs.all fun e=>e.length == sz && e.all aS)=true)
  (hl:(es.length+xs.length) * bytes < aK) (hl2:es.length+xs.length < aK) (hk:∀ u' H',bc H' u' sz (es ++ xs)→Left H H' u u'→K u' H'):px sz bytes u xs H K w:=by
 cases xs with
 | nil =>
  have:=hk u H (by simpa using ho) .refl
  rcases ho with ⟨rfl,k,rfl⟩ | ⟨n,rfl,hn⟩
  ·exact this
  ·exact this
 | cons x xs=>exact wa ho (by simp) hok hl hl2 hk
theorem fh.own {H:View} {u:V} {sz:Nat} {es:List (List V)} (h:bc H u sz es) (ht:∀ e∈es,∀ v∈e,Tree v):fh H u (.aH es):=by
 rcases h with ⟨rfl,k,rfl⟩ | ⟨n,rfl,hn⟩
 ·exact fun h _=>.emp k
 ·have:=fh.sl (off:=0) (len:=es.length) (esz:=sz) hn (by simp) ht
  rwa [SK,Rz (by simp)] at this
theorem eh.own {h:aE} {u:V} {sz:Nat} {es:List (List V)} {es':List (List V)} (ho:bc h.view u sz es) (hl:es'.length=es.length) (hi:∀ i,i < es.length→(es'.getD i []).length=(es.getD i []).length)
  (hv:∀ i j,i < es.length→j < (es'.getD i []).length→eh h ((es.getD i []).getD j .any) ((es'.getD i []).getD j .any)):eh h u (.aH es'):=by
 rcases ho with ⟨rfl,k,rfl⟩ | ⟨n,rfl,hn⟩
 ·have:es'=[]:=SV.1 (by simpa using hl)
  subst this
  exact .emp k
 ·exact .sl n 0 es.length sz sz es es' hn (by simp) hl (fun i h=>by rw[R8]; exact hi i h) (fun i j h1 h2=>by rw[R8]; exact hv i j h1 h2)
theorem eh.Ng {h:aE} {α:Type} {u:V} {sz:Nat} {l:List α} {f:α→Value} (ho:bc h.view u sz (l.map fun x=>[V.val (f x)])):eh h u (.aH (l.map fun x=>[V.val (f x)])):=by
 refine eh.own ho rfl (fun i _=>rfl) (fun i j hi hj=>?_)
 simp only[Ro] at hi
 have e:(l.map fun x=>[V.val (f x)]).getD i []=[V.val (f l[i])]:=by simp[Q6,hi]
 rw[e] at hj ⊢
 have:j=0:=by simp at hj; omega
 subst this
 exact .val _
def ei (H H':View) (r:V):Prop:=∀ id,H id≠.dead→H' id=H id∧owner r≠some id
theorem ei.emp {H:View} {k:Nat} : ei H H (.emp k):=fun _ _=>⟨rfl,by simp[owner]⟩
theorem ei.new {H:View} {n a b c:Nat} {o:dh} (hn:H n=.dead):ei H (H.set n o) (.sl n a b c):=fun id hid=>by
 have e:id≠n:=by rintro rfl; exact hid hn
 exact ⟨by simp[View.set,e],by simp[owner,Ne.symm e]⟩
theorem bc.left {H H':View} {u u' x:V} {sz:Nat} {es:List (List V)} (h:bc H x sz es) (hl:Left H H' u u') (hd:∀ id,owner x=some id→owner u≠some id):bc H' x sz es :=
 h.keep fun id hid=>(hl id (by rw[(h.live hid).1]; simp) (hd id hid)).1
theorem bc.Pd {H H':View} {x r:V} {sz:Nat} {es:List (List V)} (h:bc H x sz es) (hl:ei H H' r):bc H' x sz es :=
 h.keep fun id hid=>(hl id (by rw[(h.live hid).1]; simp)).1
theorem set_set {H:View} {n:Nat} {a b:dh} : View.set (View.set H n a) n b=View.set H n b:=by
 funext id; simp only[View.set]; split <;> rfl
theorem fZ {m b:Nat} {o x:dh} (h:(if m=b then o else x)=.dead) (ho:o≠.dead):m≠b∧x=.dead:=by
 split at h
 ·exact absurd h ho
 ·rename_i e; exact ⟨e,h⟩
theorem gV {z:Nat} {es:List (List V)} : dh.arr z es≠.dead:=by simp
def nW (H:View):List V→List V→Prop
 | [],[]=>True
 | v :: vs,t :: ts=>fh H v t∧nW H vs ts
 | _,_=>False
theorem nW.len {H:View} : ∀ {vs ts:List V},nW H vs ts→ts.length=vs.length
 | [],[],_=>rfl
 | _ :: _,_ :: _,h=>by simp[nW.len h.2]
theorem nW.get {H:View} : ∀ {vs ts:List V},nW H vs ts→∀ i,i < vs.length→fh H (vs.getD i .any) (ts.getD i .any)
 | [],[],_,i,hi=>by simp at hi
 | _ :: _,_ :: _,h,0,_=>h.1
 | _ :: _,_ :: _,h,i+1,hi=>nW.get h.2 i (by simpa using hi)
theorem aF.Ds {P:Program} {q:Bool} {f:FuncId} {H:View} {vs ts:List V} {K:V→View→Prop} {v:bX (H,K)} {t:V} (hc:aG P f ts t) (hok:db P f=true) (hf:yw t) (hl:nW H vs ts) (hk:K t H):aF P q f vs H K v :=
 aF.borrow hc hok hf hl.len hl.get hk
theorem aF.P0 {P:Program} {q:Bool} {f:FuncId} {H:View} {vs ts:List V} {K:V→View→Prop} {v:bX (H,K)} {t:V} (hc:de P f ts t) (hok:db P f=true) (hl:nW H vs ts) (hk:K t H):aF P q f vs H K v :=
 aF.s6 hc hok hl.len hl.get hk
theorem fh.box {H:View} {q z:Nat} {e:List V} (hq:H q=.arr z [e]) (ht:∀ v∈e,Tree v):fh H (.ptr q 0 0) (.aL e 0):=by
 rintro h rfl
 refine .ptr q 0 0 z [e] e hq (by simp) (by simp) (fun k hk=>?_)
 simp only[Sh]
 have e2:e.getD k .any=e[k]:=by simp[Q6,hk]
 rw[e2]
 exact .tree _ (ht _ (Rj _))
theorem bc.sl {H:View} {u:V} {sz:Nat} {es:List (List V)} (h:bc H u sz es) (hne:0 < es.length):∃ n,u=.sl n 0 es.length sz∧H n=.arr sz es:=by
 rcases h with ⟨rfl,_⟩ | h
 ·simp at hne
 ·exact h
abbrev cb:=V × Nat × List (List V)
def bk (H:View) (L:List cb):Prop:=(∀ x∈L,bc H x.1 x.2.1 x.2.2)∧(L.filterMap fun x=>owner x.1).Nodup
theorem bk.nil {H:View} : bk H []:=⟨fun x hx=>by simp at hx,by simp⟩
theorem bk.head {H:View} {x:cb} {L:List cb} (h:bk H (x :: L)):bc H x.1 x.2.1 x.2.2:=h.1 x (by simp)
theorem bk.tail {H:View} {x:cb} {L:List cb} (h:bk H (x :: L)):bk H L:=by
 refine ⟨fun y hy=>h.1 y (by simp[hy]),?_⟩
 have:=h.2
 simp only[Ss] at this
 split at this
 ·exact this
 ·exact (RW.1 this).2
theorem bk.perm {H:View} {L L':List cb} (h:bk H L) (p:L.Perm L'):bk H L' :=
 ⟨fun x hx=>h.1 x (p.mem_iff.2 hx),(p.filterMap _).nodup_iff.1 h.2⟩
theorem w8 {α:Type} : ∀ (L:List α) (k:Nat) (hk:k < L.length),L.Perm (L[k] :: L.eraseIdx k)
 | x :: L,0,_=>.refl _
 | x :: L,k+1,hk=>by
  have:=w8 L k (by simpa using hk)
  exact (this.cons x).trans (.swap _ _ _)
theorem bk.at {H:View} {L:List cb} (h:bk H L) (k:Nat) (hk:k < L.length):bk H (L[k] :: L.eraseIdx k) :=
 h.perm (w8 L k hk)
theorem bk.off {H:View} {x:cb} {L:List cb} (h:bk H (x :: L)) {id:Nat} (hid:owner x.1=some id):∀ y∈L,owner y.1≠some id:=by
 intro y hy e
 have:=h.2
 simp only[Ss,hid,RW,Sf,not_exists,not_and] at this
 exact this.1 y hy e
theorem bk.live {H:View} {x:cb} {L:List cb} (h:bk H L) (hx:x∈L) {id:Nat} (hid:owner x.1=some id):H id≠.dead:=by
 rw[((h.1 x hx).live hid).1]; simp
theorem bk.keep {H H':View} {L:List cb} (h:bk H L) (hk:∀ x∈L,∀ id,owner x.1=some id→H' id=H id):bk H' L :=
 ⟨fun x hx=>(h.1 x hx).keep (hk x hx),h.2⟩
theorem bk.new {H:View} {L:List cb} (h:bk H L) {n:Nat} (hn:H n=.dead) (sz:Nat) (es:List (List V)):bk (H.set n (.arr sz es)) ((.sl n 0 es.length sz,sz,es) :: L):=by
 refine ⟨fun x hx=>?_,?_⟩
 ·rcases Rm.1 hx with rfl | hx
  ·exact .new
  ·exact (h.1 x hx).fresh hn
 ·simp only[Ss,owner,RW,Sf,not_exists,not_and]
  exact ⟨fun x hx e=>h.live hx e hn,h.2⟩
theorem bk.Ph {H H':View} {L:List cb} (h:bk H L) {u:V} {sz:Nat} {es:List (List V)} (ho:bc H' u sz es) (hf:ei H H' u):bk H' ((u,sz,es) :: L):=by
 refine ⟨fun x hx=>?_,?_⟩
 ·rcases Rm.1 hx with rfl | hx
  ·exact ho
  ·exact (h.1 x hx).Pd hf
 ·cases hu:owner u with
  | none=>simp only[Ss,hu]; exact h.2
  | some id =>
   simp only[Ss,hu,RW,Sf,not_exists,not_and]
   exact ⟨fun x hx e=>(hf id (h.live hx e)).2 hu,h.2⟩
theorem bk.fresh {H:View} {L:List cb} (h:bk H L) {n:Nat} (hn:H n=.dead) {o:dh} : bk (H.set n o) L :=
 ⟨fun x hx=>(h.1 x hx).fresh hn,h.2⟩
theorem bk.put {H:View} {L:List cb} {n k sz:Nat} {es es':List (List V)} (h:bk H ((.sl n 0 k sz,sz,es) :: L)) (hl:es'.length=es.length) (hk:k=es.length):bk (H.set n (.arr sz es')) ((.sl n 0 k sz,sz,es') :: L):=by
 refine ⟨fun x hx=>?_,by simpa [Ss,owner] using h.2⟩
 rcases Rm.1 hx with rfl | hx
 ·exact .inr ⟨n,by simp[hl,hk],by simp[View.set]⟩
 ·exact (h.1 x (by simp[hx])).other (h.off rfl x hx)
theorem bk.left {H H':View} {L:List cb} {u u':V} {sz:Nat} {es es':List (List V)} (h:bk H ((u,sz,es) :: L)) (ho:bc H' u' sz es') (hl:Left H H' u u'):bk H' ((u',sz,es') :: L):=by
 have hoff:∀ x∈L,∀ id,owner x.1=some id→owner u≠some id:=fun x hx id hid hu=>h.off hu x hx hid
 refine ⟨fun x hx=>?_,?_⟩
 ·rcases Rm.1 hx with rfl | hx
  ·exact ho
  ·exact (h.1 x (by simp[hx])).left hl (hoff x hx)
 ·have ht:=h.tail.2
  cases hu:owner u' with
  | none=>simp only[Ss,hu]; exact ht
  | some id =>
   simp only[Ss,hu,RW,Sf,not_exists,not_and]
   refine ⟨fun x hx e=>?_,ht⟩
   have hlv:=h.tail.live hx e
   exact (hl id hlv (hoff x hx id e)).2 hu
theorem eR {sz bytes:Nat} {u:V} {es xs:List (List V)} {L:List cb} {H:View} {K:V→View→Prop} {w:bX (H,K)} (ho:bk H ((u,sz,es) :: L)) (hok:(xs.all fun e=>e.length == sz && e.all aS)=true)
  (hl:(es.length+xs.length) * bytes < aK) (hl2:es.length+xs.length < aK) (hk:∀ u' H',bk H' ((u',sz,es ++ xs) :: L)→Left H H' u u'→K u' H'):px sz bytes u xs H K w :=
 oU ho.head hok hl hl2 fun u' H' h1 h2=>hk u' H' (ho.left h1 h2) h2
theorem bk.stay {H H':View} {L:List cb} (h:bk H L) (hf:∀ id,H id≠.dead→H' id=H id):bk H' L :=
 h.keep fun x hx _ hid=>hf _ (h.live hx hid)
theorem bk.emp {H:View} {L:List cb} (h:bk H L) {k sz:Nat} : bk H ((.emp k,sz,[]) :: L):=by
 refine ⟨fun x hx=>?_,by simpa [Ss,owner] using h.2⟩
 rcases Rm.1 hx with rfl | hx
 ·exact .nil
 ·exact h.1 x hx
theorem bc.cells {H:View} {u:V} {sz:Nat} {es:List (List V)} (h:bc H u sz es):V.cells u=[u]:=by
 rcases h with ⟨rfl,k,rfl⟩ | ⟨n,rfl,_⟩ <;> rfl
theorem bc.qi {H:View} {u:V} {sz:Nat} {es:List (List V)} (h:bc H u sz es):aS u=true:=by
 rcases h with ⟨rfl,k,rfl⟩ | ⟨n,rfl,_⟩ <;> rfl
theorem bk.NZ {H:View} {L:List cb} (h:bk H L) (i j:Nat) {a k1 s1 b k2 s2 t1 t2:Nat} {e1 e2:List (List V)} (hi:L[i]?=some (.sl a 0 k1 s1,t1,e1)) (hj:L[j]?=some (.sl b 0 k2 s2,t2,e2)) (hij:i≠j):a≠b:=by
 rintro rfl
 obtain ⟨hil,hi⟩:=Rl.1 hi
 have h1:=h.at i hil
 rw[hi] at h1
 exact h1.off (id:=a) rfl _ (List.mem_eraseIdx_iff_getElem?.2 ⟨j,hij.symm,hj⟩) rfl
theorem Qo {α:Type} {a b c:α} {l:List α} : (a :: b :: c :: l).Perm (b :: c :: a :: l):=(List.Perm.swap _ _ _).trans ((List.Perm.swap _ _ _).cons _)
theorem bk.own {H:View} {L:List cb} (h:bk H L) (i:Nat) {u:V} {sz:Nat} {es:List (List V)} (hi:L[i]?=some (u,sz,es)):bc H u sz es:=h.1 _ (Re hi)
theorem bk.is {H:View} {L:List cb} (h:bk H L) (i:Nat) {n k sz:Nat} {es:List (List V)} (hi:L[i]?=some (.sl n 0 k sz,sz,es)) (hes:0 < es.length):H n=.arr sz es:=by
 obtain ⟨m,e,hm⟩:=(h.own i hi).sl hes
 simp only[V.sl.injEq] at e
 rw[e.1]; exact hm
theorem bk.w6 {H:View} {L:List cb} (h:bk H L) {b c:Nat} {es:List (V × V × Nat)} (hb:H b=.map es c):∀ x∈L,owner x.1≠some b:=fun x hx e=>by
 have:=((h.1 x hx).live e).1
 rw[hb] at this; simp at this
theorem bk.sf {H:View} {L:List cb} (h:bk H L) {b c:Nat} {es:List (V × V × Nat)} (hb:H b=.map es c) {o:dh} : bk (H.set b o) L :=
 ⟨fun x hx=>(h.1 x hx).other (h.w6 hb x hx),h.2⟩
theorem Left.map {H H':View} {u u':V} {b c:Nat} {es:List (V × V × Nat)} {sz:Nat} {xs:List (List V)} (hl:Left H H' u u') (ho:bc H u sz xs) (hb:H b=.map es c):H' b=.map es c:=by
 rw[(hl b (by rw[hb]; simp) (fun e=>by have:=(ho.live e).1; rw[hb] at this; simp at this)).1,hb]
theorem zX {H:View} {L:List cb} (h:bk H L) (i:Nat) {n k sz b c:Nat} {xs:List (List V)} {es:List (V × V × Nat)} (hi:L[i]?=some (.sl n 0 k sz,sz,xs)) (hb:H b=.map es c):n≠b:=by
 rintro rfl
 exact h.w6 hb _ (Re hi) rfl
theorem aF.Hs {P:Program} {f:FuncId} {vs:List V} {H:View} {K:V→View→Prop} {w:bX (H,K)} {sz:Nat} {es:List (List V)} (hc:aB P f vs H fun r H'=>bc H' r sz es∧ei H H' r) (hk:∀ r H',bc H' r sz es→ei H H' r→K r H'):aF P true f vs H K w:=by
 unfold aF
 simp only[if_true]
 exact (hc.mono fun r H' h=>⟨fun id hid=>(h.2 id hid).1,hk r H' h.1 h.2⟩).IQ
def vP:SC :=
 .seq (an [bz 20 .lss 19 18]) <|
 .seq (.cond (.tmp 20) (.skip) (.exit 0)) <|
 .seq (.block 1 (.seq (an [aj 21 19,aj 3 21]) <|
 .seq (an [aj 22 0,aj 23 3,((some 24),.op (.gU (.tmp 22) (.tmp 23))),bJ 25 148 [24],dm 26 25]) <|
 .cond (.tmp 26) (.seq (an [bK 2 false]) <|
 .ret) (.skip))) <|
 an [aR 27 .add 19 1,aj 19 27]
def Ak:SF:=⟨.seq (an [bK 2 false]) <|
 .seq (.seq (.region false [⟨none,[aj 4 0,((some 5),.op (.uU .eql (.tmp 4) (.val (.val (.string ⟨#[]⟩))))),aj 6 5]⟩,⟨(some (6,false)),[aj 7 0,((some 8),.op (.nK (.tmp 7))),aR 9 .gtr 8 20]⟩,⟨none,[cU 10 6 9,aj 11 10]⟩,⟨(some (11,false)),[aj 12 0,((some 13),.op (.gU (.tmp 12) (.val (.val (.int .i64 0))))),bJ 14 147 [13],dm 15 14]⟩,⟨none,[cU 16 11 15]⟩]) <|
 .cond (.tmp 16) (.seq (an [bK 2 false]) <|
 .ret) (.skip)) <|
 .seq (.seq (an [aj 17 0,((some 18),.op (.nK (.tmp 17))),bA 19 0]) <|
 .block 0 (.loop vP)) <|
 .seq (an [bK 2 true]) <|
 .ret,
 [.tmp 2],28⟩
theorem C0:aU Tryz.prog 102 []=some Ak:=by kernel_rfl
def uE:SF:=⟨.seq (an [bA 2 0,bA 3 0]) <|
 .seq (an [bA 4 2]) <|
 .seq (.block 0 (.seq (an [aj 6 0,bj 7 6,aR 8 .lss 7 2,aj 5 8]) <|
 .cond (.tmp 5) (.seq (an [bA 2 0,bA 3 4]) <|
 .ret) (.seq (an [aj 10 0,((some 11),.op (.idx 1 (.tmp 10) (.val (.val (.int .i64 1))))),ay 12 11,bJ 13 233 [12],aj 9 13]) <|
 .cond (.tmp 9) (.skip) (.seq (an [aj 15 0,((some 16),.op (.idx 1 (.tmp 15) (.val (.val (.int .i64 1))))),ay 17 16,((some 18),.op (.arith .neq (.tmp 17) (.val (.val (.int .u8 92))))),aj 14 18]) <|
 .cond (.tmp 14) (.seq (an [bA 2 0,bA 3 3]) <|
 .ret) (.seq (an [aj 20 0,bj 21 20,aR 22 .lss 21 3,aj 19 22]) <|
 .cond (.tmp 19) (.seq (an [bA 2 0,bA 3 4]) <|
 .ret) (.seq (an [aj 24 0,((some 25),.op (.idx 1 (.tmp 24) (.val (.val (.int .i64 2))))),ay 26 25,bJ 27 234 [26],dm 28 27,aj 23 28]) <|
 .cond (.tmp 23) (.seq (an [bA 2 0,bA 3 3]) <|
 .ret) (an [bA 4 3]))))))) <|
 .seq (.seq (an [aj 29 0,bj 30 29,aj 31 4,bz 32 .leq 30 31]) <|
 .cond (.tmp 32) (.seq (an [bA 2 0,bA 3 4]) <|
 .ret) (.skip)) <|
 .seq (.seq (an [aj 33 0,aj 34 4,aY 35 1 33 34,ay 36 35,((some 37),.op (.arith .neq (.tmp 36) (.val (.val (.int .u8 39)))))]) <|
 .cond (.tmp 37) (.seq (an [bA 2 0,bA 3 3]) <|
 .ret) (.skip)) <|
 .seq (an [aj 38 4,aR 39 .add 38 1,aj 2 39,bA 3 0]) <|
 .ret,
 [.tmp 2,.tmp 3],40⟩
theorem yg:aU Tryz.prog 224 []=some uE:=by kernel_rfl
def pf:SF:=⟨.seq (an [bK 2 false]) <|
 .seq (.seq (.region false [⟨none,[aj 5 0,((some 6),.op (.uU .eql (.tmp 5) (.val (.val (.string ⟨#[]⟩))))),aj 7 6]⟩,⟨(some (7,false)),[aj 8 0,((some 9),.op (.gU (.tmp 8) (.val (.val (.int .i64 0))))),((some 10),.op (.arith .neq (.tmp 9) (.val (.val (.int .u8 39)))))]⟩,⟨none,[cU 11 7 10]⟩]) <|
 .cond (.tmp 11) (.seq (an [bK 2 false]) <|
 .ret) (.skip)) <|
 .seq (an [aj 13 0,((some 14),.op (.fv (.tmp 13))),bJ 15 224 [14],aj 12 15,kH 16 0 12,kH 17 1 12,aj 3 16,aj 4 17]) <|
 .seq (.region false [⟨none,[aj 18 4,aR 19 .eql 18 0,aj 20 19]⟩,⟨(some (20,true)),[aj 21 3,aj 22 0,((some 23),.op (.nK (.tmp 22))),bz 24 .eql 21 23]⟩,⟨none,[gA 25 20 24,aj 2 25]⟩]) <|
 .ret,
 [.tmp 2],26⟩
theorem yE:aU Tryz.prog 187 [14]=some pf:=by kernel_rfl
def xI:SF:=⟨.seq (an [bK 2 false]) <|
 .seq (.region false [⟨none,[aj 3 0,bJ 4 102 [3],aj 5 4]⟩,⟨(some (5,false)),[aj 6 0,bJ 7 187 [6]]⟩,⟨none,[cU 8 5 7,aj 2 8]⟩]) <|
 .ret,
 [.tmp 2],9⟩
theorem AZ:aU Tryz.prog 141 []=some xI:=by kernel_rfl
def uJ:SF:=⟨.seq (an [bK 2 false]) <|
 .seq (an [aj 3 0,bJ 4 102 [3],dm 5 4,aj 2 5]) <|
 .ret,
 [.tmp 2],6⟩
theorem yu:aU Tryz.prog 101 []=some uJ:=by kernel_rfl
theorem wk (s:ByteArray):ir s ⟨#[]⟩=decide ((eO s).length=0):=by
 unfold ir
 rw[← ef]
 have:(s.data.toList == ([]:List UInt8))=decide (s.data.toList.length=0):=by
  cases s.data.toList <;> rfl
 show (s.data.toList == ([]:List UInt8))=_
 rw[this]
 rfl
set_option maxHeartbeats 1000000 in
theorem L2 (s:ByteArray) (H:View):aB Tryz.prog 102 [gs s] H fun r _=>r=gb (fI (eO s)):=by
 refine aB.of mixed C0 ?_
 repeat' (first | (refine aq.dec (fun _=>?_) (fun _=>?_)) | (refine aq.eq (fun _=>?_) (fun _=>?_)) | (refine aq.ne (fun _=>?_) (fun _=>?_)) | (refine aq.split (fun _=>?_) (fun _=>?_)) | (simp (disch:=omega) only [↓wr,seval,wq,ah,ag,ak,aa,ab,af,ai,ae,Ak,ef,wk]))
 ·rename_i h
  congr 2; simp[fI,h]
 ·rename_i h1 h
  congr 2; simp[fI,show ¬ (eO s).length≤20 by omega]
 ·rename_i h1 h2
  cases hb:eO s with
  | nil=>simp[hb] at h1
  | cons c l =>
   have hcr:=fun d (hd:d∈c :: l)=>Bz (s:=s) (c:=d) (by rw[hb]; exact hd)
   have hc0:=hcr c (by simp)
   repeat' (first | (refine aq.dec (fun _=>?_) (fun _=>?_)) | (refine aq.eq (fun _=>?_) (fun _=>?_)) | (refine aq.ne (fun _=>?_) (fun _=>?_)) | (refine aq.split (fun _=>?_) (fun _=>?_)) | (simp (disch:=omega) only [↓wr,seval,wq,ah,ag,ak,aa,ab,af,ai,ae,hb,RA,ef]))
   refine aF.pure (tJ rA IC c hc0.1 hc0.2) (by kernel_rfl) ?_
   repeat' (first | (refine aq.dec (fun _=>?_) (fun _=>?_)) | (refine aq.eq (fun _=>?_) (fun _=>?_)) | (refine aq.ne (fun _=>?_) (fun _=>?_)) | (refine aq.split (fun _=>?_) (fun _=>?_)) | (simp (disch:=omega) only [↓wr,seval,wq,ah,ag,ak,aa,ab,af,ai,ae,hb,RA,ef]))
   ·rename_i hf
    rw[hb] at h1 h2
    refine bg.intro (fun k T H'=>∃ i:Nat,i+k=(c :: l).length∧((c :: l).take i).all mM=true∧T 0=gs s∧T 18=gi (c :: l).length∧T 19=gi i) (c :: l).length ?_ ?_
    ·exact ⟨0,by omega,by simp,rfl,rfl,rfl⟩
    ·rintro k T H' ⟨i,hk,hi,h0,h18,h19⟩
     simp (disch:=omega) only [↓wr,seval,wq,ah,ag,ak,aa,ab,af,ai,ae,vP,h0,h18,h19,ef,hb]
     refine aq.dec (fun hc=>?_) (fun hc=>?_)
     ·simp only[Rp] at hc hk h2
      have hg:(c :: l)[i]?=some ((c :: l)[i]'(by simp; omega)):=Q7 (by simp; omega)
      have hm:(c :: l)[i]'(by simp; omega)∈c :: l:=Rj _
      generalize (c :: l)[i]'(by simp; omega)=d at hg hm
      have hd0:=hcr d hm
      simp (disch:=omega) only [↓wr,seval,wq,ah,ag,ak,aa,ab,af,ai,ae,h0,h18,h19,ef,hb,hg]
      refine aF.pure (tJ rA Kd d hd0.1 hd0.2) (by kernel_rfl) ?_
      repeat' (first | (refine aq.dec (fun _=>?_) (fun _=>?_)) | (refine aq.eq (fun _=>?_) (fun _=>?_)) | (refine aq.ne (fun _=>?_) (fun _=>?_)) | (refine aq.split (fun _=>?_) (fun _=>?_)) | (simp (disch:=omega) only [↓wr,seval,wq,ah,ag,ak,aa,ab,af,ai,ae,h0,h18,h19,ef,hb,hg]))
      ·rename_i hd
       refine ⟨k - 1,by omega,i+1,by omega,?_,by first | rfl | exact ⟨rfl,rfl⟩⟩
       rw[RG,hg]
       simp only[Option.toList_some,List.all_append,hi,Sn,hd,List.all_nil,Bool.and_self]
      ·rename_i hd
       congr 2
       have:(c :: l).all mM=false:=by
        rw[List.all_eq_false]; exact ⟨d,hm,by simp[hd]⟩
       simp only[fI,this,Bool.and_false]
     ·simp (disch:=omega) only [↓wr,seval,wq,ah,ag,ak,aa,ab,af,ai,ae,h0,h18,h19]
      simp only[Rp] at hc hk h2
      rw[Rz (by simp; omega)] at hi
      congr 2
      simp only[fI,hi,Rp]
      simp[hf]; omega
   ·rename_i hf
    congr 2; simp[fI,hf]
theorem EJ (s:ByteArray):aG Tryz.prog 102 [gs s] (gb (fI (eO s))):=aG.val (nN s) (L2 s)
def j6 (l:List Int):Int × Int :=
 if uW (l.getD 1 0)=true then (2,0) else if l.getD 1 0≠92 then (0,3) else if l.length < 3 then (0,4) else if AU (l.getD 2 0)=true then (3,0) else (0,3)
def lr (l:List Int):Int × Int :=
 if l.length < 2 then (0,4) else if (j6 l).2≠0 then (0,(j6 l).2) else if (l.length:Int)≤(j6 l).1 then (0,4) else if l.getD (j6 l).1.toNat 0≠39 then (0,3) else ((j6 l).1+1,0)
theorem JJ {l:List Int} {n:Int} (hN:j6 l=(n,0)) (h2:¬ l.length < 2):lr l=if (l.length:Int)≤n then (0,4) else if l.getD n.toNat 0≠39 then (0,3) else (n+1,0):=by
 rw[lr,Q9 h2,hN]; simp
theorem Em {l:List Int} {e:Int} (hN:j6 l=(0,e)) (he:e≠0) (h2:¬ l.length < 2):lr l=(0,e):=by
 rw[lr,Q9 h2,hN]; simp[he]
set_option maxHeartbeats 2000000 in
theorem Ix (l:List Int) (hr:∀ c∈l,0≤c∧c≤255) (H:View):aB Tryz.prog 224 [.aH (l.map fun x=>[gy x])] H fun r _=>r=.bt [gi (lr l).1,gi (lr l).2]:=by
 refine aB.of mixed yg ?_
 simp (disch:=omega) only [↓wr,seval,wq,ah,ag,ak,aa,ab,af,ai,ae,uE]
 refine aq.dec (fun h=>?_) (fun h=>?_)
 ·simp (disch:=omega) only [↓wr,seval,wq,ah,ag,ak,aa,ab,af,ai,ae]
  rw[lr,Ra (by omega)]
 ·have h1:l[1]?=some (l[1]'(by omega)):=Q7 (by omega)
  have g1:l.getD 1 0=l[1]'(by omega):=by simp[Q6,h1]
  have m1:l[1]'(by omega)∈l:=Rj _
  generalize l[1]'(by omega)=b at h1 g1 m1
  have hb:=hr b m1
  simp (disch:=omega) only [↓wr,seval,wq,ah,ag,ak,aa,ab,af,ai,ae,Rc,h1]
  refine aF.pure (tJ rA LI b hb.1 hb.2) (by kernel_rfl) ?_
  simp (disch:=omega) only [↓wr,seval,wq,ah,ag,ak,aa,ab,af,ai,ae]
  refine aq.split (fun hp=>?_) (fun hp=>?_)
  ·have hN:j6 l=(2,0):=by rw[j6,Ra (by rw[g1]; exact hp)]
   simp (disch:=omega) only [↓wr,seval,wq,ah,ag,ak,aa,ab,af,ai,ae]
   have hP:=JJ hN (by omega)
   refine aq.dec (fun h3=>?_) (fun h3=>?_)
   ·simp (disch:=omega) only [↓wr,seval,wq,ah,ag,ak,aa,ab,af,ai,ae]
    rw[hP,Ra (by omega)]
   ·rw[Q9 (by omega)] at hP
    have h2:l[2]?=some (l[2]'(by omega)):=Q7 (by omega)
    have g2:l.getD (2:Int).toNat 0=l[2]'(by omega):=by simp[Q6,h2]
    generalize l[2]'(by omega)=c at h2 g2
    rw[g2] at hP
    simp (disch:=omega) only [↓wr,seval,wq,ah,ag,ak,aa,ab,af,ai,ae,Rc,h2]
    refine aq.ne (fun h4=>?_) (fun h4=>?_)
    ·simp (disch:=omega) only [↓wr,seval,wq,ah,ag,ak,aa,ab,af,ai,ae]
     rw[hP,Ra h4]
    ·simp (disch:=omega) only [↓wr,↓reduceIte,wq,ah,ag,ak,aa,ab,af,ai,ae,Nat.reduceEqDiff,Nat.reduceAdd,Nat.reduceLT,Nat.reduceLeDiff,Int.reduceNeg,Int.reduceToNat,reduceCtorEq]
     rw[hP,Q9 (fun q=>q h4)]
  ·simp (disch:=omega) only [↓wr,seval,wq,ah,ag,ak,aa,ab,af,ai,ae,Rc,h1]
   refine aq.ne (fun h5=>?_) (fun h5=>?_)
   ·simp (disch:=omega) only [↓wr,seval,wq,ah,ag,ak,aa,ab,af,ai,ae]
    rw[Em (e:=3) (by rw[j6,Q9 (by rw[g1,hp]; simp),Ra (by rw[g1]; exact h5)]) (by simp) (by omega)]
   ·simp (disch:=omega) only [↓wr,seval,wq,ah,ag,ak,aa,ab,af,ai,ae]
    refine aq.dec (fun h6=>?_) (fun h6=>?_)
    ·simp (disch:=omega) only [↓wr,seval,wq,ah,ag,ak,aa,ab,af,ai,ae]
     rw[Em (e:=4) (by rw[j6,Q9 (by rw[g1,hp]; simp),Q9 (by rw[g1]; exact fun q=>q h5),Ra (by omega)]) (by simp) (by omega)]
    ·have h2:l[2]?=some (l[2]'(by omega)):=Q7 (by omega)
     have g2:l.getD 2 0=l[2]'(by omega):=by simp[Q6,h2]
     have m2:l[2]'(by omega)∈l:=Rj _
     generalize l[2]'(by omega)=c at h2 g2 m2
     have hcr:=hr c m2
     have hN0:j6 l=if AU c=true then (3,0) else (0,3):=by rw[j6,Q9 (by rw[g1,hp]; simp),Q9 (by rw[g1]; exact fun q=>q h5),Q9 (by omega),g2]
     simp (disch:=omega) only [↓wr,seval,wq,ah,ag,ak,aa,ab,af,ai,ae,Rc,h2]
     refine aF.pure (tJ rA OK c hcr.1 hcr.2) (by kernel_rfl) ?_
     simp (disch:=omega) only [↓wr,seval,wq,ah,ag,ak,aa,ab,af,ai,ae]
     refine aq.split (fun he=>?_) (fun he=>?_)
     ·rw[Ra he] at hN0
      have hP:=JJ hN0 (by omega)
      simp (disch:=omega) only [↓wr,seval,wq,ah,ag,ak,aa,ab,af,ai,ae]
      refine aq.dec (fun h3=>?_) (fun h3=>?_)
      ·simp (disch:=omega) only [↓wr,seval,wq,ah,ag,ak,aa,ab,af,ai,ae]
       rw[hP,Ra (by omega)]
      ·rw[Q9 (by omega)] at hP
       have h7:l[3]?=some (l[3]'(by omega)):=Q7 (by omega)
       have g3:l.getD (3:Int).toNat 0=l[3]'(by omega):=by simp[Q6,h7]
       generalize l[3]'(by omega)=d at h7 g3
       rw[g3] at hP
       simp (disch:=omega) only [↓wr,seval,wq,ah,ag,ak,aa,ab,af,ai,ae,Rc,h7]
       refine aq.ne (fun h4=>?_) (fun h4=>?_)
       ·simp (disch:=omega) only [↓wr,seval,wq,ah,ag,ak,aa,ab,af,ai,ae]
        rw[hP,Ra h4]
       ·simp (disch:=omega) only [↓wr,↓reduceIte,wq,ah,ag,ak,aa,ab,af,ai,ae,Nat.reduceEqDiff,Nat.reduceAdd,Nat.reduceLT,Nat.reduceLeDiff,Int.reduceNeg,Int.reduceToNat,reduceCtorEq]
        rw[hP,Q9 (fun q=>q h4)]
     ·rw[Q9 (by rw[he]; simp)] at hN0
      simp (disch:=omega) only [↓wr,seval,wq,ah,ag,ak,aa,ab,af,ai,ae]
      rw[Em hN0 (by simp) (by omega)]
def cB {α:Type} (p:α→Bool):List α→Int→Int
 | [],_=>-1
 | x :: l,i=>if p x then i else cB p l (i+1)
theorem qb {α:Type} (p:α→Bool):∀ (l:List α) (i:Int),0≤i→decide (0≤cB p l i)=l.any p
 | [],_,_=>by simp[cB]
 | x :: l,i,h=>by
  have ih:=qb p l (i+1) (by omega)
  rw[List.any_cons,cB]
  by_cases hp:p x=true
  ·rw[Ra hp,hp]; simp[h]
  ·rw[Q9 hp,ih]; simp[hp]
theorem Bp {f:FuncId} {xs cap:List V} (h:∀ v∈xs,Tree v) (h2:∀ v∈cap,Tree v):Tree (.fn f xs cap):=by
 refine .fn _ _ _ (fun i hi=>?_) (fun i hi=>?_)
 ·have e2:xs.getD i .any=xs[i]:=by simp[Q6,hi]
  rw[e2]; exact h _ (Rj _)
 ·have e2:cap.getD i .any=cap[i]:=by simp[Q6,hi]
  rw[e2]; exact h2 _ (Rj _)
def eH:SC :=
 .seq (an [bz 9 .lss 8 7]) <|
 .seq (.cond (.tmp 9) (.skip) (.exit 0)) <|
 .seq (.block 1 (.seq (an [aj 10 8,aj 5 10]) <|
 .seq (an [aj 11 1,aj 12 0,aj 13 5,aY 14 1 12 13,ay 15 14,((some 16),.call (.tmp 11) [(.tmp 15)])]) <|
 .cond (.tmp 16) (.seq (an [aj 17 5,aj 4 17]) <|
 .ret) (.skip))) <|
 an [aR 18 .add 8 1,aj 8 18]
def fg:SF:=⟨.seq (an [bA 4 0]) <|
 .seq (.seq (an [aj 6 0,bj 7 6,bA 8 0]) <|
 .block 0 (.loop eH)) <|
 .seq (an [bA 4 (-1)]) <|
 .ret,
 [.tmp 4],19⟩
theorem gN:aU Tryz.prog 133 []=some fg:=by kernel_rfl
def eA:SF:=⟨.seq (an [bK 4 false]) <|
 .seq (an [aj 5 0,aj 6 1,bJ 7 133 [5,6],aR 8 .geq 7 0,aj 4 8]) <|
 .ret,
 [.tmp 4],9⟩
theorem fY:aU Tryz.prog 91 []=some eA:=by kernel_rfl
def fD:SC :=
 .seq (an [bz 9 .lss 8 7]) <|
 .seq (.cond (.tmp 9) (.skip) (.exit 0)) <|
 .seq (.block 1 (.seq (an [aj 10 8,aj 5 10]) <|
 .seq (an [aj 11 1,aj 12 0,aj 13 5,aY 14 1 12 13,ay 15 14,((some 16),.call (.tmp 11) [(.tmp 15)])]) <|
 .cond (.tmp 16) (.seq (an [aj 17 5,aj 4 17]) <|
 .ret) (.skip))) <|
 an [aR 18 .add 8 1,aj 8 18]
def fW:SF:=⟨.seq (an [bA 4 0]) <|
 .seq (.seq (an [aj 6 0,bj 7 6,bA 8 0]) <|
 .block 0 (.loop fD)) <|
 .seq (an [bA 4 (-1)]) <|
 .ret,
 [.tmp 4],19⟩
theorem jx:aU Tryz.prog 146 []=some fW:=by kernel_rfl
def fk:SF:=⟨.seq (an [bK 4 false]) <|
 .seq (an [aj 5 0,aj 6 1,bJ 7 146 [5,6],aR 8 .geq 7 0,aj 4 8]) <|
 .ret,
 [.tmp 4],9⟩
theorem iU:aU Tryz.prog 100 []=some fk:=by kernel_rfl
theorem CZ (l:List Int) (hl:aV l) (f:FuncId) (cap:List V) (p:Int→Bool) (hf:∀ x∈l,aG Tryz.prog f (gi x :: cap) (gb (p x))) (hok:db Tryz.prog f=true) (H:View) :
  aB Tryz.prog 133 [encI l,.fn f [] cap] H fun r _=>r=gi (cB p l 0):=by
 refine aB.of mixed gN ?_
 unfold aV at hl
 simp (disch:=omega) only [↓wr,seval,wq,ah,ag,ak,aa,ab,af,ai,ae,fg,encI]
 refine bg.up l.length (fun i T _=>cB p (l.drop i) i=cB p l 0∧T 0=encI l∧T 1=.fn f [] cap∧T 7=gi l.length∧T 8=gi i) ⟨rfl,rfl,rfl,rfl,rfl⟩ ?_
 rintro i k T H hk ⟨hi,h0,h1,h7,h8⟩
 simp (disch:=omega) only [↓wr,seval,wq,ah,ag,ak,aa,ab,af,ai,ae,eH,h0,h1,h7,h8,encI]
 refine aq.dec (fun hc=>?_) (fun hc=>?_)
 ·have hg:l[i]?=some (l[i]'(by omega)):=Q7 (by omega)
  have hm:l[i]'(by omega)∈l:=Rj _
  rw[eC (show i < l.length by omega)] at hi
  generalize l[i]'(by omega)=x at hg hm hi
  simp (disch:=omega) only [↓wr,seval,wq,ah,ag,ak,aa,ab,af,ai,ae,h0,h1,h7,h8,encI,Rc,hg]
  refine aF.pure (hf x hm) hok ?_
  simp only[cB] at hi
  repeat' (first | (refine aq.dec (fun _=>?_) (fun _=>?_)) | (refine aq.eq (fun _=>?_) (fun _=>?_)) | (refine aq.ne (fun _=>?_) (fun _=>?_)) | (refine aq.split (fun _=>?_) (fun _=>?_)) | (simp (disch:=omega) only [↓wr,seval,wq,ah,ag,ak,aa,ab,af,ai,ae,h0,h1,h7,h8]))
  ·rename_i hp
   rw[← hi,Ra hp]
  ·rename_i hp
   refine aQ hk (by omega) ⟨?_,h0,h1,h7,rfl⟩
   rw[Q9 (by simp[hp])] at hi
   push_cast; exact hi
 ·rw[RB (by omega)] at hi
  simp (disch:=omega) only [↓wr,seval,wq,ah,ag,ak,aa,ab,af,ai,ae,h0,h1,h7,h8]
  rw[← hi]; rfl
theorem vx {l:List Int} {f:FuncId} {cap:List V} (hcap:∀ v∈cap,Tree v):∀ v∈[encI l,.fn f [] cap],Tree v:=by
 intro v hv; simp at hv
 rcases hv with rfl | rfl
 ·exact gD l
 ·exact Bp (by simp) hcap
theorem ln (l:List Int) (hl:aV l) (f:FuncId) (cap:List V) (hcap:∀ v∈cap,Tree v) (p:Int→Bool) (hf:∀ x∈l,aG Tryz.prog f (gi x :: cap) (gb (p x))) (hok:db Tryz.prog f=true) :
  aG Tryz.prog 91 [encI l,.fn f [] cap] (gb (l.any p)):=by
 refine aG.val (vx hcap) fun H=>?_
 refine aB.of mixed fY ?_
 simp (disch:=omega) only [↓wr,seval,wq,ah,ag,ak,aa,ab,af,ai,ae,eA]
 refine aF.pure (aG.val (vx hcap) (CZ l hl f cap p hf hok)) (by kernel_rfl) ?_
 simp (disch:=omega) only [↓wr,seval,wq,ah,ag,ak,aa,ab,af,ai,ae]
 rw[← qb p l 0 (by omega)]
theorem CW (l:List ByteArray) (hl:aV l) (f:FuncId) (cap:List V) (p:ByteArray→Bool) (hf:∀ x∈l,aG Tryz.prog f (gs x :: cap) (gb (p x))) (hok:db Tryz.prog f=true) (H:View) :
  aB Tryz.prog 146 [encS l,.fn f [] cap] H fun r _=>r=gi (cB p l 0):=by
 refine aB.of mixed jx ?_
 unfold aV at hl
 simp (disch:=omega) only [↓wr,seval,wq,ah,ag,ak,aa,ab,af,ai,ae,fW,encS]
 refine bg.up l.length (fun i T _=>cB p (l.drop i) i=cB p l 0∧T 0=encS l∧T 1=.fn f [] cap∧T 7=gi l.length∧T 8=gi i) ⟨rfl,rfl,rfl,rfl,rfl⟩ ?_
 rintro i k T H hk ⟨hi,h0,h1,h7,h8⟩
 simp (disch:=omega) only [↓wr,seval,wq,ah,ag,ak,aa,ab,af,ai,ae,fD,h0,h1,h7,h8,encS]
 refine aq.dec (fun hc=>?_) (fun hc=>?_)
 ·have hg:l[i]?=some (l[i]'(by omega)):=Q7 (by omega)
  have hm:l[i]'(by omega)∈l:=Rj _
  rw[eC (show i < l.length by omega)] at hi
  generalize l[i]'(by omega)=x at hg hm hi
  simp (disch:=omega) only [↓wr,seval,wq,ah,ag,ak,aa,ab,af,ai,ae,h0,h1,h7,h8,encS,Rc,hg]
  refine aF.pure (hf x hm) hok ?_
  simp only[cB] at hi
  repeat' (first | (refine aq.dec (fun _=>?_) (fun _=>?_)) | (refine aq.eq (fun _=>?_) (fun _=>?_)) | (refine aq.ne (fun _=>?_) (fun _=>?_)) | (refine aq.split (fun _=>?_) (fun _=>?_)) | (simp (disch:=omega) only [↓wr,seval,wq,ah,ag,ak,aa,ab,af,ai,ae,h0,h1,h7,h8]))
  ·rename_i hp
   rw[← hi,Ra hp]
  ·rename_i hp
   refine aQ hk (by omega) ⟨?_,h0,h1,h7,rfl⟩
   rw[Q9 (by simp[hp])] at hi
   push_cast; exact hi
 ·rw[RB (by omega)] at hi
  simp (disch:=omega) only [↓wr,seval,wq,ah,ag,ak,aa,ab,af,ai,ae,h0,h1,h7,h8]
  rw[← hi]; rfl
theorem uY {l:List ByteArray} {f:FuncId} {cap:List V} (hcap:∀ v∈cap,Tree v):∀ v∈[encS l,.fn f [] cap],Tree v:=by
 intro v hv; simp at hv
 rcases hv with rfl | rfl
 ·exact uT l
 ·exact Bp (by simp) hcap
theorem yK (l:List ByteArray) (hl:aV l) (f:FuncId) (cap:List V) (hcap:∀ v∈cap,Tree v) (p:ByteArray→Bool) (hf:∀ x∈l,aG Tryz.prog f (gs x :: cap) (gb (p x))) (hok:db Tryz.prog f=true) :
  aG Tryz.prog 100 [encS l,.fn f [] cap] (gb (l.any p)):=by
 refine aG.val (uY hcap) fun H=>?_
 refine aB.of mixed iU ?_
 simp (disch:=omega) only [↓wr,seval,wq,ah,ag,ak,aa,ab,af,ai,ae,fk]
 refine aF.pure (aG.val (uY hcap) (CW l hl f cap p hf hok)) (by kernel_rfl) ?_
 simp (disch:=omega) only [↓wr,seval,wq,ah,ag,ak,aa,ab,af,ai,ae]
 rw[← qb p l 0 (by omega)]
theorem wi {l:List Value} : ∀ v∈l.map V.val,Tree v:=by
 intro v hv; obtain ⟨x,_,rfl⟩:=Rv.1 hv; exact .val _
def wH:SF:=⟨.seq (an [bK 6 false]) <|
 .seq (.region false [⟨none,[aj 7 0,aj 8 1,bz 9 .geq 7 8,aj 10 9]⟩,⟨(some (10,true)),[aj 11 0,aj 12 2,bz 13 .leq 11 12]⟩,⟨none,[gA 14 10 13,aj 6 14]⟩]) <|
 .ret,
 [.tmp 6],15⟩
theorem zO:aU Tryz.prog 98 []=some wH:=by kernel_rfl
def CC:SF:=⟨.seq (an [bA 2 0]) <|
 .seq (an [aj 3 0,((some 4),.op (.arith .sub (.val (.val (.int .i64 (-1)))) (.tmp 3))),aj 2 4]) <|
 .ret,
 [.tmp 2],5⟩
theorem D9:aU Tryz.prog 191 []=some CC:=by kernel_rfl
def BT:SF:=⟨.seq (an [dN 2 0,bK 4 false]) <|
 .seq (.seq (an [aj 5 1,aR 6 .lss 5 0]) <|
 .cond (.tmp 6) (.seq (.region true [⟨none,[aj 7 1,bJ 8 191 [7],aC 9 1 2,ay 10 9,bj 11 10,bz 12 .lss 8 11,aj 4 12]⟩]) <|
 .ret) (.skip)) <|
 .seq (an [aj 13 1,aC 14 0 2,ay 15 14,bj 16 15,bz 17 .lss 13 16,aj 4 17]) <|
 .ret,
 [.tmp 4],18⟩
theorem Dy:aU Tryz.prog 150 [2]=some BT:=by kernel_rfl
def wv:SF:=⟨.seq (an [bK 4 false]) <|
 .seq (.region false [⟨none,[bM 5 4 1,aj 6 0,bJ 7 150 [5,6],dm 8 7,aj 9 8]⟩,⟨(some (9,false)),[aj 10 0,aR 11 .geq 10 0,aj 12 11]⟩,⟨(some (12,true)),[aC 13 2 2,ay 14 13,aR 15 .eql 14 (-1)]⟩,⟨(some (9,false)),[gA 16 12 15]⟩,⟨none,[cU 17 9 16,aj 4 17]⟩]) <|
 .ret,
 [.tmp 4],18⟩
theorem zp:aU Tryz.prog 149 []=some wv:=by kernel_rfl
def zY:SF:=⟨.seq (an [dN 2 0,dN 3 1,bK 4 false]) <|
 .seq (.seq (.region false [⟨none,[aC 5 1 3,ay 6 5,bj 7 6,aR 8 .gtr 7 6,aj 9 8]⟩,⟨(some (9,false)),[aC 10 2 3,ay 11 10,aC 12 0 2,ay 13 12,bj 14 13,aR 15 .sub 14 1,p7 16 98 [(.tmp 11),(.val (.val (.int .i64 (-1)))),(.tmp 15)],dm 17 16]⟩,⟨none,[cU 18 9 17]⟩]) <|
 .cond (.tmp 18) (.seq (an [bK 4 false]) <|
 .ret) (.skip)) <|
 .seq (an [aC 19 1 3,ay 20 19,((some 21),.op (.qk 149 [] [(.tmp 2),(.tmp 3)])),bJ 22 91 [20,21],dm 23 22,aj 4 23]) <|
 .ret,
 [.tmp 4],24⟩
theorem CT:aU Tryz.prog 103 [2,3]=some zY:=by kernel_rfl
theorem pI (a b c:Int):aG Tryz.prog 98 [gi a,gi b,gi c] (gb (decide (b≤a) && decide (a≤c))):=by
 refine aG.val (wi (l:=[.int .i64 a,.int .i64 b,.int .i64 c])) fun H=>?_
 refine aB.of mixed zO ?_
 repeat' (first | (refine aq.dec (fun _=>?_) (fun _=>?_)) | (refine aq.eq (fun _=>?_) (fun _=>?_)) | (refine aq.ne (fun _=>?_) (fun _=>?_)) | (refine aq.split (fun _=>?_) (fun _=>?_)) | (simp (disch:=omega) only [↓wr,seval,wq,ah,ag,ak,aa,ab,af,ai,ae,wH]))
 all_goals simp[*]
theorem Og (s:Int) (hs:cm s):aG Tryz.prog 191 [gi s] (gi (-1 - s)):=by
 refine aG.val (wi (l:=[.int .i64 s])) fun H=>?_
 obtain ⟨h1,h2⟩:=hs
 refine aB.of mixed D9 ?_
 repeat' (first | (refine aq.dec (fun _=>?_) (fun _=>?_)) | (refine aq.eq (fun _=>?_) (fun _=>?_)) | (refine aq.ne (fun _=>?_) (fun _=>?_)) | (refine aq.split (fun _=>?_) (fun _=>?_)) | (simp (disch:=omega) only [↓wr,seval,wq,ah,ag,ak,aa,ab,af,ai,ae,CC]))
theorem OS (g:ao) (s:Int) (hs:cm s):aG Tryz.prog 150 [.agg (aw g),gi s] (gb (gP g s)):=by
 refine aG.val (D3 g s) fun H=>?_
 refine aB.of mixed Dy ?_
 repeat' (first | (refine aq.dec (fun _=>?_) (fun _=>?_)) | (refine aq.eq (fun _=>?_) (fun _=>?_)) | (refine aq.ne (fun _=>?_) (fun _=>?_)) | (refine aq.split (fun _=>?_) (fun _=>?_)) | (refine aF.pure (Og s hs) (by kernel_rfl) ?_) | (simp (disch:=omega) only [↓wr,seval,wq,ah,ag,ak,aa,ab,af,ai,ae,BT,aw,encS]))
 ·rename_i h; simp[gP,show ¬ (0:Int)≤s by omega]
 ·rename_i h; simp[gP,show (0:Int)≤s by omega]
theorem j8 {cs:List V} {j:Nat} (h:∀ v∈cs,Tree v):Tree (.aL cs j):=by
 refine .aL _ _ fun i hi=>?_
 have e2:cs.getD i .any=cs[i]:=by simp[Q6,hi]
 rw[e2]; exact h _ (Rj _)
theorem KN (g:ao) (r:aM) (s:Int) (hs:cm s):aG Tryz.prog 149 [gi s,.aL (aw g) 0,.aL (aO r) 0] (gb (!lA g r.prec s)):=by
 refine aG.val ?_ fun H=>?_
 ·intro v hv; simp at hv
  rcases hv with rfl | rfl | rfl
  ·exact .val _
  ·exact j8 (eX g)
  ·exact j8 (fO r)
 refine aB.of mixed zp ?_
 simp (disch:=omega) only [↓wr,seval,wq,ah,ag,ak,aa,ab,af,ai,ae,wv,aw]
 refine aF.pure (OS g s hs) (by kernel_rfl) ?_
 repeat' (first | (refine aq.dec (fun _=>?_) (fun _=>?_)) | (refine aq.eq (fun _=>?_) (fun _=>?_)) | (refine aq.ne (fun _=>?_) (fun _=>?_)) | (refine aq.split (fun _=>?_) (fun _=>?_)) | (simp (disch:=omega) only [↓wr,seval,wq,ah,ag,ak,aa,ab,af,ai,ae,aO]))
 all_goals simp[lA, *]
theorem MI (g:ao) (r:aM) (hg:g.Ok) (hr:aV r.right∧∀ x∈r.right,cm x):aG Tryz.prog 103 [.agg (aw g),.agg (aO r)] (gb (gZ g r)):=by
 refine aG.val (Eo g r) fun H=>?_
 have ht:=hg.av
 unfold aV at ht
 refine aB.of mixed CT ?_
 repeat' (first | (refine aq.dec (fun _=>?_) (fun _=>?_)) | (refine aq.eq (fun _=>?_) (fun _=>?_)) | (refine aq.ne (fun _=>?_) (fun _=>?_)) | (refine aq.split (fun _=>?_) (fun _=>?_)) | (refine aF.pure (pI _ _ _) (by kernel_rfl) ?_) | (simp (disch:=omega) only [↓wr,seval,wq,ah,ag,ak,aa,ab,af,ai,ae,zY,aw,aO,encI,encS]))
 ·rename_i h; simp[gZ,show ¬ r.right.length≤6 by omega]
 ·rename_i h1 h2
  have h3:r.right.length≤6:=by omega
  have h2' : -1≤r.prec∧r.prec < g.av.length:=by simp at h2; omega
  refine aF.pure (ln r.right hr.1 149 [.aL (aw g) 0,.aL (aO r) 0] ?_ (fun s=>!lA g r.prec s) (fun x hx=>KN g r x (hr.2 x hx)) (by kernel_rfl)) (by kernel_rfl) ?_
  ·intro v hv; simp at hv
   rcases hv with rfl | rfl
   ·exact j8 (eX g)
   ·exact j8 (fO r)
  simp (disch:=omega) only [↓wr,seval,wq,ah,ag,ak,aa,ab,af,ai,ae]
  simp[gZ,h3,h2'.1,h2'.2]
  rw[Si]
  simp
 ·rename_i h1 h2
  have h3:¬ (-1≤r.prec∧r.prec < g.av.length):=by simp at h2; omega
  have:(decide (-1≤r.prec) && decide (r.prec < (g.av.length:Int)))=false:=by
   rw[← Bool.decide_and]; simpa using h3
  simp only[gZ,Bool.and_assoc]
  rw[← Bool.and_assoc (decide (-1≤r.prec)),this]; simp
theorem Mw (l:List Int) (h0:l.getD 0 0=39):((lr l).2 == 0 && (lr l).1 == (l.length:Int))=lB l:=by
 match l,h0 with
 | [],h=>simp at h
 | [a],_=>rfl
 | [a,b],_ =>
  simp only[lr,j6,lB,Rp,RF,S4,Sh]
  repeat' split
  all_goals simp_all
 | [a,b,c],h0 =>
  have ha:a=39:=by simpa using h0
  subst ha
  simp only[lr,j6,lB,uW,AU,Rp,RF,S4,Sh]
  repeat' split
  all_goals simp_all
  all_goals grind
 | [a,b,c,d],h0 =>
  have ha:a=39:=by simpa using h0
  subst ha
  simp only[lr,j6,lB,uW,AU,Rp,RF,S4,Sh]
  repeat' split
  all_goals simp_all
  all_goals grind
 | a :: b :: c :: d :: e :: r,h0 =>
  simp only[lr,j6,lB,uW,AU,Rp,S4,Sh]
  repeat' split
  all_goals simp_all
  all_goals (try omega)
  all_goals grind
theorem IS {c:Int} {l:List Int} (h:¬ c=39):lB (c :: l)=false:=by
 match l with
 | []=>rfl
 | [_]=>rfl
 | [_,_]=>simp[lB,h]
 | [_,_,_]=>simp[lB,h]
 | _ :: _ :: _ :: _ :: _=>rfl
theorem LA (s:ByteArray):aG Tryz.prog 187 [gs s] (gb (lB (eO s))):=by
 refine aG.val (nN s) fun H=>?_
 refine aB.of mixed yE ?_
 have hcr:=fun d (hd:d∈eO s)=>Bz (s:=s) (c:=d) hd
 have hP:aG Tryz.prog 224 [.aH (fU s)] (.bt [gi (lr (eO s)).1,gi (lr (eO s)).2]):=by
  rw[Lz]
  refine aG.of ?_ ((Ix (eO s) hcr _).mono fun r H' h h' _=>by rw[h]; exact .tree _ (.bt _ fun i hi=>by
   match i,hi with
   | 0,_=>exact .val _
   | 1,_=>exact .val _))
  intro v hv; simp at hv; subst hv
  exact eT _ _ fun x _ v hv=>by simp at hv; subst hv; exact .val _
 cases hb:eO s with
 | nil =>
  repeat' (first | (refine aq.dec (fun _=>?_) (fun _=>?_)) | (refine aq.eq (fun _=>?_) (fun _=>?_)) | (refine aq.ne (fun _=>?_) (fun _=>?_)) | (refine aq.split (fun _=>?_) (fun _=>?_)) | (simp (disch:=omega) only [↓wr,seval,wq,ah,ag,ak,aa,ab,af,ai,ae,pf,ef,wk,hb]))
  rfl
 | cons c l =>
  have hl:=Mw (eO s)
  rw[hb] at hP hl
  repeat' (first | (refine aq.dec (fun _=>?_) (fun _=>?_)) | (refine aq.eq (fun _=>?_) (fun _=>?_)) | (refine aq.ne (fun _=>?_) (fun _=>?_)) | (refine aq.split (fun _=>?_) (fun _=>?_)) | (simp (disch:=omega) only [↓wr,seval,wq,ah,ag,ak,aa,ab,af,ai,ae,pf,ef,wk,hb,RA]))
  ·rename_i h
   rw[IS h]
  ·rename_i h
   refine aF.pure hP (by kernel_rfl) ?_
   have hl:=hl (by simpa using h)
   repeat' (first | (refine aq.dec (fun _=>?_) (fun _=>?_)) | (refine aq.eq (fun _=>?_) (fun _=>?_)) | (refine aq.ne (fun _=>?_) (fun _=>?_)) | (refine aq.split (fun _=>?_) (fun _=>?_)) | (simp (disch:=omega) only [↓wr,seval,wq,ah,ag,ak,aa,ab,af,ai,ae,ef,hb]))
   ·rename_i h2
    rw[← hl]; simp[h2]
   ·rename_i h2
    rw[← hl]; simp[h2]
theorem Li (s:ByteArray):aG Tryz.prog 141 [gs s] (gb (oK (eO s))):=by
 refine aG.val (nN s) fun H=>?_
 refine aB.of mixed AZ ?_
 repeat' (first | (refine aq.dec (fun _=>?_) (fun _=>?_)) | (refine aq.eq (fun _=>?_) (fun _=>?_)) | (refine aq.ne (fun _=>?_) (fun _=>?_)) | (refine aq.split (fun _=>?_) (fun _=>?_)) | (refine aF.pure (EJ s) (by kernel_rfl) ?_) | (refine aF.pure (LA s) (by kernel_rfl) ?_) | (simp (disch:=omega) only [↓wr,seval,wq,ah,ag,ak,aa,ab,af,ai,ae,xI]))
 all_goals simp[oK, *]
theorem IE (s:ByteArray):aG Tryz.prog 101 [gs s] (gb (!fI (eO s))):=by
 refine aG.val (nN s) fun H=>?_
 refine aB.of mixed yu ?_
 repeat' (first | (refine aq.dec (fun _=>?_) (fun _=>?_)) | (refine aq.eq (fun _=>?_) (fun _=>?_)) | (refine aq.ne (fun _=>?_) (fun _=>?_)) | (refine aq.split (fun _=>?_) (fun _=>?_)) | (refine aF.pure (EJ s) (by kernel_rfl) ?_) | (simp (disch:=omega) only [↓wr,seval,wq,ah,ag,ak,aa,ab,af,ai,ae,uJ]))
def si:SC :=
 .seq (an [bz 12 .lss 11 10]) <|
 .seq (.cond (.tmp 12) (.skip) (.exit 0)) <|
 .seq (.block 1 (.seq (.region false [⟨none,[aY 13 3 9 11,bM 14 3 13,((some 6),.op (.alloc [(.val (.string ⟨#[]⟩)),(.val (.int .i64 0)),(.val (.int .i64 0))])),(none,.op (.store 3 (.tmp 6) (.tmp 14)))]⟩]) <|
 .seq (.seq (an [aC 15 1 6,ay 16 15,aR 17 .eql 16 0]) <|
 .cond (.tmp 17) (.exit 1) (.skip)) <|
 .seq (.seq (an [aj 18 3,aC 19 1 6,ay 20 19,((some 21),.op (.old (.lookup 204 (.tmp 18) (.tmp 20) false) 3)),aj 7 21]) <|
 .seq (.region false [⟨none,[aj 22 7,aR 23 .neq 22 0,aj 24 23]⟩,⟨(some (24,true)),[aj 25 7,aC 26 2 6,ay 27 26,bz 28 .neq 25 27]⟩,⟨none,[gA 29 24 28]⟩]) <|
 .cond (.tmp 29) (.seq (an [bK 2 false]) <|
 .ret) (.skip)) <|
 .seq (an [aj 30 3,aC 31 1 6,ay 32 31,aC 33 2 6,ay 34 33,(none,.op (.old (.mapUpdate 204 (.tmp 30) (.tmp 32) (.tmp 34)) 0))]) <|
 an [aj 35 4,aC 36 1 6,ay 37 36,((some 38),.op (.mm true (.tmp 35) (.tmp 37))),aj 4 38])) <|
 an [aR 39 .add 11 1,aj 11 39]
def vB:SF:=⟨.seq (an [bK 2 false]) <|
 .seq (an [((some 8),.op (.mJ)),aj 3 8]) <|
 .seq (an [bA 4 0]) <|
 .seq (.seq (an [aj 9 0,bj 10 9,bA 11 0]) <|
 .block 0 (.loop si)) <|
 .seq (an [aj 40 3,((some 41),.op (.old (.call { callee:=.builtin .len,args:=#[(.tmp 40)],argTypes:=#[204] }) 3)),aj 42 4,bz 43 .eql 41 42,aj 2 43]) <|
 .ret,
 [.tmp 2],44⟩
theorem yN:aU Tryz.prog 142 []=some vB:=by kernel_rfl
def ux:SC :=
 .seq (an [bz 8 .lss 7 6]) <|
 .seq (.cond (.tmp 8) (.skip) (.exit 0)) <|
 .seq (.block 1 (.seq (.region false [⟨none,[aY 9 3 5 7,bM 10 3 9,((some 4),.op (.alloc [(.val (.string ⟨#[]⟩)),(.val (.int .i64 0)),(.val (.int .i64 0))])),(none,.op (.store 3 (.tmp 4) (.tmp 10)))]⟩]) <|
 .seq (.region false [⟨none,[aC 11 0 4,ay 12 11,bJ 13 141 [12],dm 14 13,aj 15 14]⟩,⟨(some (15,false)),[aC 16 1 4,ay 17 16,p7 18 98 [(.tmp 17),(.val (.val (.int .i64 0))),(.val (.val (.int .i64 24)))],dm 19 18]⟩,⟨none,[cU 20 15 19,aj 21 20]⟩,⟨(some (21,false)),[aC 22 2 4,ay 23 22,p7 24 98 [(.tmp 23),(.val (.val (.int .i64 0))),(.val (.val (.int .i64 3)))],dm 25 24]⟩,⟨none,[cU 26 21 25,aj 27 26]⟩,⟨(some (27,false)),[aC 28 1 4,ay 29 28,aR 30 .eql 29 0,aC 31 2 4,ay 32 31,aR 33 .eql 32 0,((some 34),.op (.beq false (.tmp 30) (.tmp 33)))]⟩,⟨none,[cU 35 27 34]⟩]) <|
 .cond (.tmp 35) (.seq (an [bK 2 false]) <|
 .ret) (.skip))) <|
 an [aR 36 .add 7 1,aj 7 36]
def xN:SF:=⟨.seq (an [bK 2 false]) <|
 .seq (.seq (an [aj 5 0,bj 6 5,bA 7 0]) <|
 .block 0 (.loop ux)) <|
 .seq (.region false [⟨none,[aj 37 0,bj 38 37,aR 39 .leq 38 24,aj 40 39]⟩,⟨(some (40,true)),[aj 41 0,bJ 42 142 [41]]⟩,⟨none,[gA 43 40 42,aj 2 43]⟩]) <|
 .ret,
 [.tmp 2],44⟩
theorem Bd:aU Tryz.prog 97 []=some xN:=by kernel_rfl
def uq:SC :=
 .seq (an [bz 16 .lss 15 14]) <|
 .seq (.cond (.tmp 16) (.skip) (.exit 0)) <|
 .seq (.block 1 (.seq (.region false [⟨none,[aY 17 3 13 15,bM 18 3 17,((some 5),.op (.alloc [(.val (.string ⟨#[]⟩)),(.val (.int .i64 0)),(.val (.int .i64 0))])),(none,.op (.store 3 (.tmp 5) (.tmp 18)))]⟩]) <|
 .region false [⟨none,[aj 19 3,aC 20 0 5,ay 21 20,((some 22),.op (.c4 1 1 [(.val (.string ⟨#[]⟩))] [(0,(.tmp 21))])),((some 23),.op (.app 1 16 (.tmp 19) (.tmp 22))),aj 3 23]⟩])) <|
 an [aR 24 .add 15 1,aj 15 24]
def uB:SC :=
 .seq (an [bz 65 .lss 64 63]) <|
 .seq (.cond (.tmp 65) (.skip) (.exit 2)) <|
 .seq (.block 3 (.seq (an [aY 66 3 62 64,bM 67 3 66,((some 8),.op (.alloc [(.val (.int .i64 0)),(.emp 1),(.val (.int .i64 0))])),(none,.op (.store 3 (.tmp 8) (.tmp 67)))]) <|
 .seq (.seq (.region false [⟨none,[aC 68 0 8,ay 69 68,aj 70 6,p7 71 98 [(.tmp 69),(.val (.val (.int .i64 0))),(.tmp 70)],dm 72 71,aj 73 72]⟩,⟨(some (73,false)),[bM 74 4 1,bM 75 3 8,bJ 76 103 [74,75],dm 77 76]⟩,⟨none,[cU 78 73 77]⟩]) <|
 .cond (.tmp 78) (.seq (an [bK 2 false]) <|
 .ret) (.skip)) <|
 an [aj 79 6,aC 80 0 8,ay 81 80,aR 82 .add 81 1,((some 83),.op (.mm true (.tmp 79) (.tmp 82))),aj 6 83])) <|
 an [aR 84 .add 64 1,aj 64 84]
def xy:SF:=⟨.seq (an [dN 1 0,bK 2 false]) <|
 .seq (an [aC 9 1 1,ay 10 9,bJ 11 96 [10],aj 3 11]) <|
 .seq (.seq (an [aC 12 0 1,ay 13 12,bj 14 13,bA 15 0]) <|
 .block 0 (.loop uq)) <|
 .seq (.seq (.region false [⟨none,[aC 25 0 1,ay 26 25,bJ 27 97 [26],dm 28 27,aj 29 28]⟩,⟨(some (29,false)),[aC 30 1 1,ay 31 30,bj 32 31,p7 33 98 [(.tmp 32),(.val (.val (.int .i64 1))),(.val (.val (.int .i64 16)))],dm 34 33]⟩,⟨none,[cU 35 29 34,aj 36 35]⟩,⟨(some (36,false)),[aC 37 2 1,ay 38 37,bj 39 38,p7 40 98 [(.tmp 39),(.val (.val (.int .i64 1))),(.val (.val (.int .i64 40)))],dm 41 40]⟩,⟨none,[cU 42 36 41,aj 43 42]⟩,⟨(some (43,false)),[aj 44 3,bJ 45 99 [44],dm 46 45]⟩,⟨none,[cU 47 43 46,aj 48 47]⟩,⟨(some (48,false)),[aC 49 3 1,ay 50 49,aC 51 1 1,ay 52 51,bj 53 52,aR 54 .sub 53 1,p7 55 98 [(.tmp 50),(.val (.val (.int .i64 0))),(.tmp 54)],dm 56 55]⟩,⟨none,[cU 57 48 56]⟩]) <|
 .cond (.tmp 57) (.seq (an [bK 2 false]) <|
 .ret) (.skip)) <|
 .seq (.seq (an [aC 58 1 1,ay 59 58,p7 60 100 [(.tmp 59),(.val (.fn 101 [] []))]]) <|
 .cond (.tmp 60) (.seq (an [bK 2 false]) <|
 .ret) (.skip)) <|
 .seq (an [bA 6 0]) <|
 .seq (.seq (an [aC 61 2 1,ay 62 61,bj 63 62,bA 64 0]) <|
 .block 2 (.loop uB)) <|
 .seq (an [aj 85 6,aC 86 1 1,ay 87 86,bj 88 87,bz 89 .eql 85 88,aj 2 89]) <|
 .ret,
 [.tmp 2],90⟩
theorem A3:aU Tryz.prog 52 [1]=some xy:=by kernel_rfl
def dR (l:List Term):V:=.aH (l.map ca)
theorem Av (l:List Term):∀ v∈[dR l],Tree v:=by intro v hv; simp at hv; subst hv; exact eT _ _ fun x _=>qP x
def lu:List Term→List (Int × Int)→Int→Option (List (Int × Int) × Int)
 | [],a,top=>some (a,top)
 | t :: r,a,top=>if t.level=0 then lu r a top else
  if (dJ a t.level).getD 0≠0∧(dJ a t.level).getD 0≠t.assoc then none else lu r (jt t.level t.assoc a) (if t.level > top then t.level else top)
def pV (l:List Term):Bool:=match lu l [] 0 with
 | some (a,top)=>(a.length:Int) == top
 | none=>false
set_option maxHeartbeats 1000000 in
theorem Iw (l:List Term) (hl:aV l):aG Tryz.prog 142 [dR l] (gb (pV l)):=by
 refine aG.val (Av l) fun H=>?_
 refine aB.of mixed yN ?_
 unfold aV at hl
 simp (disch:=omega) only [↓wr,seval,wq,ah,ag,ak,aa,ab,af,ai,ae,vB,dR]
 intro q hq
 try simp (disch:=omega) only [↓wr,seval,wq,ah,ag,ak,aa,ab,af,ai,ae]
 refine bg.up l.length (fun i T H=>(∃ a m c top,H q=.map (bW (Value.int .i64) m) c∧mC gi a m∧T 4=gi top∧lu (l.drop i) a top=lu l [] 0)∧T 0=dR l∧T 3=.mp q∧T 9=dR l∧T 10=gi l.length∧T 11=gi i) ?_ ?_
 ·refine ⟨⟨[],[],0,0,?_,trivial,rfl,rfl⟩,rfl,rfl,rfl,rfl,rfl⟩
  simp[View.set,bW]
 rintro i k T H hk ⟨⟨a,m,c,top,hq,hm,h4,hi⟩,h0,h3,h9,h10,h11⟩
 simp (disch:=omega) only [↓wr,seval,wq,ah,ag,ak,aa,ab,af,ai,ae,si,h0,h3,h4,h9,h10,h11,dR]
 refine aq.dec (fun hc=>?_) (fun hc=>?_)
 ·have hg:l[i]?=some (l[i]'(by omega)):=Q7 (by omega)
  rw[eC (show i < l.length by omega)] at hi
  generalize l[i]'(by omega)=t at hg hi
  simp only[lu] at hi
  simp (disch:=omega) only [↓wr,seval,wq,ah,ag,ak,aa,ab,af,ai,ae,h0,h3,h4,h9,h10,h11,dR,ca,Rc,hg]
  intro b hb
  have hbq:b≠q:=by rintro rfl; rw[hq] at hb; simp at hb
  try simp (disch:=omega) only [↓wr,seval,wq,ah,ag,ak,aa,ab,af,ai,ae]
  refine aq.eq (fun hz=>?_) (fun hz=>?_)
  ·rw[Ra hz] at hi
   simp (disch:=omega) only [↓wr,seval,wq,ah,ag,ak,aa,ab,af,ai,ae,h0,h3,h4,h9,h10,h11]
   refine aQ hk (by omega) ⟨⟨a,m,c,top,?_,hm,h4,hi⟩,h0,h3,h9,h10,rfl⟩
   simp[View.set,hbq.symm,hq]
  ·rw[Q9 hz] at hi
   simp (disch:=omega) only [↓wr,seval,wq,ah,ag,ak,aa,ab,af,ai,ae,h0,h3,h4,h9,h10,h11]
   refine wW (kt:=3) (et:=3) (z:=gi 0) (by kernel_rfl) (by kernel_rfl) (jX .i64 Tryz.underlying3) (id:=q) (c:=c) (m:=m) (k:=t.level) (by simp (disch:=omega) only [↓wr,seval,wq,ah,ag,ak,aa,ab,af,ai,ae,h3]) (by simp (disch:=omega) only [↓wr,seval,wq,ah,ag,ak,aa,ab,af,ai,ae,h3]) (by simp[View.set,hbq.symm,hq]) ?_
   have hgt:(getM m t.level).getD (gi 0)=gi ((dJ a t.level).getD 0):=by
    rw[hm.get]; cases dJ a t.level <;> rfl
   have hput:∀ (H2:View) (c':Nat) (T2:Env),(¬ ((dJ a t.level).getD 0≠0∧(dJ a t.level).getD 0≠t.assoc)) →
     H2 q=.map (bW (Value.int .i64) (bu t.level (gi t.assoc) c m)) c'→T2 0=dR l→T2 3=.mp q→T2 4=gi (if t.level > top then t.level else top)→T2 9=dR l→T2 10=gi l.length→T2 11=gi ((i:Int)+1) →
     ∃ k',k' < k∧Gz l.length k' (fun i T H=>(∃ a m c top,H q=.map (bW (Value.int .i64) m) c∧mC gi a m∧T 4=gi top∧lu (l.drop i) a top=lu l [] 0)∧T 0=dR l∧T 3=.mp q∧T 9=dR l∧T 10=gi l.length∧T 11=gi i) T2 H2:=by
    intro H2 c' T2 hn g1 g2 g3 g4 g5 g6 g7
    rw[Q9 hn] at hi
    exact aQ hk (by omega) ⟨⟨_,_,c',_,g1,hm.put t.level t.assoc c,g4,hi⟩,g2,g3,g5,g6,by rw[g7]; rfl⟩
   repeat' (first | (refine aq.dec (fun _=>?_) (fun _=>?_)) | (refine aq.eq (fun _=>?_) (fun _=>?_)) | (refine aq.ne (fun _=>?_) (fun _=>?_)) | (refine aq.split (fun _=>?_) (fun _=>?_)) | (simp (disch:=omega) only [↓wr,seval,wq,ah,ag,ak,aa,ab,af,ai,ae,h0,h3,h4,h9,h10,h11,hgt]))
   ·rename_i n1 n2
    rw[Ra ⟨n1,n2⟩] at hi
    simp only[pV,← hi]
   ·rename_i n1 n2
    refine sQ (kt:=3) (et:=3) (by kernel_rfl) (jX .i64 Tryz.underlying3) (id:=q) (c:=c) (m:=m) (k:=t.level) (v:=gi t.assoc) (by simp (disch:=omega) only [↓wr,seval,wq,ah,ag,ak,aa,ab,af,ai,ae,h3]) (by simp (disch:=omega) only [↓wr,seval,wq,ah,ag,ak,aa,ab,af,ai,ae,h3]) (by simp (disch:=omega) only [↓wr,seval,wq,ah,ag,ak,aa,ab,af,ai,ae,h3]) (by simp[View.set,hbq.symm,hq]) ?_
    intro c'
    simp (disch:=omega) only [↓wr,seval,wq,ah,ag,ak,aa,ab,af,ai,ae,h0,h3,h4,h9,h10,h11,hbq]
    exact hput _ c' _ (fun e=>e.2 n2) (by simp[View.set]) h0 h3 rfl h9 h10 rfl
   ·rename_i n1
    refine sQ (kt:=3) (et:=3) (by kernel_rfl) (jX .i64 Tryz.underlying3) (id:=q) (c:=c) (m:=m) (k:=t.level) (v:=gi t.assoc) (by simp (disch:=omega) only [↓wr,seval,wq,ah,ag,ak,aa,ab,af,ai,ae,h3]) (by simp (disch:=omega) only [↓wr,seval,wq,ah,ag,ak,aa,ab,af,ai,ae,h3]) (by simp (disch:=omega) only [↓wr,seval,wq,ah,ag,ak,aa,ab,af,ai,ae,h3]) (by simp[View.set,hbq.symm,hq]) ?_
    intro c'
    simp (disch:=omega) only [↓wr,seval,wq,ah,ag,ak,aa,ab,af,ai,ae,h0,h3,h4,h9,h10,h11,hbq]
    exact hput _ c' _ (fun e=>e.1 n1) (by simp[View.set]) h0 h3 rfl h9 h10 rfl
 ·rw[RB (by omega)] at hi
  simp only[lu] at hi
  simp (disch:=omega) only [↓wr,seval,wq,ah,ag,ak,aa,ab,af,ai,ae,h0,h3,h4,h9,h10,h11]
  refine PI (kt:=3) (et:=3) (by kernel_rfl) (id:=q) (c:=c) (m:=m) (by simp (disch:=omega) only [↓wr,seval,wq,ah,ag,ak,aa,ab,af,ai,ae,h3]) hq ?_
  simp (disch:=omega) only [↓wr,seval,wq,ah,ag,ak,aa,ab,af,ai,ae,h0,h3,h4,h9,h10,h11,hm.len]
  simp only[pV,← hi]
def ke (t:Term):Bool:=oK (eO t.name) && decide (0≤t.level) && decide (t.level≤24) && decide (0≤t.assoc) && decide (t.assoc≤3) && ((t.level == 0) == (t.assoc == 0))
def qI (l:List Term):Bool:=l.all ke && decide (l.length≤24) && pV l
set_option maxHeartbeats 1000000 in
theorem LB (l:List Term) (hl:aV l):aG Tryz.prog 97 [dR l] (gb (qI l)):=by
 refine aG.val (Av l) fun H=>?_
 refine aB.of mixed Bd ?_
 have hl2:=hl
 unfold aV at hl
 simp (disch:=omega) only [↓wr,seval,wq,ah,ag,ak,aa,ab,af,ai,ae,xN,dR]
 refine bg.up l.length (fun i T H=>(l.drop i).all ke=l.all ke∧T 0=dR l∧T 5=dR l∧T 6=gi l.length∧T 7=gi i) ?_ ?_
 ·exact ⟨rfl,rfl,rfl,rfl,rfl⟩
 rintro i k T H hk ⟨hi,h0,h5,h6,h7⟩
 simp (disch:=omega) only [↓wr,seval,wq,ah,ag,ak,aa,ab,af,ai,ae,ux,h0,h5,h6,h7,dR]
 refine aq.dec (fun hc=>?_) (fun hc=>?_)
 ·have hg:l[i]?=some (l[i]'(by omega)):=Q7 (by omega)
  rw[eC (show i < l.length by omega)] at hi
  generalize l[i]'(by omega)=t at hg hi
  rw[Sn] at hi
  have hbad:ke t=false→gb false=gb (qI l):=fun e=>by rw[e,SL] at hi; simp[qI,← hi]
  simp (disch:=omega) only [↓wr,seval,wq,ah,ag,ak,aa,ab,af,ai,ae,h0,h5,h6,h7,dR,ca,Rc,hg]
  intro b hb
  repeat' (first | (refine aq.dec (fun _=>?_) (fun _=>?_)) | (refine aq.eq (fun _=>?_) (fun _=>?_)) | (refine aq.ne (fun _=>?_) (fun _=>?_)) | (refine aq.split (fun _=>?_) (fun _=>?_)) | (refine aF.pure (Li t.name) (by kernel_rfl) ?_) | (refine aF.pure (pI _ _ _) (by kernel_rfl) ?_) | (simp (disch:=omega) only [↓wr,seval,wq,ah,ag,ak,aa,ab,af,ai,ae,h0,h5,h6,h7,dR]))
  all_goals first
   | (refine hbad ?_; simp[ke, *]; done)
   | (refine hbad ?_; simp_all [ke]; done)
   | skip
  rename_i e1 e2 e3 e4
  refine aQ hk (by omega) ⟨?_,h0,h5,h6,rfl⟩
  have:ke t=true:=by
   simp only[Rg,Rn] at e2 e3
   have e4':((t.level == 0) == (t.assoc == 0))=true:=by simpa [bne] using e4
   simp[ke,e1,e2.1,e2.2,e3.1,e3.2,e4']
  rw[this,Sq] at hi
  exact hi
 ·rw[RB (by omega),List.all_nil] at hi
  simp (disch:=omega) only [↓wr,seval,wq,ah,ag,ak,aa,ab,af,ai,ae,h0,h5,h6,h7,dR]
  repeat' (first | (refine aq.dec (fun _=>?_) (fun _=>?_)) | (refine aq.eq (fun _=>?_) (fun _=>?_)) | (refine aq.ne (fun _=>?_) (fun _=>?_)) | (refine aq.split (fun _=>?_) (fun _=>?_)) | (refine aF.pure (Iw l hl2) (by kernel_rfl) ?_) | (simp (disch:=omega) only [↓wr,seval,wq,ah,ag,ak,aa,ab,af,ai,ae,h0,h5,h6,h7,dR]))
  ·rename_i h
   simp[qI,← hi,show l.length≤24 by omega]
  ·rename_i h
   simp[qI,← hi,show ¬ l.length≤24 by omega]
end Gv
