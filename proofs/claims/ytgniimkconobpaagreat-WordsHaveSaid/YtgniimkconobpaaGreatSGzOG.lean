/-
  Part 7 of the proof: what the machine does and what the functions answer.
  Conditions: those that each lemma names.
-/
import Derived.Test.YtgniimkconobpaaGreatSGzOF
set_option linter.unusedSimpArgs false
set_option linter.unusedVariables false
namespace Gv
open Go
inductive dA (h:aE):V→V→Prop
  | val (v:Value):dA h (.val v) (.val v)
  | emp (k:Nat):dA h (.emp k) (.aY [])
  | sl (id off len esz z:Nat) (es es':List (List V)):h.view id=.arr z es→off+len≤es.length→es'.length=len →
      (∀ i,i < len→(es'.getD i []).length=(es.getD (off+i) []).length) →
      (∀ i j,i < len→j < (es'.getD i []).length→dA h ((es.getD (off+i) []).getD j .any) ((es'.getD i []).getD j .any))→dA h (.sl id off len esz) (.aY es')
  | agg (cs cs':List V):cs'.length=cs.length→(∀ i,i < cs.length→dA h (cs.getD i .any) (cs'.getD i .any))→dA h (.agg cs) (.agg cs')
  | bp (cs cs':List V):cs'.length=cs.length→(∀ i,i < cs.length→dA h (cs.getD i .any) (cs'.getD i .any))→dA h (.bp cs) (.bp cs')
theorem Is {h:aE} {Z:Nat→Prop} {μ ν:Mu} {F:View} {hp:Array Obj} (hr:eD Z μ hp (cat h F)) {v t:V} (fr:dA h v t):∀ {x:Value},ay Z μ hp v x→ay (fV μ) ν hp t x:=by
  have hcat:∀ id,h.view id≠.dead→cat h F id=h.view id:=fun id hd=>by simp only[cat]; rw[if_pos (fE hd)]
  induction fr with
  | val v=>intro x hx; cases hx with | val _ hv=>exact .val _ hv
  | emp k=>intro x hx; cases hx with | emp _ a=>exact .eC a 0 (fun _=>rfl)
  | sl id off len esz z es es' hH hle hlen hl _ ih =>
    intro x hx
    cases hx with
    | mL _ _ _ a =>
      have:es'=[]:=List.length_eq_zero_iff.1 hlen
      subst this
      exact .eC a 0 (fun _=>rfl)
    | sl _ _ _ _ b o0 cap c e f hm hlec hb hs =>
      have hor:=hr.obj id
      rw[hcat id (by rw[hH]; simp),hH] at hor
      obtain ⟨rfl,_,h3,h4⟩:=hor b o0 esz hm
      have hx:∀ i,∃ ci:Nat→Value,∀ j,j < esz→i < len→cellAt hp b (o0+off * esz+i * esz+j)=some (ci j)∧ay Z μ hp ((es.getD (off+i) []).getD j .any) (ci j):=by
        intro i
        by_cases hi:i < len
        · obtain ⟨ci,hci⟩:=jP (n:=esz) (p:=fun j x=>cellAt hp b (o0+off * esz+i * esz+j)=some x∧ay Z μ hp ((es.getD (off+i) []).getD j .any) x) (fun j hj=>by
            obtain ⟨x,hx,hv⟩:=h4 (off+i) j (by omega) hj
            rw[Nat.add_mul,← Nat.add_assoc] at hx
            exact ⟨x,hx,hv⟩)
          exact ⟨ci,fun j hj _=>hci j hj⟩
        · exact ⟨fun _=>undef,fun j _ h=>absurd h hi⟩
      obtain ⟨cf,hcf⟩:=Classical.axiomOfChoice hx
      have hel:∀ i,i < es'.length→(es'.getD i []).length=esz:=fun i hi=>by rw[hl i (by omega)]; exact h3 _ (by omega)
      have:=ay.aY (Z:=fV μ) (μ:=ν) (hp:=hp) es' b (o0+off * esz) esz cap cf ⟨id,o0,esz,hm⟩ (by omega) hel
        (fun i j hi hj=>(hcf i j hj (by omega)).1) (fun i j hi hj=>ih i j (by omega) (by rw[hel i hi]; exact hj) (hcf i j hj (by omega)).2)
      rw[hlen] at this
      exact this
  | agg cs cs' hlen _ ih =>
    intro x hx
    cases hx with
    | agg _ aas h1 h2=>exact .agg _ _ (by omega) (fun i hi=>ih i (by omega) (h2 i (by omega)))
  | bp cs cs' hlen _ ih =>
    intro x hx
    cases hx with
    | bp _ aas h1 h2=>exact .bp _ _ (by omega) (fun i hi=>ih i (by omega) (h2 i (by omega)))
def cG (P:Program) (f:FuncId) (vs:List V) (t:V):Prop :=
  ∀ Z μ (w:World) (xs:List Value),dx Z μ w.heap vs xs→(∀ b,Z b→b < w.heap.size) →
    Calls P f xs.toArray w fun e w'=>∃ x Z',e=.returned x∧(∀ ν,ay Z' ν w'.heap t x)∧cA w w'∧(∀ b,Z' b→w.heap.size≤b∧b < w'.heap.size)∧c5 w.heap w'.heap (fun _=>False)
theorem cG.pure {P:Program} {f:FuncId} {vs:List V} {t:V} (h:cG P f vs t):aC P f vs t:=by
  intro Z μ w xs hrel hz
  refine (h Z μ w xs hrel hz).mono ?_
  rintro e w' ⟨x,Z',rfl,hv,hs,hz',ho⟩
  exact ⟨x,fun b=>Z b∨Z' b,rfl,fun ν=>(hv ν).mono ⟨fun _ h=>.inr h,fun _ _=>rfl,fun _ _ h=>h,dk.refl _⟩,hs,fun _ h=>.inl h,fun b hb=>hb.imp id (hz' b),ho⟩
theorem cG.qY {P:Program} {f:FuncId} {vs:List V} {r t:V} {h':aE} (ht:∀ v∈vs,Tree v) (hc:bL P f vs [] r h') (hf:dA h' r t):cG P f vs t:=by
  intro Z μ w xs hrel hz
  have hrel0:dx Z (fun _=>none) w.heap vs xs:=⟨hrel.1,fun i hi=>vB (hrel.2 i hi) (by
    simp only[List.getD_eq_getElem?_getD,List.getElem?_eq_getElem hi,Option.getD_some]
    exact ht _ (List.getElem_mem _))⟩
  have hr0:eD Z (fun _=>none) w.heap (cat [] fun _=>.dead):=by
    rw[CN]
    exact ⟨fun _=>trivial,fun i j b o s o' s' _ h=>by simp at h,fun id b o s h=>by simp at h,hz,fun id b o s h=>by simp at h⟩
  refine (hc.2 Z _ _ w xs hrel0 hr0 (fun _ _ _=>rfl)).mono ?_
  rintro e w' ⟨x,Z',μ',rfl,hv,hh,hex,_⟩
  refine ⟨x,fV μ',rfl,fun ν=>Is hh hf hv,hex.same,?_,fun b hb _=>hex.frame b hb (by rintro ⟨_,_,_,h⟩; simp at h)⟩
  rintro b ⟨id,o,s,hb⟩
  rcases hex.wc _ _ _ _ hb with h1 | ⟨_,h1 | ⟨_,_,_,h1⟩⟩
  · simp at h1
  · exact ⟨h1,hh.lt _ _ _ _ hb⟩
  · simp at h1
theorem cG.of {P:Program} {f:FuncId} {vs:List V} {t:V} (ht:∀ v∈vs,Tree v) (h:aB P f vs (fun _=>.dead) fun r H'=>∀ h':aE,h'.view=H'→dA h' r t):cG P f vs t:=by
  obtain ⟨r,h',ha,_,hf⟩:=h.2 [] yk
  exact cG.qY ht ha (hf h' rfl)
theorem bL.tQ {P:Program} {f:FuncId} {ts vs:List V} {t:V} {h:aE} (hc:cG P f ts t) (hl:ts.length=vs.length)
    (hfr:∀ i,i < vs.length→Fr h (vs.getD i .any) (ts.getD i .any)):bL P f vs h t h:=by
  refine ⟨Nat.le_refl _,fun Z μ F w xs hrel hr hfree=>?_⟩
  have hts:dx (fun b=>Z b∨fV μ b) μ w.heap ts xs:=⟨by rw[hl,hrel.1],fun i hi=>AY hr (hfr i (by omega)) (hrel.2 i (by omega))⟩
  have hzl:∀ b,(Z b∨fV μ b)→b < w.heap.size:=by
    rintro b (hb | ⟨id,o,s,hb⟩)
    · exact hr.bM b hb
    · exact hr.lt _ _ _ _ hb
  refine (hc _ μ w xs hts hzl).mono ?_
  rintro e w' ⟨x,Z',rfl,hv,hs,hz',ho⟩
  have hm:dR Z (fun b=>Z b∨Z' b) μ μ w.heap w'.heap:=⟨fun _ h=>.inl h,fun b hb=>ho b (hr.bM b hb) (fun x=>x),fun _ _ h=>h,ho.lI⟩
  refine ⟨x,fun b=>Z b∨Z' b,μ,rfl,(hv μ).mono ⟨fun _ h=>.inr h,fun _ _=>rfl,fun _ _ h=>h,dk.refl _⟩,⟨fun id=>(hr.obj id).mono hm rfl (fun b o s hx=>ho b (hr.lt _ _ _ _ hx) (fun x=>x)),hr.inj,fun id b o s hx=>Nat.lt_of_lt_of_le (hr.lt _ _ _ _ hx) hs.size,fun b hb=>?_,fun id b o s hx hzb=>?_⟩,
    ⟨hs,hm,fun b hb _=>ho b hb (fun x=>x),fun b hb=>hb.imp id (fun h=>(hz' b h).1),fun _ _ _ _ h=>.inl h⟩,fun _ _=>rfl⟩
  · rcases hb with hb | hb
    · exact Nat.lt_of_lt_of_le (hr.bM b hb) hs.size
    · exact (hz' b hb).2
  · rcases hzb with hb | hb
    · exact hr.ew _ _ _ _ hx hb
    · have:=hr.lt _ _ _ _ hx; have:=(hz' b hb).1; omega
theorem az.tQ {P:Program} {q:Bool} {f:FuncId} {H:View} {vs ts:List V} {K:V→View→Prop} {v:bP (H,K)} {t:V} (hc:cG P f ts t) (hok:bY P f=true) (hl:ts.length=vs.length)
    (hfr:∀ i,i < vs.length→cO H (vs.getD i .any) (ts.getD i .any)) (hk:K t H):az P q f vs H K v:=by
  unfold az
  cases q with
  | true=>exact ⟨hok,fun h e=>⟨t,h,bL.tQ hc hl (fun i hi=>hfr i hi h e),fun _ _=>rfl,e ▸ hk⟩⟩
  | false =>
    refine ⟨hok,?_⟩
    rintro h rfl
    exact ⟨t,h,bL.tQ hc hl (fun i hi=>hfr i hi h rfl),.refl _,hk⟩
noncomputable def qS (fz:V→Option V):List V→Option (List V)
  | []=>some []
  | v :: l=>match fz v,qS fz l with
    | some a,some b=>some (a :: b)
    | _,_=>none
noncomputable def zH (fz:V→Option V):List (List V)→Option (List (List V))
  | []=>some []
  | v :: l=>match qS fz v,zH fz l with
    | some a,some b=>some (a :: b)
    | _,_=>none
noncomputable def tG (H:View):Nat→V→Option V
  | 0,_=>none
  | k+1,v=>match v with
    | .val x=>some (.val x)
    | .emp _=>some (.aY [])
    | .sl id off len _=>match H id with
      | .arr _ es=>if off+len≤es.length then (zH (tG H k) ((es.drop off).take len)).map .aY else none
      | _=>none
    | .agg cs=>(qS (tG H k) cs).map .agg
    | .bp cs=>(qS (tG H k) cs).map .bp
    | _=>none
theorem nt {fz:V→Option V} : ∀ (l l':List V),qS fz l=some l'→l'.length=l.length∧∀ i,i < l.length→fz (l.getD i .any)=some (l'.getD i .any)
  | [],l',h=>by simp only[qS,Option.some.injEq] at h; subst h; exact ⟨rfl,fun i hi=>by simp at hi⟩
  | v :: l,l',h=>by
    simp only[qS] at h
    split at h
    · rename_i a b h1 h2
      simp only[Option.some.injEq] at h; subst h
      obtain ⟨g1,g2⟩:=nt l b h2
      refine ⟨by simp[g1],fun i hi=>?_⟩
      cases i with
      | zero=>exact h1
      | succ i=>exact g2 i (by simpa using hi)
    · simp at h
theorem BU {fz:V→Option V} : ∀ (l l':List (List V)),zH fz l=some l'→l'.length=l.length∧∀ i,i < l.length→qS fz (l.getD i [])=some (l'.getD i [])
  | [],l',h=>by simp only[zH,Option.some.injEq] at h; subst h; exact ⟨rfl,fun i hi=>by simp at hi⟩
  | v :: l,l',h=>by
    simp only[zH] at h
    split at h
    · rename_i a b h1 h2
      simp only[Option.some.injEq] at h; subst h
      obtain ⟨g1,g2⟩:=BU l b h2
      refine ⟨by simp[g1],fun i hi=>?_⟩
      cases i with
      | zero=>exact h1
      | succ i=>exact g2 i (by simpa using hi)
    · simp at h
theorem Cr (h:aE):∀ (k:Nat) (v t:V),tG h.view k v=some t→dA h v t
  | 0,v,t,hf=>by simp[tG] at hf
  | k+1,v,t,hf=>by
    have ih:=Cr h k
    simp only[tG] at hf
    split at hf
    · simp only[Option.some.injEq] at hf; subst hf; exact .val _
    · simp only[Option.some.injEq] at hf; subst hf; exact .emp _
    · rename_i id off len esz
      split at hf
      · rename_i z es hH
        split at hf
        · rename_i hle
          simp only[Option.map_eq_some_iff] at hf
          obtain ⟨es',he,rfl⟩:=hf
          obtain ⟨g1,g2⟩:=BU _ _ he
          have hlen:es'.length=len:=by rw[g1]; simp; omega
          have hg:∀ i,i < len→((es.drop off).take len).getD i []=es.getD (off+i) []:=fun i hi=>by
            simp[List.getD_eq_getElem?_getD,List.getElem?_take,hi]
          have g3:∀ i,i < len→qS (tG h.view k) (es.getD (off+i) [])=some (es'.getD i []):=fun i hi=>by
            rw[← hg i hi]; exact g2 i (by rw[← g1,hlen]; exact hi)
          exact .sl id off len esz z es es' hH hle hlen (fun i hi=>(nt _ _ (g3 i hi)).1) (fun i j hi hj=>ih _ _ ((nt _ _ (g3 i hi)).2 j (by rw[← (nt _ _ (g3 i hi)).1]; exact hj)))
        · simp at hf
      · simp at hf
    · simp only[Option.map_eq_some_iff] at hf
      obtain ⟨l,hl,rfl⟩:=hf
      obtain ⟨g1,g2⟩:=nt _ _ hl
      exact .agg _ _ g1 (fun i hi=>ih _ _ (g2 i hi))
    · simp only[Option.map_eq_some_iff] at hf
      obtain ⟨l,hl,rfl⟩:=hf
      obtain ⟨g1,g2⟩:=nt _ _ hl
      exact .bp _ _ g1 (fun i hi=>ih _ _ (g2 i hi))
    · simp at hf
noncomputable def HH:Option (V × ES)→Option V
  | some (v,e)=>tG e.V 50 v
  | none=>none
noncomputable def pO (P:Program) (tab:List (FuncId × DF)) (ext:uV) (f:FuncId) (vs:List V):Option V :=
  HH (zb P tab ext (zL P tab ext 100000) f vs ⟨.nil,.nil,0,[]⟩)
theorem rf {P:Program} (hm:P.follows .mixedOrders=true) {tab:List (FuncId × DF)} {ext:uV} (ht:rI P tab) (hx:q5 P ext) {f:FuncId} {vs:List V} {t:V} (hvs:∀ v∈vs,Tree v) (h:pO P tab ext f vs=some t) :
    cG P f vs t:=by
  unfold pO HH at h
  split at h
  · rename_i v e hr
    obtain ⟨h1,h',h2,h3,_⟩:=An ht hx (B4 hm ht hx 100000) f vs _ v e [] hr ⟨by funext k; rfl,rfl⟩
    rw[h3.1] at h
    exact cG.qY hvs h2 (Cr h' 50 v t h)
  · simp at h
end Gv
set_option linter.unusedSimpArgs false
set_option maxRecDepth 100000
namespace Gv
open Go Go.Proofs
structure au.nB (g:au):Prop where
  aw:g.aw.length≤24
  HG:1≤g.aD.length
  aD:g.aD.length≤16
  J7:1≤g.rules.length
  rules:g.rules.length≤40
  qw:0≤g.start
  start:g.start < g.aD.length
  left:∀ r∈g.rules,0≤r.left∧r.left < g.aD.length
  right:∀ r∈g.rules,r.right.length≤6
  sym:∀ r∈g.rules,∀ s∈r.right,kS g s=true
  prec:∀ r∈g.rules,-1≤r.prec∧r.prec < g.aw.length
theorem s8 {g:au} : ∀ (l:List aZ) (top:Int),dW g l top=true→top≤(g.aD.length:Int) - 1∧∀ r∈l,0≤r.left∧r.left < g.aD.length∧ey g r=true
  | [],top,h=>by simp[dW] at h; exact ⟨by omega,fun r hr=>by simp at hr⟩
  | r :: l,top,h=>by
    simp only[dW,Bool.and_eq_true,decide_eq_true_eq] at h
    obtain ⟨⟨⟨h1,h2⟩,h3⟩,h4⟩:=h
    obtain ⟨k1,k2⟩:=s8 l _ h4
    have h5:r.left≤(if r.left > top then r.left else top):=by split <;> omega
    have h6:top≤(if r.left > top then r.left else top):=by split <;> omega
    refine ⟨by omega,fun r' hr=>?_⟩
    rcases List.mem_cons.1 hr with rfl | hr
    · exact ⟨h1,by omega,h3⟩
    · exact k2 r' hr
theorem bt {g:au} (h:aT g=true):g.nB:=by
  simp only[aT,fG,gg,Bool.and_eq_true,decide_eq_true_eq] at h
  obtain ⟨⟨⟨⟨⟨⟨⟨h1,_⟩,⟨h2,h3⟩,_⟩,h4⟩,h5⟩,h6⟩,h7⟩,h8⟩:=h
  have k:=(s8 _ _ h8).2
  have hb:∀ r∈g.rules,r.right.length≤6∧-1≤r.prec∧r.prec < g.aw.length∧∀ s∈r.right,kS g s=true:=fun r hr=>by
    have:=(k r hr).2.2
    simp only[ey,Bool.and_eq_true,decide_eq_true_eq,List.all_eq_true,iX] at this
    exact ⟨this.1.1.1,this.1.1.2,this.1.2,fun s hs=>(this.2 s hs).1⟩
  exact ⟨h1,h2,h3,h4,h5,h6,h7,fun r hr=>⟨(k r hr).1,(k r hr).2.1⟩,fun r hr=>(hb r hr).1,fun r hr=>(hb r hr).2.2.2,fun r hr=>⟨(hb r hr).2.1,(hb r hr).2.2.1⟩⟩
theorem au.nB.neg {g:au} (h:g.nB) {r:aZ} (hr:r∈g.rules) {s:Int} (hs:s∈r.right) (hn:s < 0) : -1 - s < g.aD.length:=by
  have:=h.sym r hr s hs
  simp only[kS] at this
  rw[if_neg (by omega)] at this
  simpa using this
abbrev bw (is:List Bool):List (List V):=is.map fun x=>[gb x]
theorem oo {h:aE} {id:Nat} {is:List Bool} (hv:h.view id=.arr 1 (bw is)):dA h (.sl id 0 is.length 1) (cE is):=by
  refine .sl id 0 is.length 1 1 (bw is) _ hv (by simp) (by simp) (fun i hi=>by simp) (fun i j hi hj=>?_)
  rw[Nat.zero_add]
  have e:(bw is).getD i []=[gb is[i]]:=by simp[List.getD_eq_getElem?_getD,hi]
  rw[e] at hj ⊢
  have:j=0:=by simp at hj; omega
  subst this
  exact .val _
theorem DB {H:View} {id n:Nat} {is:List Bool} (hv:H id=.arr 1 (bw is)) (hn:n=is.length):cO H (.sl id 0 n 1) (cE is):=by
  have ht:∀ e∈bw is,∀ v∈e,Tree v:=by
    intro e he v hv
    obtain ⟨a,_,rfl⟩:=List.mem_map.1 he
    rw[List.mem_singleton] at hv
    subst hv
    exact .val _
  have:=cO.sl (off:=0) (len:=n) (esz:=1) hv (by simp[hn]) ht
  rwa [List.drop_zero,List.take_of_length_le (by simp[hn])] at this
theorem ET {is:List Bool} {i:Nat} (h:i < is.length):(bw is).getD i []=[gb is[i]]:=by simp[List.getD_eq_getElem?_getD,h]
theorem jg (is:List Bool) (i:Nat) (b:Bool):(bw is).set i [gb b]=bw (is.set i b):=by simp[List.map_set]
def iter {α:Type} (f:α→α):Nat→α→α
  | 0,x=>x
  | n+1,x=>iter f n (f x)
def cT (t:Bool) (is:List Bool) (r:aZ):List Bool:=if da r.right is t=true then is.set r.left.toNat true else is
def jo (g:au) (t:Bool) (is:List Bool):List Bool:=g.rules.foldl (cT t) is
def cX (g:au):List Bool:=List.replicate g.aD.length false
def aH (g:au) (t:Bool):List Bool:=if aT g=true then iter (jo g t) g.aD.length (cX g) else []
theorem Dq (t:Bool) (is:List Bool) (r:aZ):(cT t is r).length=is.length:=by unfold cT; split <;> simp
end Gv
set_option linter.unusedSimpArgs false
set_option maxRecDepth 100000
namespace Gv
open Go Go.Proofs
def mark (is:List Bool) (s:Int):List Bool:=if s < 0 then is.set (-1 - s).toNat true else is
def fQ (p is:List Bool) (r:aZ):List Bool:=if (is.getD r.left.toNat false && da r.right p true)=true then r.right.foldl mark is else is
def qc (g:au) (p is:List Bool):List Bool:=g.rules.foldl (fQ p) is
def bR (g:au):List Bool:=if aT g=true then iter (qc g (aH g true)) g.aD.length ((cX g).set g.start.toNat true) else []
theorem Gw (is:List Bool) (s:Int):(mark is s).length=is.length:=by unfold mark; split <;> simp
theorem yi:∀ (l:List Int) (is:List Bool),(l.foldl mark is).length=is.length
  | [],_=>rfl
  | s :: l,is=>by rw[List.foldl_cons,yi l,Gw]
theorem FM (p is:List Bool) (r:aZ):(fQ p is r).length=is.length:=by unfold fQ; split <;> simp[yi]
theorem vx {f:List Bool→List Bool} (hf:∀ is,(f is).length=is.length):∀ (n:Nat) (is:List Bool),(iter f n is).length=is.length
  | 0,_=>rfl
  | n+1,is=>by rw[iter,vx hf n,hf]
theorem uI {α:Type} {f:List Bool→α→List Bool} (hf:∀ is x,(f is x).length=is.length):∀ (l:List α) (is:List Bool),(l.foldl f is).length=is.length
  | [],_=>rfl
  | x :: l,is=>by rw[List.foldl_cons,uI hf l,hf]
theorem pA {g:au} (h:aT g=true) (t:Bool):(aH g t).length=g.aD.length:=by
  have hl:∀ is,(jo g t is).length=is.length:=fun is=>uI (Dq t) _ _
  rw[aH,if_pos h,vx hl]
  simp[cX]
end Gv
set_option linter.unusedSimpArgs false
set_option maxRecDepth 100000
namespace Gv
open Go Go.Proofs
def uA:DF:=⟨.seq (av [aP 2 false]) <|
  .seq (.region [] [⟨none,[aa 3 0,aF 4 109 [3],aa 5 4]⟩,⟨(some (5,false)),[aa 6 0,((some 7),.op (.arith .eql (.tmp 6) (.val (.val (.int .u8 46)))))]⟩,⟨none,[bf 8 5 7,aa 9 8]⟩,⟨(some (9,false)),[aa 10 0,((some 11),.op (.arith .geq (.tmp 10) (.val (.val (.int .u8 48))))),aa 12 11]⟩,⟨(some (12,true)),[aa 13 0,((some 14),.op (.arith .leq (.tmp 13) (.val (.val (.int .u8 57)))))]⟩,⟨(some (9,false)),[bk 15 12 14]⟩,⟨none,[bf 16 9 15,aa 2 16]⟩]) <|
  .ret,
  [.tmp 2],17⟩
theorem xu:bm Tryz.prog 110 []=some uA:=by kernel_rfl
def sK:DF:=⟨.seq (av [aP 2 false]) <|
  .seq (.region [] [⟨none,[aa 3 0,((some 4),.op (.arith .eql (.tmp 3) (.val (.val (.int .u8 95))))),aa 5 4]⟩,⟨(some (5,false)),[aa 6 0,((some 7),.op (.arith .or (.tmp 6) (.val (.val (.int .u8 32))))),((some 8),.op (.arith .geq (.tmp 7) (.val (.val (.int .u8 97))))),aa 9 8]⟩,⟨(some (9,true)),[aa 10 0,((some 11),.op (.arith .or (.tmp 10) (.val (.val (.int .u8 32))))),((some 12),.op (.arith .leq (.tmp 11) (.val (.val (.int .u8 122)))))]⟩,⟨(some (5,false)),[bk 13 9 12]⟩,⟨none,[bf 14 5 13,aa 2 14]⟩]) <|
  .ret,
  [.tmp 2],15⟩
theorem wU:bm Tryz.prog 109 []=some sK:=by kernel_rfl
def uB:DF:=⟨.seq (av [aP 2 false]) <|
  .seq (.region [] [⟨none,[aa 3 0,((some 4),.op (.arith .geq (.tmp 3) (.val (.val (.int .u8 32))))),aa 5 4]⟩,⟨(some (5,true)),[aa 6 0,((some 7),.op (.arith .leq (.tmp 6) (.val (.val (.int .u8 126)))))]⟩,⟨none,[bk 8 5 7,aa 9 8]⟩,⟨(some (9,true)),[aa 10 0,((some 11),.op (.arith .neq (.tmp 10) (.val (.val (.int .u8 39)))))]⟩,⟨none,[bk 12 9 11,aa 13 12]⟩,⟨(some (13,true)),[aa 14 0,((some 15),.op (.arith .neq (.tmp 14) (.val (.val (.int .u8 92)))))]⟩,⟨none,[bk 16 13 15,aa 2 16]⟩]) <|
  .ret,
  [.tmp 2],17⟩
theorem xt:bm Tryz.prog 179 []=some uB:=by kernel_rfl
def sg:DF:=⟨.seq (av [aP 2 false]) <|
  .seq (.region [] [⟨none,[aa 3 0,((some 4),.op (.arith .eql (.tmp 3) (.val (.val (.int .u8 110))))),aa 5 4]⟩,⟨(some (5,false)),[aa 6 0,((some 7),.op (.arith .eql (.tmp 6) (.val (.val (.int .u8 116)))))]⟩,⟨none,[bf 8 5 7,aa 9 8]⟩,⟨(some (9,false)),[aa 10 0,((some 11),.op (.arith .eql (.tmp 10) (.val (.val (.int .u8 92)))))]⟩,⟨none,[bf 12 9 11,aa 13 12]⟩,⟨(some (13,false)),[aa 14 0,((some 15),.op (.arith .eql (.tmp 14) (.val (.val (.int .u8 39)))))]⟩,⟨none,[bf 16 13 15,aa 2 16]⟩]) <|
  .ret,
  [.tmp 2],17⟩
theorem vo:bm Tryz.prog 180 []=some sg:=by kernel_rfl
def pR:List (FuncId × DF):=[(110,uA),(109,sK),(179,uB),(180,sg)]
theorem oy:rI Tryz.prog pR:=by
  intro p hp
  simp only[pR,List.mem_cons,List.not_mem_nil,or_false] at hp
  rcases hp with rfl | rfl | rfl | rfl
  · exact ⟨_,xu⟩
  · exact ⟨_,wU⟩
  · exact ⟨_,xt⟩
  · exact ⟨_,vo⟩
theorem Dm (P:Program):q5 P (fun _ _=>none):=fun _ _ _ h=>by simp at h
def Ja (o:Option V) (b:Bool):Bool:=match o with
  | some (.val (.bool c))=>c == b
  | _=>false
theorem Jg {o:Option V} {b:Bool} (h:Ja o b=true):o=some (gb b):=by
  unfold Ja at h
  split at h
  · rw[beq_iff_eq] at h; rw[h]
  · simp at h
noncomputable def sC (tab:List (FuncId × DF)) (f:FuncId) (p:Int→Bool):Bool:=(List.range 256).all fun c=>Ja (pO Tryz.prog tab (fun _ _=>none) f [gy (c:Int)]) (p (c:Int))
theorem qZ {tab:List (FuncId × DF)} (ht:rI Tryz.prog tab) {f:FuncId} {p:Int→Bool} (h:sC tab f p=true) (c:Int) (h0:0≤c) (h1:c≤255):aC Tryz.prog f [gy c] (gb (p c)):=by
  have:=List.all_eq_true.1 h c.toNat (by simp; omega)
  rw[show ((c.toNat:Nat):Int)=c by omega] at this
  exact (rf mixed ht (Dm _) (by intro v hv; simp at hv; subst hv; exact .val _) (Jg this)).pure
def sN (c:Int):Bool:=decide (32≤c) && decide (c≤126) && c != 39 && c != 92
def xh (c:Int):Bool:=c == 110 || c == 116 || c == 92 || c == 39
theorem DR:sC pR 109 pZ=true:=by kernel_rfl
theorem Eu:sC pR 110 jG=true:=by kernel_rfl
theorem EX:sC pR 179 sN=true:=by kernel_rfl
theorem Ig:sC pR 180 xh=true:=by kernel_rfl
theorem xY {s:ByteArray} {c:Int} (h:c∈df s):0≤c∧c≤255:=by
  unfold df at h
  obtain ⟨b,_,rfl⟩:=List.mem_map.1 h
  have:=b.toNat_lt
  omega
theorem FY (s:ByteArray):dL s=(df s).map fun x=>[gy x]:=by simp[dL,df]
end Gv
