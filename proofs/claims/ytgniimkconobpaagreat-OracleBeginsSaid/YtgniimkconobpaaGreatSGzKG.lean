/-
  Part 7 of the proof: what the machine does and what the functions answer.
  Conditions: those that each lemma names.
-/
import Derived.Test.YtgniimkconobpaaGreatSGzKF
set_option linter.unusedSimpArgs false
set_option linter.unusedVariables false
namespace Gv
open Go
inductive dW (h:aF):V→V→Prop
  | val (v:Value):dW h (.val v) (.val v)
  | emp (k:Nat):dW h (.emp k) (.bc [])
  | sl (id off len esz z:Nat) (es es':List (List V)):h.view id=.arr z es→off+len≤es.length→es'.length=len →
      (∀ i,i < len→(es'.getD i []).length=(es.getD (off+i) []).length) →
      (∀ i j,i < len→j < (es'.getD i []).length→dW h ((es.getD (off+i) []).getD j .any) ((es'.getD i []).getD j .any))→dW h (.sl id off len esz) (.bc es')
  | agg (cs cs':List V):cs'.length=cs.length→(∀ i,i < cs.length→dW h (cs.getD i .any) (cs'.getD i .any))→dW h (.agg cs) (.agg cs')
  | bz (cs cs':List V):cs'.length=cs.length→(∀ i,i < cs.length→dW h (cs.getD i .any) (cs'.getD i .any))→dW h (.bz cs) (.bz cs')
theorem IS {h:aF} {Z:Nat→Prop} {μ ν:Mu} {F:View} {hp:Array Obj} (hr:fi Z μ hp (cat h F)) {v t:V} (fr:dW h v t):∀ {x:Value},aA Z μ hp v x→aA (gQ μ) ν hp t x:=by
  have hcat:∀ id,h.view id≠.dead→cat h F id=h.view id:=fun id hd=>by simp only[cat]; rw[if_pos (gx hd)]
  induction fr with
  | val v=>intro x hx; cases hx with | val _ hv=>exact .val _ hv
  | emp k=>intro x hx; cases hx with | emp _ a=>exact .eZ a 0 (fun _=>rfl)
  | sl id off len esz z es es' hH hle hlen hl _ ih =>
    intro x hx
    cases hx with
    | nq _ _ _ a =>
      have:es'=[]:=List.length_eq_zero_iff.1 hlen
      subst this
      exact .eZ a 0 (fun _=>rfl)
    | sl _ _ _ _ b o0 cap c e f hm hlec hb hs =>
      have hor:=hr.obj id
      rw[hcat id (by rw[hH]; simp),hH] at hor
      obtain ⟨rfl,_,h3,h4⟩:=hor b o0 esz hm
      have hx:∀ i,∃ ci:Nat→Value,∀ j,j < esz→i < len→cellAt hp b (o0+off * esz+i * esz+j)=some (ci j)∧aA Z μ hp ((es.getD (off+i) []).getD j .any) (ci j):=by
        intro i
        by_cases hi:i < len
        · obtain ⟨ci,hci⟩:=kO (n:=esz) (p:=fun j x=>cellAt hp b (o0+off * esz+i * esz+j)=some x∧aA Z μ hp ((es.getD (off+i) []).getD j .any) x) (fun j hj=>by
            obtain ⟨x,hx,hv⟩:=h4 (off+i) j (by omega) hj
            rw[Nat.add_mul,← Nat.add_assoc] at hx
            exact ⟨x,hx,hv⟩)
          exact ⟨ci,fun j hj _=>hci j hj⟩
        · exact ⟨fun _=>undef,fun j _ h=>absurd h hi⟩
      obtain ⟨cf,hcf⟩:=Classical.axiomOfChoice hx
      have hel:∀ i,i < es'.length→(es'.getD i []).length=esz:=fun i hi=>by rw[hl i (by omega)]; exact h3 _ (by omega)
      have:=aA.bc (Z:=gQ μ) (μ:=ν) (hp:=hp) es' b (o0+off * esz) esz cap cf ⟨id,o0,esz,hm⟩ (by omega) hel
        (fun i j hi hj=>(hcf i j hj (by omega)).1) (fun i j hi hj=>ih i j (by omega) (by rw[hel i hi]; exact hj) (hcf i j hj (by omega)).2)
      rw[hlen] at this
      exact this
  | agg cs cs' hlen _ ih =>
    intro x hx
    cases hx with
    | agg _ aas h1 h2=>exact .agg _ _ (by omega) (fun i hi=>ih i (by omega) (h2 i (by omega)))
  | bz cs cs' hlen _ ih =>
    intro x hx
    cases hx with
    | bz _ aas h1 h2=>exact .bz _ _ (by omega) (fun i hi=>ih i (by omega) (h2 i (by omega)))
def cx (P:Program) (f:FuncId) (vs:List V) (t:V):Prop :=
  ∀ Z μ (w:World) (xs:List Value),dR Z μ w.heap vs xs→(∀ b,Z b→b < w.heap.size) →
    Calls P f xs.toArray w fun e w'=>∃ x Z',e=.returned x∧(∀ ν,aA Z' ν w'.heap t x)∧cZ w w'∧(∀ b,Z' b→w.heap.size≤b∧b < w'.heap.size)∧dt w.heap w'.heap (fun _=>False)
theorem cx.pure {P:Program} {f:FuncId} {vs:List V} {t:V} (h:cx P f vs t):aE P f vs t:=by
  intro Z μ w xs hrel hz
  refine (h Z μ w xs hrel hz).mono ?_
  rintro e w' ⟨x,Z',rfl,hv,hs,hz',ho⟩
  exact ⟨x,fun b=>Z b∨Z' b,rfl,fun ν=>(hv ν).mono ⟨fun _ h=>.inr h,fun _ _=>rfl,fun _ _ h=>h,dG.refl _⟩,hs,fun _ h=>.inl h,fun b hb=>hb.imp id (hz' b),ho⟩
theorem cx.q9 {P:Program} {f:FuncId} {vs:List V} {r t:V} {h':aF} (ht:∀ v∈vs,Tree v) (hc:bP P f vs [] r h') (hf:dW h' r t):cx P f vs t:=by
  intro Z μ w xs hrel hz
  have hrel0:dR Z (fun _=>none) w.heap vs xs:=⟨hrel.1,fun i hi=>vN (hrel.2 i hi) (by
    simp only[List.getD_eq_getElem?_getD,List.getElem?_eq_getElem hi,Option.getD_some]
    exact ht _ (List.getElem_mem _))⟩
  have hr0:fi Z (fun _=>none) w.heap (cat [] fun _=>.dead):=by
    rw[Cq]
    exact ⟨fun _=>trivial,fun i j b o s o' s' _ h=>by simp at h,fun id b o s h=>by simp at h,hz,fun id b o s h=>by simp at h⟩
  refine (hc.2 Z _ _ w xs hrel0 hr0 (fun _ _ _=>rfl)).mono ?_
  rintro e w' ⟨x,Z',μ',rfl,hv,hh,hex,_⟩
  refine ⟨x,gQ μ',rfl,fun ν=>IS hh hf hv,hex.same,?_,fun b hb _=>hex.frame b hb (by rintro ⟨_,_,_,h⟩; simp at h)⟩
  rintro b ⟨id,o,s,hb⟩
  rcases hex.wi _ _ _ _ hb with h1 | ⟨_,h1 | ⟨_,_,_,h1⟩⟩
  · simp at h1
  · exact ⟨h1,hh.lt _ _ _ _ hb⟩
  · simp at h1
theorem cx.of {P:Program} {f:FuncId} {vs:List V} {t:V} (ht:∀ v∈vs,Tree v) (h:aD P f vs (fun _=>.dead) fun r H'=>∀ h':aF,h'.view=H'→dW h' r t):cx P f vs t:=by
  obtain ⟨r,h',ha,_,hf⟩:=h.2 [] yH
  exact cx.q9 ht ha (hf h' rfl)
theorem bP.uO {P:Program} {f:FuncId} {ts vs:List V} {t:V} {h:aF} (hc:cx P f ts t) (hl:ts.length=vs.length)
    (hfr:∀ i,i < vs.length→Fr h (vs.getD i .any) (ts.getD i .any)):bP P f vs h t h:=by
  refine ⟨Nat.le_refl _,fun Z μ F w xs hrel hr hfree=>?_⟩
  have hts:dR (fun b=>Z b∨gQ μ b) μ w.heap ts xs:=⟨by rw[hl,hrel.1],fun i hi=>Ba hr (hfr i (by omega)) (hrel.2 i (by omega))⟩
  have hzl:∀ b,(Z b∨gQ μ b)→b < w.heap.size:=by
    rintro b (hb | ⟨id,o,s,hb⟩)
    · exact hr.bZ b hb
    · exact hr.lt _ _ _ _ hb
  refine (hc _ μ w xs hts hzl).mono ?_
  rintro e w' ⟨x,Z',rfl,hv,hs,hz',ho⟩
  have hm:eA Z (fun b=>Z b∨Z' b) μ μ w.heap w'.heap:=⟨fun _ h=>.inl h,fun b hb=>ho b (hr.bZ b hb) (fun x=>x),fun _ _ h=>h,ho.mc⟩
  refine ⟨x,fun b=>Z b∨Z' b,μ,rfl,(hv μ).mono ⟨fun _ h=>.inr h,fun _ _=>rfl,fun _ _ h=>h,dG.refl _⟩,⟨fun id=>(hr.obj id).mono hm rfl (fun b o s hx=>ho b (hr.lt _ _ _ _ hx) (fun x=>x)),hr.inj,fun id b o s hx=>Nat.lt_of_lt_of_le (hr.lt _ _ _ _ hx) hs.size,fun b hb=>?_,fun id b o s hx hzb=>?_⟩,
    ⟨hs,hm,fun b hb _=>ho b hb (fun x=>x),fun b hb=>hb.imp id (fun h=>(hz' b h).1),fun _ _ _ _ h=>.inl h⟩,fun _ _=>rfl⟩
  · rcases hb with hb | hb
    · exact Nat.lt_of_lt_of_le (hr.bZ b hb) hs.size
    · exact (hz' b hb).2
  · rcases hzb with hb | hb
    · exact hr.fb _ _ _ _ hx hb
    · have:=hr.lt _ _ _ _ hx; have:=(hz' b hb).1; omega
theorem az.uO {P:Program} {q:Bool} {f:FuncId} {H:View} {vs ts:List V} {K:V→View→Prop} {v:cn (H,K)} {t:V} (hc:cx P f ts t) (hok:ct P f=true) (hl:ts.length=vs.length)
    (hfr:∀ i,i < vs.length→bW H (vs.getD i .any) (ts.getD i .any)) (hk:K t H):az P q f vs H K v:=by
  unfold az
  cases q with
  | true=>exact ⟨hok,fun h e=>⟨t,h,bP.uO hc hl (fun i hi=>hfr i hi h e),fun _ _=>rfl,e ▸ hk⟩⟩
  | false =>
    refine ⟨hok,?_⟩
    rintro h rfl
    exact ⟨t,h,bP.uO hc hl (fun i hi=>hfr i hi h rfl),.refl _,hk⟩
noncomputable def rb (fz:V→Option V):List V→Option (List V)
  | []=>some []
  | v :: l=>match fz v,rb fz l with
    | some a,some b=>some (a :: b)
    | _,_=>none
noncomputable def BA (fz:V→Option V):List (List V)→Option (List (List V))
  | []=>some []
  | v :: l=>match rb fz v,BA fz l with
    | some a,some b=>some (a :: b)
    | _,_=>none
noncomputable def ud (H:View):Nat→V→Option V
  | 0,_=>none
  | k+1,v=>match v with
    | .val x=>some (.val x)
    | .emp _=>some (.bc [])
    | .sl id off len _=>match H id with
      | .arr _ es=>if off+len≤es.length then (BA (ud H k) ((es.drop off).take len)).map .bc else none
      | _=>none
    | .agg cs=>(rb (ud H k) cs).map .agg
    | .bz cs=>(rb (ud H k) cs).map .bz
    | _=>none
theorem od {fz:V→Option V} : ∀ (l l':List V),rb fz l=some l'→l'.length=l.length∧∀ i,i < l.length→fz (l.getD i .any)=some (l'.getD i .any)
  | [],l',h=>by simp only[rb,Option.some.injEq] at h; subst h; exact ⟨rfl,fun i hi=>by simp at hi⟩
  | v :: l,l',h=>by
    simp only[rb] at h
    split at h
    · rename_i a b h1 h2
      simp only[Option.some.injEq] at h; subst h
      obtain ⟨g1,g2⟩:=od l b h2
      refine ⟨by simp[g1],fun i hi=>?_⟩
      cases i with
      | zero=>exact h1
      | succ i=>exact g2 i (by simpa using hi)
    · simp at h
theorem Cd {fz:V→Option V} : ∀ (l l':List (List V)),BA fz l=some l'→l'.length=l.length∧∀ i,i < l.length→rb fz (l.getD i [])=some (l'.getD i [])
  | [],l',h=>by simp only[BA,Option.some.injEq] at h; subst h; exact ⟨rfl,fun i hi=>by simp at hi⟩
  | v :: l,l',h=>by
    simp only[BA] at h
    split at h
    · rename_i a b h1 h2
      simp only[Option.some.injEq] at h; subst h
      obtain ⟨g1,g2⟩:=Cd l b h2
      refine ⟨by simp[g1],fun i hi=>?_⟩
      cases i with
      | zero=>exact h1
      | succ i=>exact g2 i (by simpa using hi)
    · simp at h
theorem C5 (h:aF):∀ (k:Nat) (v t:V),ud h.view k v=some t→dW h v t
  | 0,v,t,hf=>by simp[ud] at hf
  | k+1,v,t,hf=>by
    have ih:=C5 h k
    simp only[ud] at hf
    split at hf
    · simp only[Option.some.injEq] at hf; subst hf; exact .val _
    · simp only[Option.some.injEq] at hf; subst hf; exact .emp _
    · rename_i id off len esz
      split at hf
      · rename_i z es hH
        split at hf
        · rename_i hle
          simp only[Option.map_eq_some_iff] at hf
          obtain ⟨es',he,rfl⟩:=hf
          obtain ⟨g1,g2⟩:=Cd _ _ he
          have hlen:es'.length=len:=by rw[g1]; simp; omega
          have hg:∀ i,i < len→((es.drop off).take len).getD i []=es.getD (off+i) []:=fun i hi=>by
            simp[List.getD_eq_getElem?_getD,List.getElem?_take,hi]
          have g3:∀ i,i < len→rb (ud h.view k) (es.getD (off+i) [])=some (es'.getD i []):=fun i hi=>by
            rw[← hg i hi]; exact g2 i (by rw[← g1,hlen]; exact hi)
          exact .sl id off len esz z es es' hH hle hlen (fun i hi=>(od _ _ (g3 i hi)).1) (fun i j hi hj=>ih _ _ ((od _ _ (g3 i hi)).2 j (by rw[← (od _ _ (g3 i hi)).1]; exact hj)))
        · simp at hf
      · simp at hf
    · simp only[Option.map_eq_some_iff] at hf
      obtain ⟨l,hl,rfl⟩:=hf
      obtain ⟨g1,g2⟩:=od _ _ hl
      exact .agg _ _ g1 (fun i hi=>ih _ _ (g2 i hi))
    · simp only[Option.map_eq_some_iff] at hf
      obtain ⟨l,hl,rfl⟩:=hf
      obtain ⟨g1,g2⟩:=od _ _ hl
      exact .bz _ _ g1 (fun i hi=>ih _ _ (g2 i hi))
    · simp at hf
noncomputable def HX:Option (V × ES)→Option V
  | some (v,e)=>ud e.V 50 v
  | none=>none
noncomputable def uB (P:Program) (tab:List (FuncId × DF)) (ext:vy) (f:FuncId) (vs:List V):Option V :=
  HX (zV P tab ext (A6 P tab ext 100000) f vs ⟨.nil,.nil,0,[]⟩)
theorem wk {P:Program} (hm:P.follows .mixedOrders=true) {tab:List (FuncId × DF)} {ext:vy} (ht:uL P tab) (hx:rP P ext) {f:FuncId} {vs:List V} {t:V} (hvs:∀ v∈vs,Tree v) (h:uB P tab ext f vs=some t) :
    cx P f vs t:=by
  unfold uB HX at h
  split at h
  · rename_i v e hr
    obtain ⟨h1,h',h2,h3,_⟩:=Bd ht hx (CD hm ht hx 100000) f vs _ v e [] hr ⟨by funext k; rfl,rfl⟩
    rw[h3.1] at h
    exact cx.q9 hvs h2 (C5 h' 50 v t h)
  · simp at h
end Gv
set_option linter.unusedSimpArgs false
set_option maxRecDepth 100000
namespace Gv
open Go Go.Proofs
structure av.oO (g:av):Prop where
  aC:g.aC.length≤24
  nN:1≤g.au.length
  au:g.au.length≤16
  Kk:1≤g.rules.length
  rules:g.rules.length≤40
  dS:0≤g.start
  start:g.start < g.au.length
  left:∀ r∈g.rules,0≤r.left∧r.left < g.au.length
  right:∀ r∈g.rules,r.right.length≤6
  sym:∀ r∈g.rules,∀ s∈r.right,lS g s=true
  prec:∀ r∈g.rules,-1≤r.prec∧r.prec < g.aC.length
theorem tE {g:av} : ∀ (l:List aT) (top:Int),eH g l top=true→top≤(g.au.length:Int) - 1∧∀ r∈l,0≤r.left∧r.left < g.au.length∧fg g r=true
  | [],top,h=>by simp[eH] at h; exact ⟨by omega,fun r hr=>by simp at hr⟩
  | r :: l,top,h=>by
    simp only[eH,Bool.and_eq_true,decide_eq_true_eq] at h
    obtain ⟨⟨⟨h1,h2⟩,h3⟩,h4⟩:=h
    obtain ⟨k1,k2⟩:=tE l _ h4
    have h5:r.left≤(if r.left > top then r.left else top):=by split <;> omega
    have h6:top≤(if r.left > top then r.left else top):=by split <;> omega
    refine ⟨by omega,fun r' hr=>?_⟩
    rcases List.mem_cons.1 hr with rfl | hr
    · exact ⟨h1,by omega,h3⟩
    · exact k2 r' hr
theorem aO {g:av} (h:aR g=true):g.oO:=by
  simp only[aR,gA,ik,Bool.and_eq_true,decide_eq_true_eq] at h
  obtain ⟨⟨⟨⟨⟨⟨⟨h1,_⟩,⟨h2,h3⟩,_⟩,h4⟩,h5⟩,h6⟩,h7⟩,h8⟩:=h
  have k:=(tE _ _ h8).2
  have hb:∀ r∈g.rules,r.right.length≤6∧-1≤r.prec∧r.prec < g.aC.length∧∀ s∈r.right,lS g s=true:=fun r hr=>by
    have:=(k r hr).2.2
    simp only[fg,Bool.and_eq_true,decide_eq_true_eq,List.all_eq_true,jE] at this
    exact ⟨this.1.1.1,this.1.1.2,this.1.2,fun s hs=>(this.2 s hs).1⟩
  exact ⟨h1,h2,h3,h4,h5,h6,h7,fun r hr=>⟨(k r hr).1,(k r hr).2.1⟩,fun r hr=>(hb r hr).1,fun r hr=>(hb r hr).2.2.2,fun r hr=>⟨(hb r hr).2.1,(hb r hr).2.2.1⟩⟩
theorem av.oO.neg {g:av} (h:g.oO) {r:aT} (hr:r∈g.rules) {s:Int} (hs:s∈r.right) (hn:s < 0) : -1 - s < g.au.length:=by
  have:=h.sym r hr s hs
  simp only[lS] at this
  rw[if_neg (by omega)] at this
  simpa using this
theorem A4 (l:List Int) (is:List Bool) (t:Bool) (hl:aP l) (hs:∀ s∈l,bF s∧(s < 0→-1 - s < is.length)):aE Tryz.prog 79 [encI l,bk is,gb t] (gb (cg l is t)) :=
  aE.val (by
    intro v hv; simp at hv
    rcases hv with rfl | rfl | rfl
    · exact cz _
    · exact eQ _
    · exact .val _) (fun H=>(IU l is t hl hs H).mono fun r H' h=>h.1)
abbrev bB (is:List Bool):List (List V):=is.map fun x=>[gb x]
theorem jT {h:aF} {id:Nat} {is:List Bool} (hv:h.view id=.arr 1 (bB is)):dW h (.sl id 0 is.length 1) (bk is):=by
  refine .sl id 0 is.length 1 1 (bB is) _ hv (by simp) (by simp) (fun i hi=>by simp) (fun i j hi hj=>?_)
  rw[Nat.zero_add]
  have e:(bB is).getD i []=[gb is[i]]:=by simp[List.getD_eq_getElem?_getD,hi]
  rw[e] at hj ⊢
  have:j=0:=by simp at hj; omega
  subst this
  exact .val _
theorem xg {H:View} {id n:Nat} {is:List Bool} (hv:H id=.arr 1 (bB is)) (hn:n=is.length):bW H (.sl id 0 n 1) (bk is):=by
  have ht:∀ e∈bB is,∀ v∈e,Tree v:=by
    intro e he v hv
    obtain ⟨a,_,rfl⟩:=List.mem_map.1 he
    rw[List.mem_singleton] at hv
    subst hv
    exact .val _
  have:=bW.sl (off:=0) (len:=n) (esz:=1) hv (by simp[hn]) ht
  rwa [List.drop_zero,List.take_of_length_le (by simp[hn])] at this
theorem im {is:List Bool} {i:Nat} (h:i < is.length):(bB is).getD i []=[gb is[i]]:=by simp[List.getD_eq_getElem?_getD,h]
theorem dM (is:List Bool) (i:Nat) (b:Bool):(bB is).set i [gb b]=bB (is.set i b):=by simp[List.map_set]
theorem uk (n:Nat) (b:Bool):List.replicate n [gb b]=bB (List.replicate n b):=by simp
def iter {α:Type} (f:α→α):Nat→α→α
  | 0,x=>x
  | n+1,x=>iter f n (f x)
def cF (t:Bool) (is:List Bool) (r:aT):List Bool:=if cg r.right is t=true then is.set r.left.toNat true else is
def fP (g:av) (t:Bool) (is:List Bool):List Bool:=g.rules.foldl (cF t) is
def bG (g:av):List Bool:=List.replicate g.au.length false
def aw (g:av) (t:Bool):List Bool:=if aR g=true then iter (fP g t) g.au.length (bG g) else []
theorem DL (t:Bool) (is:List Bool) (r:aT):(cF t is r).length=is.length:=by unfold cF; split <;> simp
def jO:SC :=
  .seq (.seq (al [aa 22 7,ar 23 2 2,an 24 23,aL 25 24,bb 26 .lss 22 25]) <|
  .cond (.tmp 26) (.skip) (.exit 2)) <|
  .seq (.block 3 (.seq (al [ar 29 2 2,an 30 29,aa 31 7,aN 32 3 30 31,ar 33 1 32,an 34 33,aa 35 5,aa 36 1,aG 37 79 [34,35,36]]) <|
  .cond (.tmp 37) (al [aa 38 5,ar 39 2 2,an 40 39,aa 41 7,aN 42 3 40 41,ar 43 0 42,an 44 43,aN 45 1 38 44,(none,.op (.store 1 (.tmp 45) (.val (.val (.bool true)))))]) (.skip))) <|
  al [aa 27 7,ay 28 .add 27 1,aa 7 28]
def jU:SC :=
  .seq (.seq (al [aa 15 6,ar 16 1 2,an 17 16,aL 18 17,bb 19 .lss 15 18]) <|
  .cond (.tmp 19) (.skip) (.exit 0)) <|
  .seq (.block 1 (.seq (al [aH 7 0]) <|
  .block 2 (.loop jO))) <|
  al [aa 20 6,ay 21 .add 20 1,aa 6 21]
def lk:SF:=⟨.seq (al [cE 2 0,((some 4),.op (.bu (.val (.emp 1))))]) <|
  .seq (.seq (al [aM 8 4 2,aG 9 41 [8],bL 10 9]) <|
  .cond (.tmp 10) (.seq (al [((some 4),.op (.bu (.val (.emp 1))))]) <|
  .ret) (.skip)) <|
  .seq (al [ar 11 1 2,an 12 11,aL 13 12,((some 14),.op (.make 1 1 [(.val (.bool false))] (.tmp 13) (.tmp 13))),aa 5 14]) <|
  .seq (.seq (al [aH 6 0]) <|
  .block 0 (.loop jU)) <|
  .seq (al [aa 46 5,aa 4 46]) <|
  .ret,
  [.tmp 4],47⟩
theorem pM:aX Tryz.prog 120 [2]=some lk:=by kernel_rfl
def ic:SF:=⟨.seq (al [cE 1 0,((some 2),.op (.bu (.val (.emp 1))))]) <|
  .seq (al [aM 3 4 1,cG 4 120 [(.tmp 3),(.val (.val (.bool true)))],aa 2 4]) <|
  .ret,
  [.tmp 2],5⟩
theorem mA:aX Tryz.prog 77 [1]=some ic:=by kernel_rfl
theorem G3 (g:av) (t:Bool):∀ v∈[V.agg (ao g),gb t],Tree v:=by
  intro v hv; simp at hv
  rcases hv with rfl | rfl
  · exact bV _ (bK g)
  · exact .val _
set_option maxHeartbeats 2000000 in
theorem Hs (g:av) (hg:g.Ok) (t:Bool) (H:View):aD Tryz.prog 120 [.agg (ao g),gb t] H fun r H'=>∀ h':aF,h'.view=H'→dW h' r (bk (aw g t)):=by
  refine aD.of mixed pM ?_
  simp (disch:=omega) only [↓wr,↓reduceIte,wq,ai,ah,ak,ae,af,ag,aj,isNil,Nat.reduceEqDiff,Nat.reduceAdd,Nat.reduceLT,Nat.reduceLeDiff,Int.reduceNeg,Int.reduceToNat,reduceCtorEq,lk,ao,encS]
  refine az.pure (kM g hg) (by kernel_rfl) ?_
  repeat' (first | (refine aq.dec (fun _=>?_) (fun _=>?_)) | (refine aq.eq (fun _=>?_) (fun _=>?_)) | (refine aq.ne (fun _=>?_) (fun _=>?_)) | (refine aq.split (fun _=>?_) (fun _=>?_)) | (simp (disch:=omega) only [↓wr,↓reduceIte,wq,ai,ah,ak,ae,af,ag,aj,isNil,Nat.reduceEqDiff,Nat.reduceAdd,Nat.reduceLT,Nat.reduceLeDiff,Int.reduceNeg,Int.reduceToNat,reduceCtorEq,ao,encS]))
  · rename_i hr
    have hf:=aO hr
    obtain ⟨hN1,hN2⟩:=And.intro hf.nN hf.au
    refine ⟨⟨by omega,by unfold aI; omega,by unfold aI; omega⟩,fun hz=>by omega,fun _ m hm=>?_⟩
    try simp (disch:=omega) only [↓wr,↓reduceIte,wq,ai,ah,ak,ae,af,ag,aj,isNil,Nat.reduceEqDiff,Nat.reduceAdd,Nat.reduceLT,Nat.reduceLeDiff,Int.reduceNeg,Int.reduceToNat,reduceCtorEq,ao,encS]
    refine bo.intro (fun k T H'=>∃ (i:Nat) (is:List Bool),i+k=g.au.length∧is.length=g.au.length∧iter (fP g t) k is=iter (fP g t) g.au.length (bG g)∧T 1=gb t∧T 2=.aK (ao g) 0∧T 5=.sl m 0 g.au.length 1∧H' m=.arr 1 (bB is)∧T 6=gi i) g.au.length ?_ ?_
    · refine ⟨0,bG g,by omega,by simp[bG],rfl,?_⟩
      simp (disch:=omega) only [↓wr,↓reduceIte,wq,ai,ah,ak,ae,af,ag,aj,isNil,Nat.reduceEqDiff,Nat.reduceAdd,Nat.reduceLT,Nat.reduceLeDiff,Int.reduceNeg,Int.reduceToNat,reduceCtorEq,ao,encS]
      exact ⟨by rw[uk]; rfl,rfl⟩
    · rintro k T H' ⟨i,is,hk,hlen,hi,f1,f2,f5,fm,f6⟩
      simp (disch:=omega) only [↓wr,↓reduceIte,wq,ai,ah,ak,ae,af,ag,aj,isNil,Nat.reduceEqDiff,Nat.reduceAdd,Nat.reduceLT,Nat.reduceLeDiff,Int.reduceNeg,Int.reduceToNat,reduceCtorEq,jU,f1,f2,f5,f6,ao,encS]
      refine aq.dec (fun hc=>?_) (fun hc=>?_)
      · simp (disch:=omega) only [↓wr,↓reduceIte,wq,ai,ah,ak,ae,af,ag,aj,isNil,Nat.reduceEqDiff,Nat.reduceAdd,Nat.reduceLT,Nat.reduceLeDiff,Int.reduceNeg,Int.reduceToNat,reduceCtorEq,f1,f2,f5,f6,ao,encS]
        refine bo.intro (fun k' T H'=>∃ (j:Nat) (is':List Bool),j+k'=g.rules.length∧is'.length=g.au.length∧(g.rules.drop j).foldl (cF t) is'=fP g t is∧T 1=gb t∧T 2=.aK (ao g) 0∧T 5=.sl m 0 g.au.length 1∧H' m=.arr 1 (bB is')∧T 6=gi i∧T 7=gi j) g.rules.length ?_ ?_
        · refine ⟨0,is,by omega,hlen,rfl,?_⟩
          simp (disch:=omega) only [↓wr,↓reduceIte,wq,ai,ah,ak,ae,af,ag,aj,isNil,Nat.reduceEqDiff,Nat.reduceAdd,Nat.reduceLT,Nat.reduceLeDiff,Int.reduceNeg,Int.reduceToNat,reduceCtorEq,f1,f2,f5,f6,fm,ao,encS]
          rfl
        · rintro k' T' H'' ⟨j,is',hk',hlen',hj,e1,e2,e5,em,e6,e7⟩
          simp (disch:=omega) only [↓wr,↓reduceIte,wq,ai,ah,ak,ae,af,ag,aj,isNil,Nat.reduceEqDiff,Nat.reduceAdd,Nat.reduceLT,Nat.reduceLeDiff,Int.reduceNeg,Int.reduceToNat,reduceCtorEq,jO,e1,e2,e5,e6,e7,ao]
          refine aq.dec (fun hd=>?_) (fun hd=>?_)
          · have hle:=hf.rules
            have hg2:g.rules[j]?=some (g.rules[j]'(by omega)):=List.getElem?_eq_getElem (by omega)
            rw[dK (show j < g.rules.length by omega)] at hj
            have hmem:g.rules[j]'(by omega)∈g.rules:=List.getElem_mem _
            generalize g.rules[j]'(by omega)=r at hg2 hj hmem
            simp only[List.foldl_cons] at hj
            obtain ⟨hl1,hl2⟩:=hf.left r hmem
            obtain ⟨_,_,hs1,hs2⟩:=hg.bj r hmem
            have hall:=A4 r.right is' t hs1 (fun s hs=>⟨hs2 s hs,fun hn=>by have:=hf.neg hmem hs hn; omega⟩)
            simp (disch:=omega) only [↓wr,↓reduceIte,wq,ai,ah,ak,ae,af,ag,aj,isNil,Nat.reduceEqDiff,Nat.reduceAdd,Nat.reduceLT,Nat.reduceLeDiff,Int.reduceNeg,Int.reduceToNat,reduceCtorEq,e1,e2,e5,e6,e7,ao,encS,aJ,List.getElem?_map,hg2,Option.map_some]
            refine az.borrow hall (by kernel_rfl) (.val _) rfl (fun q hq=>?_) ?_
            · match q,hq with
              | 0,_=>exact bW.tree (cz _)
              | 1,_=>exact xg em hlen'.symm
              | 2,_=>exact bW.tree (.val _)
            · simp (disch:=omega) only [↓wr,↓reduceIte,wq,ai,ah,ak,ae,af,ag,aj,isNil,Nat.reduceEqDiff,Nat.reduceAdd,Nat.reduceLT,Nat.reduceLeDiff,Int.reduceNeg,Int.reduceToNat,reduceCtorEq,e1,e2,e5,e6,e7,ao,encS,aJ,List.getElem?_map,hg2,Option.map_some]
              refine aq.split (fun ha=>?_) (fun ha=>?_)
              · have hst:cF t is' r=is'.set r.left.toNat true:=by rw[cF,if_pos ha]
                simp (disch:=omega) only [↓wr,↓reduceIte,wq,ai,ah,ak,ae,af,ag,aj,isNil,Nat.reduceEqDiff,Nat.reduceAdd,Nat.reduceLT,Nat.reduceLeDiff,Int.reduceNeg,Int.reduceToNat,reduceCtorEq,e1,e2,e5,e6,e7,em,ao,encS,aJ,List.getElem?_map,hg2,Option.map_some,im (show r.left.toNat < is'.length by omega)]
                rw[hst] at hj
                exact ⟨by omega,by omega,k' - 1,by omega,j+1,is'.set r.left.toNat true,by omega,by simp[hlen'],hj,by rw[dM],rfl⟩
              · have hst:cF t is' r=is':=by rw[cF,if_neg (by rw[ha]; simp)]
                rw[hst] at hj
                simp (disch:=omega) only [↓wr,↓reduceIte,wq,ai,ah,ak,ae,af,ag,aj,isNil,Nat.reduceEqDiff,Nat.reduceAdd,Nat.reduceLT,Nat.reduceLeDiff,Int.reduceNeg,Int.reduceToNat,reduceCtorEq,e1,e2,e5,e6,e7]
                exact ⟨k' - 1,by omega,j+1,is',by omega,hlen',hj,by first | rfl | exact ⟨rfl,rfl⟩ | exact ⟨em,rfl⟩ | exact ⟨rfl,em,rfl⟩⟩
          · rw[List.drop_eq_nil_of_le (by omega),List.foldl_nil] at hj
            simp (disch:=omega) only [↓wr,↓reduceIte,wq,ai,ah,ak,ae,af,ag,aj,isNil,Nat.reduceEqDiff,Nat.reduceAdd,Nat.reduceLT,Nat.reduceLeDiff,Int.reduceNeg,Int.reduceToNat,reduceCtorEq,e1,e2,e5,e6,e7]
            obtain ⟨q,rfl⟩:∃ q,k=q+1:=⟨k - 1,by omega⟩
            exact ⟨q,by omega,i+1,is',by omega,hlen',by rw[hj]; exact hi,rfl,em,rfl⟩
      · simp (disch:=omega) only [↓wr,↓reduceIte,wq,ai,ah,ak,ae,af,ag,aj,isNil,Nat.reduceEqDiff,Nat.reduceAdd,Nat.reduceLT,Nat.reduceLeDiff,Int.reduceNeg,Int.reduceToNat,reduceCtorEq,f1,f2,f5,f6,fm]
        have:k=0:=by omega
        subst this
        rintro h' rfl
        simp only[aw,if_pos hr,← hi,iter]
        rw[← hlen]
        exact jT fm
  · rename_i hr
    rintro h' rfl
    simp only[aw,hr]
    exact .emp 1
theorem Hv (g:av) (hg:g.Ok) (t:Bool):cx Tryz.prog 120 [.agg (ao g),gb t] (bk (aw g t)):=cx.of (G3 g t) (Hs g hg t _)
theorem xm (g:av) (hg:g.Ok) (H:View):aD Tryz.prog 77 [.agg (ao g)] H fun r H'=>r=bk (aw g true)∧H'=H:=by
  refine aD.of mixed mA ?_
  simp (disch:=omega) only [↓wr,↓reduceIte,wq,ai,ah,ak,ae,af,ag,aj,isNil,Nat.reduceEqDiff,Nat.reduceAdd,Nat.reduceLT,Nat.reduceLeDiff,Int.reduceNeg,Int.reduceToNat,reduceCtorEq,ic,ao,encS]
  refine az.pure (Hv g hg true).pure (by kernel_rfl) ?_
  simp (disch:=omega) only [↓wr,↓reduceIte,wq,ai,ah,ak,ae,af,ag,aj,isNil,Nat.reduceEqDiff,Nat.reduceAdd,Nat.reduceLT,Nat.reduceLeDiff,Int.reduceNeg,Int.reduceToNat,reduceCtorEq,ao,encS]
theorem pz (g:av) (hg:g.Ok):aE Tryz.prog 77 [.agg (ao g)] (bk (aw g true)) :=
  aE.of (fk g) ((xm g hg _).mono fun r H' h h' _=>by rw[h.1]; exact .tree _ (eQ _))
end Gv
set_option linter.unusedSimpArgs false
set_option maxRecDepth 100000
namespace Gv
open Go Go.Proofs
def mark (is:List Bool) (s:Int):List Bool:=if s < 0 then is.set (-1 - s).toNat true else is
def dP (p is:List Bool) (r:aT):List Bool:=if (is.getD r.left.toNat false && cg r.right p true)=true then r.right.foldl mark is else is
def ky (g:av) (p is:List Bool):List Bool:=g.rules.foldl (dP p) is
def aQ (g:av):List Bool:=if aR g=true then iter (ky g (aw g true)) g.au.length ((bG g).set g.start.toNat true) else []
theorem Hi (is:List Bool) (s:Int):(mark is s).length=is.length:=by unfold mark; split <;> simp
theorem zx:∀ (l:List Int) (is:List Bool),(l.foldl mark is).length=is.length
  | [],_=>rfl
  | s :: l,is=>by rw[List.foldl_cons,zx l,Hi]
theorem FV (p is:List Bool) (r:aT):(dP p is r).length=is.length:=by unfold dP; split <;> simp[zx]
theorem vx {f:List Bool→List Bool} (hf:∀ is,(f is).length=is.length):∀ (n:Nat) (is:List Bool),(iter f n is).length=is.length
  | 0,_=>rfl
  | n+1,is=>by rw[iter,vx hf n,hf]
theorem vD {α:Type} {f:List Bool→α→List Bool} (hf:∀ is x,(f is x).length=is.length):∀ (l:List α) (is:List Bool),(l.foldl f is).length=is.length
  | [],_=>rfl
  | x :: l,is=>by rw[List.foldl_cons,vD hf l,hf]
theorem eT {g:av} (h:aR g=true) (t:Bool):(aw g t).length=g.au.length:=by
  have hl:∀ is,(fP g t is).length=is.length:=fun is=>vD (DL t) _ _
  rw[aw,if_pos h,vx hl]
  simp[bG]
def gJ:SC :=
  .seq (.seq (.region false [⟨none,[aa 41 8,ar 42 1 7,an 43 42,aL 44 43,bb 45 .lss 41 44,aa 46 45]⟩,⟨(some (46,true)),[aa 47 4,ar 48 0 7,an 49 48,aN 50 1 47 49,an 51 50]⟩,⟨none,[br 52 46 51,aa 53 52]⟩,⟨(some (53,true)),[ar 54 1 7,an 55 54,aa 56 3,cG 57 79 [(.tmp 55),(.tmp 56),(.val (.val (.bool true)))]]⟩,⟨none,[br 58 53 57]⟩]) <|
  .cond (.tmp 58) (.skip) (.exit 4)) <|
  .seq (.block 5 (.seq (al [ar 61 1 7,an 62 61,aa 63 8,aN 64 1 62 63,an 65 64,ay 66 .lss 65 0]) <|
  .cond (.tmp 66) (al [aa 67 4,ar 68 1 7,an 69 68,aa 70 8,aN 71 1 69 70,an 72 71,((some 73),.op (.arith .sub (.val (.val (.int .i64 (-1)))) (.tmp 72))),aN 74 1 67 73,(none,.op (.store 1 (.tmp 74) (.val (.val (.bool true)))))]) (.skip))) <|
  al [aa 59 8,ay 60 .add 59 1,aa 8 60]
def gS:SC :=
  .seq (.seq (al [aa 29 6,ar 30 2 1,an 31 30,aL 32 31,bb 33 .lss 29 32]) <|
  .cond (.tmp 33) (.skip) (.exit 2)) <|
  .seq (.block 3 (.seq (al [ar 36 2 1,an 37 36,aa 38 6,aN 39 3 37 38,aM 40 3 39,((some 7),.op (.alloc [(.val (.int .i64 0)),(.emp 1),(.val (.int .i64 0))])),(none,.op (.store 3 (.tmp 7) (.tmp 40)))]) <|
  .seq (al [aH 8 0]) <|
  .block 4 (.loop gJ))) <|
  al [aa 34 6,ay 35 .add 34 1,aa 6 35]
def gH:SC :=
  .seq (.seq (al [aa 22 5,ar 23 1 1,an 24 23,aL 25 24,bb 26 .lss 22 25]) <|
  .cond (.tmp 26) (.skip) (.exit 0)) <|
  .seq (.block 1 (.seq (al [aH 6 0]) <|
  .block 2 (.loop gS))) <|
  al [aa 27 5,ay 28 .add 27 1,aa 5 28]
def iP:SF:=⟨.seq (al [cE 1 0,((some 2),.op (.bu (.val (.emp 1))))]) <|
  .seq (.seq (al [aM 9 4 1,aG 10 41 [9],bL 11 10]) <|
  .cond (.tmp 11) (.seq (al [((some 2),.op (.bu (.val (.emp 1))))]) <|
  .ret) (.skip)) <|
  .seq (al [aM 12 4 1,aG 13 77 [12],aa 3 13]) <|
  .seq (al [ar 14 1 1,an 15 14,aL 16 15,((some 17),.op (.make 1 1 [(.val (.bool false))] (.tmp 16) (.tmp 16))),aa 4 17]) <|
  .seq (al [aa 18 4,ar 19 3 1,an 20 19,aN 21 1 18 20,(none,.op (.store 1 (.tmp 21) (.val (.val (.bool true)))))]) <|
  .seq (.seq (al [aH 5 0]) <|
  .block 0 (.loop gH)) <|
  .seq (al [aa 75 4,aa 2 75]) <|
  .ret,
  [.tmp 2],76⟩
theorem na:aX Tryz.prog 78 [1]=some iP:=by kernel_rfl
theorem Hp {l:List Bool} {i j:Nat} (h:l.getD j false=true):(l.set i true).getD j false=true:=by
  simp only[List.getD_eq_getElem?_getD,List.getElem?_set] at h ⊢
  by_cases e:i=j
  · subst e
    by_cases hi:i < l.length
    · simp[hi]
    · rw[List.getElem?_eq_none (by omega)] at h; simp at h
  · rw[if_neg e]; exact h
theorem GK {H:View} {m n:Nat} {o:bE} (hm:H m=o) (hn:H n=.dead) (ho:o≠.dead):m≠n:=by rintro rfl; exact ho (hm.symm.trans hn)
set_option maxHeartbeats 4000000 in
theorem x7 (g:av) (hg:g.Ok) (H:View):aD Tryz.prog 78 [.agg (ao g)] H fun r H'=>∀ h':aF,h'.view=H'→dW h' r (bk (aQ g)):=by
  refine aD.of mixed na ?_
  simp (disch:=omega) only [↓wr,↓reduceIte,wq,ai,ah,ak,ae,af,ag,aj,isNil,Nat.reduceEqDiff,Nat.reduceAdd,Nat.reduceLT,Nat.reduceLeDiff,Int.reduceNeg,Int.reduceToNat,reduceCtorEq,iP,ao,encS]
  refine az.pure (kM g hg) (by kernel_rfl) ?_
  repeat' (first | (refine aq.dec (fun _=>?_) (fun _=>?_)) | (refine aq.eq (fun _=>?_) (fun _=>?_)) | (refine aq.ne (fun _=>?_) (fun _=>?_)) | (refine aq.split (fun _=>?_) (fun _=>?_)) | (simp (disch:=omega) only [↓wr,↓reduceIte,wq,ai,ah,ak,ae,af,ag,aj,isNil,Nat.reduceEqDiff,Nat.reduceAdd,Nat.reduceLT,Nat.reduceLeDiff,Int.reduceNeg,Int.reduceToNat,reduceCtorEq,ao,encS]))
  · rename_i hr
    have hf:=aO hr
    obtain ⟨hN1,hN2⟩:=And.intro hf.nN hf.au
    refine az.pure (pz g hg) (by kernel_rfl) ?_
    have hpl:=eT hr true
    have hreach:aQ g=iter (ky g (aw g true)) g.au.length ((bG g).set g.start.toNat true):=by rw[aQ,if_pos hr]
    generalize aw g true=p at hpl hreach
    have hst:=hf.dS
    have hst2:=hf.start
    have hrep:List.replicate g.au.length [V.val (Value.bool false)]=bB (bG g):=uk _ _
    have hnl:(bG g).length=g.au.length:=by simp[bG]
    simp (disch:=omega) only [↓wr,↓reduceIte,wq,ai,ah,ak,ae,af,ag,aj,isNil,Nat.reduceEqDiff,Nat.reduceAdd,Nat.reduceLT,Nat.reduceLeDiff,Int.reduceNeg,Int.reduceToNat,reduceCtorEq,ao,encS]
    refine ⟨⟨by omega,by unfold aI; omega,by unfold aI; omega⟩,fun hz=>by omega,fun _ m hm=>?_⟩
    rw[hrep]
    have hgs:(bB (bG g)).getD g.start.toNat []=[gb ((bG g)[g.start.toNat]'(by omega))]:=im (by omega)
    simp (disch:=omega) only [↓wr,↓reduceIte,wq,ai,ah,ak,ae,af,ag,aj,isNil,Nat.reduceEqDiff,Nat.reduceAdd,Nat.reduceLT,Nat.reduceLeDiff,Int.reduceNeg,Int.reduceToNat,reduceCtorEq,ao,encS,im (show g.start.toNat < (bG g).length by omega),dM,List.length_map]
    refine ⟨by omega,by omega,?_⟩
    refine bo.intro (fun k T H'=>∃ (i:Nat) (is:List Bool),i+k=g.au.length∧is.length=g.au.length∧iter (ky g p) k is=aQ g∧T 1=.aK (ao g) 0∧T 3=bk p∧T 4=.sl m 0 g.au.length 1∧H' m=.arr 1 (bB is)∧T 5=gi i) g.au.length ?_ ?_
    · refine ⟨0,(bG g).set g.start.toNat true,by omega,by simp[hnl],hreach.symm,?_⟩
      simp (disch:=omega) only [↓wr,↓reduceIte,wq,ai,ah,ak,ae,af,ag,aj,isNil,Nat.reduceEqDiff,Nat.reduceAdd,Nat.reduceLT,Nat.reduceLeDiff,Int.reduceNeg,Int.reduceToNat,reduceCtorEq,ao,encS]
      rw[hgs]
      exact ⟨by rw[← dM]; rfl,rfl⟩
    · rintro k T H' ⟨i,is,hk,hlen,hi,f1,f3,f4,fm,f5⟩
      simp (disch:=omega) only [↓wr,↓reduceIte,wq,ai,ah,ak,ae,af,ag,aj,isNil,Nat.reduceEqDiff,Nat.reduceAdd,Nat.reduceLT,Nat.reduceLeDiff,Int.reduceNeg,Int.reduceToNat,reduceCtorEq,gH,f1,f3,f4,f5,ao,encS]
      refine aq.dec (fun hc=>?_) (fun hc=>?_)
      · simp (disch:=omega) only [↓wr,↓reduceIte,wq,ai,ah,ak,ae,af,ag,aj,isNil,Nat.reduceEqDiff,Nat.reduceAdd,Nat.reduceLT,Nat.reduceLeDiff,Int.reduceNeg,Int.reduceToNat,reduceCtorEq,f1,f3,f4,f5,ao,encS]
        refine bo.intro (fun k' T H'=>∃ (j:Nat) (is':List Bool),j+k'=g.rules.length∧is'.length=g.au.length∧(g.rules.drop j).foldl (dP p) is'=ky g p is∧T 1=.aK (ao g) 0∧T 3=bk p∧T 4=.sl m 0 g.au.length 1∧H' m=.arr 1 (bB is')∧T 5=gi i∧T 6=gi j) g.rules.length ?_ ?_
        · refine ⟨0,is,by omega,hlen,rfl,?_⟩
          simp (disch:=omega) only [↓wr,↓reduceIte,wq,ai,ah,ak,ae,af,ag,aj,isNil,Nat.reduceEqDiff,Nat.reduceAdd,Nat.reduceLT,Nat.reduceLeDiff,Int.reduceNeg,Int.reduceToNat,reduceCtorEq,f1,f3,f4,f5,fm,ao,encS]
          first | done | exact ⟨rfl,rfl⟩ | rfl
        · rintro k' T' H'' ⟨j,is',hk',hlen',hj,e1,e3,e4,em,e5,e6⟩
          simp (disch:=omega) only [↓wr,↓reduceIte,wq,ai,ah,ak,ae,af,ag,aj,isNil,Nat.reduceEqDiff,Nat.reduceAdd,Nat.reduceLT,Nat.reduceLeDiff,Int.reduceNeg,Int.reduceToNat,reduceCtorEq,gS,e1,e3,e4,e5,e6,ao]
          refine aq.dec (fun hd=>?_) (fun hd=>?_)
          · have hle:=hf.rules
            have hg2:g.rules[j]?=some (g.rules[j]'(by omega)):=List.getElem?_eq_getElem (by omega)
            rw[dK (show j < g.rules.length by omega)] at hj
            have hmem:g.rules[j]'(by omega)∈g.rules:=List.getElem_mem _
            generalize g.rules[j]'(by omega)=r at hg2 hj hmem
            simp only[List.foldl_cons] at hj
            obtain ⟨hl1,hl2⟩:=hf.left r hmem
            obtain ⟨_,_,hs1,hs2⟩:=hg.bj r hmem
            have hr6:=hf.right r hmem
            have hall:=A4 r.right p true hs1 (fun s hs=>⟨hs2 s hs,fun hn=>by have:=hf.neg hmem hs hn; omega⟩)
            simp (disch:=omega) only [↓wr,↓reduceIte,wq,ai,ah,ak,ae,af,ag,aj,isNil,Nat.reduceEqDiff,Nat.reduceAdd,Nat.reduceLT,Nat.reduceLeDiff,Int.reduceNeg,Int.reduceToNat,reduceCtorEq,e1,e3,e4,e5,e6,ao,encS,aJ,encI,List.getElem?_map,hg2,Option.map_some]
            intro b hb
            have hne:m≠b:=GK em hb (by simp)
            try simp (disch:=omega) only [↓wr,↓reduceIte,wq,ai,ah,ak,ae,af,ag,aj,isNil,Nat.reduceEqDiff,Nat.reduceAdd,Nat.reduceLT,Nat.reduceLeDiff,Int.reduceNeg,Int.reduceToNat,reduceCtorEq,e1,e3,e4,e5,e6,ao,encS,aJ,encI]
            refine bo.intro (fun q T H'=>∃ (a:Nat) (is3:List Bool),a+q=r.right.length∧is3.length=g.au.length∧(r.right.drop a).foldl mark is3=r.right.foldl mark is'∧((a=0∧is3=is')∨((is'.getD r.left.toNat false && cg r.right p true)=true∧is3.getD r.left.toNat false=true)) ∧
              T 1=.aK (ao g) 0∧T 3=bk p∧T 4=.sl m 0 g.au.length 1∧H' m=.arr 1 (bB is3)∧T 5=gi i∧T 6=gi j∧T 7=.ptr b 0 0∧H' b=.arr 3 [aJ r]∧T 8=gi a) r.right.length ?_ ?_
            · refine ⟨0,is',by omega,hlen',rfl,.inl ⟨rfl,rfl⟩,?_⟩
              simp (disch:=omega) only [↓wr,↓reduceIte,wq,ai,ah,ak,ae,af,ag,aj,isNil,Nat.reduceEqDiff,Nat.reduceAdd,Nat.reduceLT,Nat.reduceLeDiff,Int.reduceNeg,Int.reduceToNat,reduceCtorEq,e1,e3,e4,e5,e6,em,hne,ao,encS,aJ]
              exact ⟨rfl,rfl⟩
            · rintro q T3 H3 ⟨a,is3,hq,hlen3,ha,hcase,d1,d3,d4,dm,d5,d6,d7,db,d8⟩
              simp (disch:=omega) only [↓wr,↓reduceIte,wq,ai,ah,ak,ae,af,ag,aj,isNil,Nat.reduceEqDiff,Nat.reduceAdd,Nat.reduceLT,Nat.reduceLeDiff,Int.reduceNeg,Int.reduceToNat,reduceCtorEq,gJ,d1,d3,d4,d5,d6,d7,d8,db,aJ,encI]
              have hgl:is3[r.left.toNat]?=some (is3[r.left.toNat]'(by omega)):=List.getElem?_eq_getElem (by omega)
              have hgl2:is3.getD r.left.toNat false=is3[r.left.toNat]'(by omega):=by simp[List.getD_eq_getElem?_getD,hgl]
              have hbg:=im (show r.left.toNat < is3.length by omega)
              have hoff:(is'.getD r.left.toNat false && cg r.right p true)=false→dP p is' r=is3:=fun hW=>by
                rcases hcase with ⟨_,rfl⟩ | ⟨h1,_⟩
                · rw[dP,hW]; rfl
                · rw[hW] at h1; simp at h1
              generalize is3[r.left.toNat]'(by omega)=tl at hgl hgl2 hbg
              refine aq.dec (fun ht=>?_) (fun ht=>?_)
              · have hg3:r.right[a]?=some (r.right[a]'(by omega)):=List.getElem?_eq_getElem (by omega)
                rw[dK (show a < r.right.length by omega)] at ha
                have hms:r.right[a]'(by omega)∈r.right:=List.getElem_mem _
                generalize r.right[a]'(by omega)=s at hg3 ha hms
                simp only[List.foldl_cons] at ha
                have hin:=hs2 s hms
                simp (disch:=omega) only [↓wr,↓reduceIte,wq,ai,ah,ak,ae,af,ag,aj,isNil,Nat.reduceEqDiff,Nat.reduceAdd,Nat.reduceLT,Nat.reduceLeDiff,Int.reduceNeg,Int.reduceToNat,reduceCtorEq,d1,d3,d4,d5,d6,d7,d8,db,dm,aJ,encI,hbg,List.length_map]
                refine ⟨by omega,by omega,?_⟩
                refine aq.split (fun htl=>?_) (fun htl=>?_)
                · simp (disch:=omega) only [↓wr,↓reduceIte,wq,ai,ah,ak,ae,af,ag,aj,isNil,Nat.reduceEqDiff,Nat.reduceAdd,Nat.reduceLT,Nat.reduceLeDiff,Int.reduceNeg,Int.reduceToNat,reduceCtorEq,d1,d3,d4,d5,d6,d7,d8,db,dm,aJ,encI,hbg,List.length_map]
                  refine az.pure hall (by kernel_rfl) ?_
                  simp (disch:=omega) only [↓wr,↓reduceIte,wq,ai,ah,ak,ae,af,ag,aj,isNil,Nat.reduceEqDiff,Nat.reduceAdd,Nat.reduceLT,Nat.reduceLeDiff,Int.reduceNeg,Int.reduceToNat,reduceCtorEq,d1,d3,d4,d5,d6,d7,d8,db,dm,aJ,encI]
                  refine aq.split (fun hal=>?_) (fun hal=>?_)
                  · simp (disch:=omega) only [↓wr,↓reduceIte,wq,ai,ah,ak,ae,af,ag,aj,isNil,Nat.reduceEqDiff,Nat.reduceAdd,Nat.reduceLT,Nat.reduceLeDiff,Int.reduceNeg,Int.reduceToNat,reduceCtorEq,d1,d3,d4,d5,d6,d7,d8,db,dm,aJ,encI,List.getElem?_map,hg3,Option.map_some]
                    have hW:(is'.getD r.left.toNat false && cg r.right p true)=true∧is3.getD r.left.toNat false=true:=by
                      rcases hcase with ⟨_,rfl⟩ | h1
                      · exact ⟨by rw[hgl2,htl,hal]; rfl,by rw[hgl2,htl]⟩
                      · exact h1
                    refine aq.dec (fun hsn=>?_) (fun hsn=>?_)
                    · have hng:=hf.neg hmem hms hsn
                      have hin1:=hin.1
                      have hms2:mark is3 s=is3.set (-1 - s).toNat true:=by rw[mark,if_pos hsn]
                      simp (disch:=omega) only [↓wr,↓reduceIte,wq,ai,ah,ak,ae,af,ag,aj,isNil,Nat.reduceEqDiff,Nat.reduceAdd,Nat.reduceLT,Nat.reduceLeDiff,Int.reduceNeg,Int.reduceToNat,reduceCtorEq,d1,d3,d4,d5,d6,d7,d8,db,dm,aJ,encI,List.getElem?_map,hg3,Option.map_some,im (show (-1 - s).toNat < is3.length by omega),List.length_map,hne.symm]
                      rw[hms2] at ha
                      exact ⟨by omega,by omega,q - 1,by omega,a+1,is3.set (-1 - s).toNat true,by omega,by simp[hlen3],ha,.inr ⟨hW.1,Hp hW.2⟩,by rw[dM],by first | rfl | exact ⟨rfl,rfl⟩⟩
                    · have hms2:mark is3 s=is3:=by rw[mark,if_neg hsn]
                      rw[hms2] at ha
                      simp (disch:=omega) only [↓wr,↓reduceIte,wq,ai,ah,ak,ae,af,ag,aj,isNil,Nat.reduceEqDiff,Nat.reduceAdd,Nat.reduceLT,Nat.reduceLeDiff,Int.reduceNeg,Int.reduceToNat,reduceCtorEq,d1,d3,d4,d5,d6,d7,d8,db,dm]
                      exact ⟨q - 1,by omega,a+1,is3,by omega,hlen3,ha,.inr hW,by first | rfl | exact ⟨rfl,rfl⟩ | exact ⟨rfl,rfl,rfl⟩⟩
                  · simp (disch:=omega) only [↓wr,↓reduceIte,wq,ai,ah,ak,ae,af,ag,aj,isNil,Nat.reduceEqDiff,Nat.reduceAdd,Nat.reduceLT,Nat.reduceLeDiff,Int.reduceNeg,Int.reduceToNat,reduceCtorEq,d1,d3,d4,d5,d6,d7,d8,db,dm,aJ,encI]
                    have hst:=hoff (by rw[hal,Bool.and_false])
                    exact ⟨k' - 1,by omega,j+1,is3,by omega,hlen3,by rw[← hst]; exact hj,rfl,rfl,rfl⟩
                · simp (disch:=omega) only [↓wr,↓reduceIte,wq,ai,ah,ak,ae,af,ag,aj,isNil,Nat.reduceEqDiff,Nat.reduceAdd,Nat.reduceLT,Nat.reduceLeDiff,Int.reduceNeg,Int.reduceToNat,reduceCtorEq,d1,d3,d4,d5,d6,d7,d8,db,dm,aJ,encI,hbg,List.length_map]
                  have hst:dP p is' r=is3:=by
                    rcases hcase with ⟨_,rfl⟩ | ⟨_,h1⟩
                    · rw[dP,hgl2,htl]; rfl
                    · rw[hgl2,htl] at h1; simp at h1
                  exact ⟨k' - 1,by omega,j+1,is3,by omega,hlen3,by rw[← hst]; exact hj,rfl,rfl,rfl⟩
              · simp (disch:=omega) only [↓wr,↓reduceIte,wq,ai,ah,ak,ae,af,ag,aj,isNil,Nat.reduceEqDiff,Nat.reduceAdd,Nat.reduceLT,Nat.reduceLeDiff,Int.reduceNeg,Int.reduceToNat,reduceCtorEq,d1,d3,d4,d5,d6,d7,d8,db,dm,aJ,encI]
                rw[List.drop_eq_nil_of_le (by omega),List.foldl_nil] at ha
                have hst:dP p is' r=is3:=by
                  rcases hcase with ⟨h0,rfl⟩ | ⟨h1,_⟩
                  · unfold dP
                    split
                    · exact ha.symm
                    · rfl
                  · rw[dP,if_pos h1]; exact ha.symm
                exact ⟨k' - 1,by omega,j+1,is3,by omega,hlen3,by rw[← hst]; exact hj,rfl,rfl,rfl⟩
          · rw[List.drop_eq_nil_of_le (by omega),List.foldl_nil] at hj
            simp (disch:=omega) only [↓wr,↓reduceIte,wq,ai,ah,ak,ae,af,ag,aj,isNil,Nat.reduceEqDiff,Nat.reduceAdd,Nat.reduceLT,Nat.reduceLeDiff,Int.reduceNeg,Int.reduceToNat,reduceCtorEq,e1,e3,e4,e5,e6]
            obtain ⟨q,rfl⟩:∃ q,k=q+1:=⟨k - 1,by omega⟩
            exact ⟨q,by omega,i+1,is',by omega,hlen',by rw[hj]; exact hi,rfl,em,rfl⟩
      · simp (disch:=omega) only [↓wr,↓reduceIte,wq,ai,ah,ak,ae,af,ag,aj,isNil,Nat.reduceEqDiff,Nat.reduceAdd,Nat.reduceLT,Nat.reduceLeDiff,Int.reduceNeg,Int.reduceToNat,reduceCtorEq,f1,f3,f4,f5,fm]
        have:k=0:=by omega
        subst this
        rintro h' rfl
        simp only[← hi,iter]
        rw[← hlen]
        exact jT fm
  · rename_i hr
    rintro h' rfl
    simp only[aQ,hr]
    exact .emp 1
theorem xP (g:av) (hg:g.Ok):cx Tryz.prog 78 [.agg (ao g)] (bk (aQ g)):=cx.of (fk g) (x7 g hg _)
end Gv
set_option linter.unusedSimpArgs false
set_option maxRecDepth 100000
namespace Gv
open Go Go.Proofs
def vd:DF:=⟨.seq (ax [aU 2 false]) <|
  .seq (.region [] [⟨none,[aa 3 0,aG 4 109 [3],aa 5 4]⟩,⟨(some (5,false)),[aa 6 0,((some 7),.op (.arith .eql (.tmp 6) (.val (.val (.int .u8 46)))))]⟩,⟨none,[bt 8 5 7,aa 9 8]⟩,⟨(some (9,false)),[aa 10 0,((some 11),.op (.arith .geq (.tmp 10) (.val (.val (.int .u8 48))))),aa 12 11]⟩,⟨(some (12,true)),[aa 13 0,((some 14),.op (.arith .leq (.tmp 13) (.val (.val (.int .u8 57)))))]⟩,⟨(some (9,false)),[br 15 12 14]⟩,⟨none,[bt 16 9 15,aa 2 16]⟩]) <|
  .ret,
  [.tmp 2],17⟩
theorem yg:bC Tryz.prog 110 []=some vd:=by kernel_rfl
def tW:DF:=⟨.seq (ax [aU 2 false]) <|
  .seq (.region [] [⟨none,[aa 3 0,((some 4),.op (.arith .eql (.tmp 3) (.val (.val (.int .u8 95))))),aa 5 4]⟩,⟨(some (5,false)),[aa 6 0,((some 7),.op (.arith .or (.tmp 6) (.val (.val (.int .u8 32))))),((some 8),.op (.arith .geq (.tmp 7) (.val (.val (.int .u8 97))))),aa 9 8]⟩,⟨(some (9,true)),[aa 10 0,((some 11),.op (.arith .or (.tmp 10) (.val (.val (.int .u8 32))))),((some 12),.op (.arith .leq (.tmp 11) (.val (.val (.int .u8 122)))))]⟩,⟨(some (5,false)),[br 13 9 12]⟩,⟨none,[bt 14 5 13,aa 2 14]⟩]) <|
  .ret,
  [.tmp 2],15⟩
theorem w6:bC Tryz.prog 109 []=some tW:=by kernel_rfl
def u4:DF:=⟨.seq (ax [aU 2 false]) <|
  .seq (.region [] [⟨none,[aa 3 0,((some 4),.op (.arith .geq (.tmp 3) (.val (.val (.int .u8 32))))),aa 5 4]⟩,⟨(some (5,true)),[aa 6 0,((some 7),.op (.arith .leq (.tmp 6) (.val (.val (.int .u8 126)))))]⟩,⟨none,[br 8 5 7,aa 9 8]⟩,⟨(some (9,true)),[aa 10 0,((some 11),.op (.arith .neq (.tmp 10) (.val (.val (.int .u8 39)))))]⟩,⟨none,[br 12 9 11,aa 13 12]⟩,⟨(some (13,true)),[aa 14 0,((some 15),.op (.arith .neq (.tmp 14) (.val (.val (.int .u8 92)))))]⟩,⟨none,[br 16 13 15,aa 2 16]⟩]) <|
  .ret,
  [.tmp 2],17⟩
theorem x5:bC Tryz.prog 179 []=some u4:=by kernel_rfl
def sN:DF:=⟨.seq (ax [aU 2 false]) <|
  .seq (.region [] [⟨none,[aa 3 0,((some 4),.op (.arith .eql (.tmp 3) (.val (.val (.int .u8 110))))),aa 5 4]⟩,⟨(some (5,false)),[aa 6 0,((some 7),.op (.arith .eql (.tmp 6) (.val (.val (.int .u8 116)))))]⟩,⟨none,[bt 8 5 7,aa 9 8]⟩,⟨(some (9,false)),[aa 10 0,((some 11),.op (.arith .eql (.tmp 10) (.val (.val (.int .u8 92)))))]⟩,⟨none,[bt 12 9 11,aa 13 12]⟩,⟨(some (13,false)),[aa 14 0,((some 15),.op (.arith .eql (.tmp 14) (.val (.val (.int .u8 39)))))]⟩,⟨none,[bt 16 13 15,aa 2 16]⟩]) <|
  .ret,
  [.tmp 2],17⟩
theorem vV:bC Tryz.prog 180 []=some sN:=by kernel_rfl
def qG:List (FuncId × DF):=[(110,vd),(109,tW),(179,u4),(180,sN)]
theorem pg:uL Tryz.prog qG:=by
  intro p hp
  simp only[qG,List.mem_cons,List.not_mem_nil,or_false] at hp
  rcases hp with rfl | rfl | rfl | rfl
  · exact ⟨_,yg⟩
  · exact ⟨_,w6⟩
  · exact ⟨_,x5⟩
  · exact ⟨_,vV⟩
theorem HW (P:Program):rP P (fun _ _=>none):=fun _ _ _ h=>by simp at h
def I8 (o:Option V) (b:Bool):Bool:=match o with
  | some (.val (.bool c))=>c == b
  | _=>false
theorem I7 {o:Option V} {b:Bool} (h:I8 o b=true):o=some (gb b):=by
  unfold I8 at h
  split at h
  · rw[beq_iff_eq] at h; rw[h]
  · simp at h
noncomputable def uw (tab:List (FuncId × DF)) (f:FuncId) (p:Int→Bool):Bool:=(List.range 256).all fun c=>I8 (uB Tryz.prog tab (fun _ _=>none) f [gy (c:Int)]) (p (c:Int))
theorem rL {tab:List (FuncId × DF)} (ht:uL Tryz.prog tab) {f:FuncId} {p:Int→Bool} (h:uw tab f p=true) (c:Int) (h0:0≤c) (h1:c≤255):aE Tryz.prog f [gy c] (gb (p c)):=by
  have:=List.all_eq_true.1 h c.toNat (by simp; omega)
  rw[show ((c.toNat:Nat):Int)=c by omega] at this
  exact (wk mixed ht (HW _) (by intro v hv; simp at hv; subst hv; exact .val _) (I7 this)).pure
def uf (c:Int):Bool:=decide (32≤c) && decide (c≤126) && c != 39 && c != 92
def x8 (c:Int):Bool:=c == 110 || c == 116 || c == 92 || c == 39
theorem D9:uw qG 109 q6=true:=by kernel_rfl
theorem EW:uw qG 110 ke=true:=by kernel_rfl
theorem Fv:uw qG 179 uf=true:=by kernel_rfl
theorem IB:uw qG 180 x8=true:=by kernel_rfl
theorem yG {s:ByteArray} {c:Int} (h:c∈dF s):0≤c∧c≤255:=by
  unfold dF at h
  obtain ⟨b,_,rfl⟩:=List.mem_map.1 h
  have:=b.toNat_lt
  omega
theorem FA (s:ByteArray):ee s=(dF s).map fun x=>[gy x]:=by simp[ee,dF]
end Gv
