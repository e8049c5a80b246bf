/-
  Part 7 of the proof: what the machine does and what the functions answer.
  Conditions: those that each lemma names.
-/
import Derived.Test.YtgniimkconobpaaGreatSGzKF
set_option linter.unusedSimpArgs false
set_option linter.unusedVariables false
namespace Gv
open Go
inductive dV (h:aE):V→V→Prop
  | val (v:Value):dV h (.val v) (.val v)
  | emp (k:Nat):dV h (.emp k) (.aV [])
  | sl (id off len esz z:Nat) (es es':List (List V)):h.view id=.arr z es→off+len≤es.length→es'.length=len →
      (∀ i,i < len→(es'.getD i []).length=(es.getD (off+i) []).length) →
      (∀ i j,i < len→j < (es'.getD i []).length→dV h ((es.getD (off+i) []).getD j .any) ((es'.getD i []).getD j .any))→dV h (.sl id off len esz) (.aV es')
  | agg (cs cs':List V):cs'.length=cs.length→(∀ i,i < cs.length→dV h (cs.getD i .any) (cs'.getD i .any))→dV h (.agg cs) (.agg cs')
  | bt (cs cs':List V):cs'.length=cs.length→(∀ i,i < cs.length→dV h (cs.getD i .any) (cs'.getD i .any))→dV h (.bt cs) (.bt cs')
theorem H8 {h:aE} {Z:Nat→Prop} {μ ν:Mu} {F:View} {hp:Array Obj} (hr:fh Z μ hp (cat h F)) {v t:V} (fr:dV h v t):∀ {x:Value},ay Z μ hp v x→ay (gS μ) ν hp t x:=by
  have hcat:∀ id,h.view id≠.dead→cat h F id=h.view id:=fun id hd=>by simp only[cat]; rw[if_pos (gv hd)]
  induction fr with
  | val v=>intro x hx; cases hx with | val _ hv=>exact .val _ hv
  | emp k=>intro x hx; cases hx with | emp _ a=>exact .fb a 0 (fun _=>rfl)
  | sl id off len esz z es es' hH hle hlen hl _ ih =>
    intro x hx
    cases hx with
    | nk _ _ _ a =>
      have:es'=[]:=List.length_eq_zero_iff.1 hlen
      subst this
      exact .fb a 0 (fun _=>rfl)
    | sl _ _ _ _ b o0 cap c e f hm hlec hb hs =>
      have hor:=hr.obj id
      rw[hcat id (by rw[hH]; simp),hH] at hor
      obtain ⟨rfl,_,h3,h4⟩:=hor b o0 esz hm
      have hx:∀ i,∃ ci:Nat→Value,∀ j,j < esz→i < len→cellAt hp b (o0+off * esz+i * esz+j)=some (ci j)∧ay Z μ hp ((es.getD (off+i) []).getD j .any) (ci j):=by
        intro i
        by_cases hi:i < len
        · obtain ⟨ci,hci⟩:=kU (n:=esz) (p:=fun j x=>cellAt hp b (o0+off * esz+i * esz+j)=some x∧ay Z μ hp ((es.getD (off+i) []).getD j .any) x) (fun j hj=>by
            obtain ⟨x,hx,hv⟩:=h4 (off+i) j (by omega) hj
            rw[Nat.add_mul,← Nat.add_assoc] at hx
            exact ⟨x,hx,hv⟩)
          exact ⟨ci,fun j hj _=>hci j hj⟩
        · exact ⟨fun _=>undef,fun j _ h=>absurd h hi⟩
      obtain ⟨cf,hcf⟩:=Classical.axiomOfChoice hx
      have hel:∀ i,i < es'.length→(es'.getD i []).length=esz:=fun i hi=>by rw[hl i (by omega)]; exact h3 _ (by omega)
      have:=ay.aV (Z:=gS μ) (μ:=ν) (hp:=hp) es' b (o0+off * esz) esz cap cf ⟨id,o0,esz,hm⟩ (by omega) hel
        (fun i j hi hj=>(hcf i j hj (by omega)).1) (fun i j hi hj=>ih i j (by omega) (by rw[hel i hi]; exact hj) (hcf i j hj (by omega)).2)
      rw[hlen] at this
      exact this
  | agg cs cs' hlen _ ih =>
    intro x hx
    cases hx with
    | agg _ aas h1 h2=>exact .agg _ _ (by omega) (fun i hi=>ih i (by omega) (h2 i (by omega)))
  | bt cs cs' hlen _ ih =>
    intro x hx
    cases hx with
    | bt _ aas h1 h2=>exact .bt _ _ (by omega) (fun i hi=>ih i (by omega) (h2 i (by omega)))
def cq (P:Program) (f:FuncId) (vs:List V) (t:V):Prop :=
  ∀ Z μ (w:World) (xs:List Value),dN Z μ w.heap vs xs→(∀ b,Z b→b < w.heap.size) →
    Calls P f xs.toArray w fun e w'=>∃ x Z',e=.returned x∧(∀ ν,ay Z' ν w'.heap t x)∧cZ w w'∧(∀ b,Z' b→w.heap.size≤b∧b < w'.heap.size)∧dr w.heap w'.heap (fun _=>False)
theorem cq.pure {P:Program} {f:FuncId} {vs:List V} {t:V} (h:cq P f vs t):aC P f vs t:=by
  intro Z μ w xs hrel hz
  refine (h Z μ w xs hrel hz).mono ?_
  rintro e w' ⟨x,Z',rfl,hv,hs,hz',ho⟩
  exact ⟨x,fun b=>Z b∨Z' b,rfl,fun ν=>(hv ν).mono ⟨fun _ h=>.inr h,fun _ _=>rfl,fun _ _ h=>h,dE.refl _⟩,hs,fun _ h=>.inl h,fun b hb=>hb.imp id (hz' b),ho⟩
theorem cq.r9 {P:Program} {f:FuncId} {vs:List V} {r t:V} {h':aE} (ht:∀ v∈vs,Tree v) (hc:bL P f vs [] r h') (hf:dV h' r t):cq P f vs t:=by
  intro Z μ w xs hrel hz
  have hrel0:dN Z (fun _=>none) w.heap vs xs:=⟨hrel.1,fun i hi=>vw (hrel.2 i hi) (by
    simp only[List.getD_eq_getElem?_getD,List.getElem?_eq_getElem hi,Option.getD_some]
    exact ht _ (List.getElem_mem _))⟩
  have hr0:fh Z (fun _=>none) w.heap (cat [] fun _=>.dead):=by
    rw[C5]
    exact ⟨fun _=>trivial,fun i j b o s o' s' _ h=>by simp at h,fun id b o s h=>by simp at h,hz,fun id b o s h=>by simp at h⟩
  refine (hc.2 Z _ _ w xs hrel0 hr0 (fun _ _ _=>rfl)).mono ?_
  rintro e w' ⟨x,Z',μ',rfl,hv,hh,hex,_⟩
  refine ⟨x,gS μ',rfl,fun ν=>H8 hh hf hv,hex.same,?_,fun b hb _=>hex.frame b hb (by rintro ⟨_,_,_,h⟩; simp at h)⟩
  rintro b ⟨id,o,s,hb⟩
  rcases hex.we _ _ _ _ hb with h1 | ⟨_,h1 | ⟨_,_,_,h1⟩⟩
  · simp at h1
  · exact ⟨h1,hh.lt _ _ _ _ hb⟩
  · simp at h1
theorem cq.of {P:Program} {f:FuncId} {vs:List V} {t:V} (ht:∀ v∈vs,Tree v) (h:aB P f vs (fun _=>.dead) fun r H'=>∀ h':aE,h'.view=H'→dV h' r t):cq P f vs t:=by
  obtain ⟨r,h',ha,_,hf⟩:=h.2 [] zh
  exact cq.r9 ht ha (hf h' rfl)
theorem bL.uz {P:Program} {f:FuncId} {ts vs:List V} {t:V} {h:aE} (hc:cq P f ts t) (hl:ts.length=vs.length)
    (hfr:∀ i,i < vs.length→Fr h (vs.getD i .any) (ts.getD i .any)):bL P f vs h t h:=by
  refine ⟨Nat.le_refl _,fun Z μ F w xs hrel hr hfree=>?_⟩
  have hts:dN (fun b=>Z b∨gS μ b) μ w.heap ts xs:=⟨by rw[hl,hrel.1],fun i hi=>Bn hr (hfr i (by omega)) (hrel.2 i (by omega))⟩
  have hzl:∀ b,(Z b∨gS μ b)→b < w.heap.size:=by
    rintro b (hb | ⟨id,o,s,hb⟩)
    · exact hr.bW b hb
    · exact hr.lt _ _ _ _ hb
  refine (hc _ μ w xs hts hzl).mono ?_
  rintro e w' ⟨x,Z',rfl,hv,hs,hz',ho⟩
  have hm:ey Z (fun b=>Z b∨Z' b) μ μ w.heap w'.heap:=⟨fun _ h=>.inl h,fun b hb=>ho b (hr.bW b hb) (fun x=>x),fun _ _ h=>h,ho.mQ⟩
  refine ⟨x,fun b=>Z b∨Z' b,μ,rfl,(hv μ).mono ⟨fun _ h=>.inr h,fun _ _=>rfl,fun _ _ h=>h,dE.refl _⟩,⟨fun id=>(hr.obj id).mono hm rfl (fun b o s hx=>ho b (hr.lt _ _ _ _ hx) (fun x=>x)),hr.inj,fun id b o s hx=>Nat.lt_of_lt_of_le (hr.lt _ _ _ _ hx) hs.size,fun b hb=>?_,fun id b o s hx hzb=>?_⟩,
    ⟨hs,hm,fun b hb _=>ho b hb (fun x=>x),fun b hb=>hb.imp id (fun h=>(hz' b h).1),fun _ _ _ _ h=>.inl h⟩,fun _ _=>rfl⟩
  · rcases hb with hb | hb
    · exact Nat.lt_of_lt_of_le (hr.bW b hb) hs.size
    · exact (hz' b hb).2
  · rcases hzb with hb | hb
    · exact hr.eZ _ _ _ _ hx hb
    · have:=hr.lt _ _ _ _ hx; have:=(hz' b hb).1; omega
theorem ax.uz {P:Program} {q:Bool} {f:FuncId} {H:View} {vs ts:List V} {K:V→View→Prop} {v:cg (H,K)} {t:V} (hc:cq P f ts t) (hok:cp P f=true) (hl:ts.length=vs.length)
    (hfr:∀ i,i < vs.length→bS H (vs.getD i .any) (ts.getD i .any)) (hk:K t H):ax P q f vs H K v:=by
  unfold ax
  cases q with
  | true=>exact ⟨hok,fun h e=>⟨t,h,bL.uz hc hl (fun i hi=>hfr i hi h e),fun _ _=>rfl,e ▸ hk⟩⟩
  | false =>
    refine ⟨hok,?_⟩
    rintro h rfl
    exact ⟨t,h,bL.uz hc hl (fun i hi=>hfr i hi h rfl),.refl _,hk⟩
noncomputable def r5 (fz:V→Option V):List V→Option (List V)
  | []=>some []
  | v :: l=>match fz v,r5 fz l with
    | some a,some b=>some (a :: b)
    | _,_=>none
noncomputable def Ap (fz:V→Option V):List (List V)→Option (List (List V))
  | []=>some []
  | v :: l=>match r5 fz v,Ap fz l with
    | some a,some b=>some (a :: b)
    | _,_=>none
noncomputable def tQ (H:View):Nat→V→Option V
  | 0,_=>none
  | k+1,v=>match v with
    | .val x=>some (.val x)
    | .emp _=>some (.aV [])
    | .sl id off len _=>match H id with
      | .arr _ es=>if off+len≤es.length then (Ap (tQ H k) ((es.drop off).take len)).map .aV else none
      | _=>none
    | .agg cs=>(r5 (tQ H k) cs).map .agg
    | .bt cs=>(r5 (tQ H k) cs).map .bt
    | _=>none
theorem og {fz:V→Option V} : ∀ (l l':List V),r5 fz l=some l'→l'.length=l.length∧∀ i,i < l.length→fz (l.getD i .any)=some (l'.getD i .any)
  | [],l',h=>by simp only[r5,Option.some.injEq] at h; subst h; exact ⟨rfl,fun i hi=>by simp at hi⟩
  | v :: l,l',h=>by
    simp only[r5] at h
    split at h
    · rename_i a b h1 h2
      simp only[Option.some.injEq] at h; subst h
      obtain ⟨g1,g2⟩:=og l b h2
      refine ⟨by simp[g1],fun i hi=>?_⟩
      cases i with
      | zero=>exact h1
      | succ i=>exact g2 i (by simpa using hi)
    · simp at h
theorem Cp {fz:V→Option V} : ∀ (l l':List (List V)),Ap fz l=some l'→l'.length=l.length∧∀ i,i < l.length→r5 fz (l.getD i [])=some (l'.getD i [])
  | [],l',h=>by simp only[Ap,Option.some.injEq] at h; subst h; exact ⟨rfl,fun i hi=>by simp at hi⟩
  | v :: l,l',h=>by
    simp only[Ap] at h
    split at h
    · rename_i a b h1 h2
      simp only[Option.some.injEq] at h; subst h
      obtain ⟨g1,g2⟩:=Cp l b h2
      refine ⟨by simp[g1],fun i hi=>?_⟩
      cases i with
      | zero=>exact h1
      | succ i=>exact g2 i (by simpa using hi)
    · simp at h
theorem B8 (h:aE):∀ (k:Nat) (v t:V),tQ h.view k v=some t→dV h v t
  | 0,v,t,hf=>by simp[tQ] at hf
  | k+1,v,t,hf=>by
    have ih:=B8 h k
    simp only[tQ] at hf
    split at hf
    · simp only[Option.some.injEq] at hf; subst hf; exact .val _
    · simp only[Option.some.injEq] at hf; subst hf; exact .emp _
    · rename_i id off len esz
      split at hf
      · rename_i z es hH
        split at hf
        · rename_i hle
          simp only[Option.map_eq_some_iff] at hf
          obtain ⟨es',he,rfl⟩:=hf
          obtain ⟨g1,g2⟩:=Cp _ _ he
          have hlen:es'.length=len:=by rw[g1]; simp; omega
          have hg:∀ i,i < len→((es.drop off).take len).getD i []=es.getD (off+i) []:=fun i hi=>by
            simp[List.getD_eq_getElem?_getD,List.getElem?_take,hi]
          have g3:∀ i,i < len→r5 (tQ h.view k) (es.getD (off+i) [])=some (es'.getD i []):=fun i hi=>by
            rw[← hg i hi]; exact g2 i (by rw[← g1,hlen]; exact hi)
          exact .sl id off len esz z es es' hH hle hlen (fun i hi=>(og _ _ (g3 i hi)).1) (fun i j hi hj=>ih _ _ ((og _ _ (g3 i hi)).2 j (by rw[← (og _ _ (g3 i hi)).1]; exact hj)))
        · simp at hf
      · simp at hf
    · simp only[Option.map_eq_some_iff] at hf
      obtain ⟨l,hl,rfl⟩:=hf
      obtain ⟨g1,g2⟩:=og _ _ hl
      exact .agg _ _ g1 (fun i hi=>ih _ _ (g2 i hi))
    · simp only[Option.map_eq_some_iff] at hf
      obtain ⟨l,hl,rfl⟩:=hf
      obtain ⟨g1,g2⟩:=og _ _ hl
      exact .bt _ _ g1 (fun i hi=>ih _ _ (g2 i hi))
    · simp at hf
noncomputable def HT:Option (V × ES)→Option V
  | some (v,e)=>tQ e.V 50 v
  | none=>none
noncomputable def uL (P:Program) (tab:List (FuncId × DF)) (ext:vH) (f:FuncId) (vs:List V):Option V :=
  HT (zP P tab ext (AN P tab ext 100000) f vs ⟨.nil,.nil,0,[]⟩)
theorem wO {P:Program} (hm:P.follows .mixedOrders=true) {tab:List (FuncId × DF)} {ext:vH} (ht:uD P tab) (hx:rj P ext) {f:FuncId} {vs:List V} {t:V} (hvs:∀ v∈vs,Tree v) (h:uL P tab ext f vs=some t) :
    cq P f vs t:=by
  unfold uL HT at h
  split at h
  · rename_i v e hr
    obtain ⟨h1,h',h2,h3,_⟩:=Aj ht hx (Ck hm ht hx 100000) f vs _ v e [] hr ⟨by funext k; rfl,rfl⟩
    rw[h3.1] at h
    exact cq.r9 hvs h2 (B8 h' 50 v t h)
  · simp at h
end Gv
set_option linter.unusedSimpArgs false
set_option maxRecDepth 100000
namespace Gv
open Go Go.Proofs
structure au.oU (g:au):Prop where
  aA:g.aA.length≤24
  nS:1≤g.ar.length
  ar:g.ar.length≤16
  Kt:1≤g.rules.length
  rules:g.rules.length≤40
  dR:0≤g.start
  start:g.start < g.ar.length
  left:∀ r∈g.rules,0≤r.left∧r.left < g.ar.length
  right:∀ r∈g.rules,r.right.length≤6
  sym:∀ r∈g.rules,∀ s∈r.right,lH g s=true
  prec:∀ r∈g.rules,-1≤r.prec∧r.prec < g.aA.length
theorem tJ {g:au} : ∀ (l:List aO) (top:Int),eE g l top=true→top≤(g.ar.length:Int) - 1∧∀ r∈l,0≤r.left∧r.left < g.ar.length∧ff g r=true
  | [],top,h=>by simp[eE] at h; exact ⟨by omega,fun r hr=>by simp at hr⟩
  | r :: l,top,h=>by
    simp only[eE,Bool.and_eq_true,decide_eq_true_eq] at h
    obtain ⟨⟨⟨h1,h2⟩,h3⟩,h4⟩:=h
    obtain ⟨k1,k2⟩:=tJ l _ h4
    have h5:r.left≤(if r.left > top then r.left else top):=by split <;> omega
    have h6:top≤(if r.left > top then r.left else top):=by split <;> omega
    refine ⟨by omega,fun r' hr=>?_⟩
    rcases List.mem_cons.1 hr with rfl | hr
    · exact ⟨h1,by omega,h3⟩
    · exact k2 r' hr
theorem aJ {g:au} (h:aM g=true):g.oU:=by
  simp only[aM,gA,hX,Bool.and_eq_true,decide_eq_true_eq] at h
  obtain ⟨⟨⟨⟨⟨⟨⟨h1,_⟩,⟨h2,h3⟩,_⟩,h4⟩,h5⟩,h6⟩,h7⟩,h8⟩:=h
  have k:=(tJ _ _ h8).2
  have hb:∀ r∈g.rules,r.right.length≤6∧-1≤r.prec∧r.prec < g.aA.length∧∀ s∈r.right,lH g s=true:=fun r hr=>by
    have:=(k r hr).2.2
    simp only[ff,Bool.and_eq_true,decide_eq_true_eq,List.all_eq_true,jH] at this
    exact ⟨this.1.1.1,this.1.1.2,this.1.2,fun s hs=>(this.2 s hs).1⟩
  exact ⟨h1,h2,h3,h4,h5,h6,h7,fun r hr=>⟨(k r hr).1,(k r hr).2.1⟩,fun r hr=>(hb r hr).1,fun r hr=>(hb r hr).2.2.2,fun r hr=>⟨(hb r hr).2.1,(hb r hr).2.2.1⟩⟩
theorem au.oU.neg {g:au} (h:g.oU) {r:aO} (hr:r∈g.rules) {s:Int} (hs:s∈r.right) (hn:s < 0) : -1 - s < g.ar.length:=by
  have:=h.sym r hr s hs
  simp only[lH] at this
  rw[if_neg (by omega)] at this
  simpa using this
theorem BD (l:List Int) (is:List Bool) (t:Bool) (hl:aK l) (hs:∀ s∈l,bB s∧(s < 0→-1 - s < is.length)):aC Tryz.prog 79 [encI l,bf is,gb t] (gb (ca l is t)) :=
  aC.val (by
    intro v hv; simp at hv
    rcases hv with rfl | rfl | rfl
    · exact cy _
    · exact eT _
    · exact .val _) (fun H=>(I5 l is t hl hs H).mono fun r H' h=>h.1)
abbrev bw (is:List Bool):List (List V):=is.map fun x=>[gb x]
theorem j9 {h:aE} {id:Nat} {is:List Bool} (hv:h.view id=.arr 1 (bw is)):dV h (.sl id 0 is.length 1) (bf is):=by
  refine .sl id 0 is.length 1 1 (bw is) _ hv (by simp) (by simp) (fun i hi=>by simp) (fun i j hi hj=>?_)
  rw[Nat.zero_add]
  have e:(bw is).getD i []=[gb is[i]]:=by simp[List.getD_eq_getElem?_getD,hi]
  rw[e] at hj ⊢
  have:j=0:=by simp at hj; omega
  subst this
  exact .val _
theorem xf {H:View} {id n:Nat} {is:List Bool} (hv:H id=.arr 1 (bw is)) (hn:n=is.length):bS H (.sl id 0 n 1) (bf is):=by
  have ht:∀ e∈bw is,∀ v∈e,Tree v:=by
    intro e he v hv
    obtain ⟨a,_,rfl⟩:=List.mem_map.1 he
    rw[List.mem_singleton] at hv
    subst hv
    exact .val _
  have:=bS.sl (off:=0) (len:=n) (esz:=1) hv (by simp[hn]) ht
  rwa [List.drop_zero,List.take_of_length_le (by simp[hn])] at this
theorem gY {is:List Bool} {i:Nat} (h:i < is.length):(bw is).getD i []=[gb is[i]]:=by simp[List.getD_eq_getElem?_getD,h]
theorem dK (is:List Bool) (i:Nat) (b:Bool):(bw is).set i [gb b]=bw (is.set i b):=by simp[List.map_set]
theorem uo (n:Nat) (b:Bool):List.replicate n [gb b]=bw (List.replicate n b):=by simp
def iter {α:Type} (f:α→α):Nat→α→α
  | 0,x=>x
  | n+1,x=>iter f n (f x)
def cD (t:Bool) (is:List Bool) (r:aO):List Bool:=if ca r.right is t=true then is.set r.left.toNat true else is
def fN (g:au) (t:Bool) (is:List Bool):List Bool:=g.rules.foldl (cD t) is
def bD (g:au):List Bool:=List.replicate g.ar.length false
def aw (g:au) (t:Bool):List Bool:=if aM g=true then iter (fN g t) g.ar.length (bD g) else []
theorem D2 (t:Bool) (is:List Bool) (r:aO):(cD t is r).length=is.length:=by unfold cD; split <;> simp
def jV:SC :=
  .seq (.seq (an [aj 22 7,aD 23 2 2,av 24 23,aX 25 24,bu 26 .lss 22 25]) <|
  .cond (.tmp 26) (.skip) (.exit 2)) <|
  .seq (.block 3 (.seq (an [aD 29 2 2,av 30 29,aj 31 7,aW 32 3 30 31,aD 33 1 32,av 34 33,aj 35 5,aj 36 1,aY 37 79 [34,35,36]]) <|
  .cond (.tmp 37) (an [aj 38 5,aD 39 2 2,av 40 39,aj 41 7,aW 42 3 40 41,aD 43 0 42,av 44 43,aW 45 1 38 44,(none,.op (.store 1 (.tmp 45) (.val (.val (.bool true)))))]) (.skip))) <|
  an [aj 27 7,aH 28 .add 27 1,aj 7 28]
def jU:SC :=
  .seq (.seq (an [aj 15 6,aD 16 1 2,av 17 16,aX 18 17,bu 19 .lss 15 18]) <|
  .cond (.tmp 19) (.skip) (.exit 0)) <|
  .seq (.block 1 (.seq (an [bk 7 0]) <|
  .block 2 (.loop jV))) <|
  an [aj 20 6,aH 21 .add 20 1,aj 6 21]
def lA:SF:=⟨.seq (an [da 2 0,((some 4),.op (.ak (.val (.emp 1))))]) <|
  .seq (.seq (an [bo 8 4 2,aY 9 41 [8],bP 10 9]) <|
  .cond (.tmp 10) (.seq (an [((some 4),.op (.ak (.val (.emp 1))))]) <|
  .ret) (.skip)) <|
  .seq (an [aD 11 1 2,av 12 11,aX 13 12,((some 14),.op (.make 1 1 [(.val (.bool false))] (.tmp 13) (.tmp 13))),aj 5 14]) <|
  .seq (.seq (an [bk 6 0]) <|
  .block 0 (.loop jU)) <|
  .seq (an [aj 46 5,aj 4 46]) <|
  .ret,
  [.tmp 4],47⟩
theorem p8:aR Tryz.prog 120 [2]=some lA:=by kernel_rfl
def g9:SF:=⟨.seq (an [da 1 0,((some 2),.op (.ak (.val (.emp 1))))]) <|
  .seq (an [bo 3 4 1,oE 4 120 [(.tmp 3),(.val (.val (.bool true)))],aj 2 4]) <|
  .ret,
  [.tmp 2],5⟩
theorem mL:aR Tryz.prog 77 [1]=some g9:=by kernel_rfl
theorem GC (g:au) (t:Bool):∀ v∈[V.agg (ao g),gb t],Tree v:=by
  intro v hv; simp at hv
  rcases hv with rfl | rfl
  · exact bT _ (bH g)
  · exact .val _
set_option maxHeartbeats 2000000 in
theorem Hl (g:au) (hg:g.Ok) (t:Bool) (H:View):aB Tryz.prog 120 [.agg (ao g),gb t] H fun r H'=>∀ h':aE,h'.view=H'→dV h' r (bf (aw g t)):=by
  refine aB.of mixed p8 ?_
  simp (disch:=omega) only [↓wr,↓reduceIte,wq,ah,ag,al,aa,ae,af,ai,isNil,Nat.reduceEqDiff,Nat.reduceAdd,Nat.reduceLT,Nat.reduceLeDiff,Int.reduceNeg,Int.reduceToNat,reduceCtorEq,lA,ao,encS]
  refine ax.pure (kB g hg) (by kernel_rfl) ?_
  repeat' (first | (refine aq.dec (fun _=>?_) (fun _=>?_)) | (refine aq.eq (fun _=>?_) (fun _=>?_)) | (refine aq.ne (fun _=>?_) (fun _=>?_)) | (refine aq.split (fun _=>?_) (fun _=>?_)) | (simp (disch:=omega) only [↓wr,↓reduceIte,wq,ah,ag,al,aa,ae,af,ai,isNil,Nat.reduceEqDiff,Nat.reduceAdd,Nat.reduceLT,Nat.reduceLeDiff,Int.reduceNeg,Int.reduceToNat,reduceCtorEq,ao,encS]))
  · rename_i hr
    have hf:=aJ hr
    obtain ⟨hN1,hN2⟩:=And.intro hf.nS hf.ar
    refine ⟨⟨by omega,by unfold aF; omega,by unfold aF; omega⟩,fun hz=>by omega,fun _ m hm=>?_⟩
    try simp (disch:=omega) only [↓wr,↓reduceIte,wq,ah,ag,al,aa,ae,af,ai,isNil,Nat.reduceEqDiff,Nat.reduceAdd,Nat.reduceLT,Nat.reduceLeDiff,Int.reduceNeg,Int.reduceToNat,reduceCtorEq,ao,encS]
    refine bm.intro (fun k T H'=>∃ (i:Nat) (is:List Bool),i+k=g.ar.length∧is.length=g.ar.length∧iter (fN g t) k is=iter (fN g t) g.ar.length (bD g)∧T 1=gb t∧T 2=.aI (ao g) 0∧T 5=.sl m 0 g.ar.length 1∧H' m=.arr 1 (bw is)∧T 6=gi i) g.ar.length ?_ ?_
    · refine ⟨0,bD g,by omega,by simp[bD],rfl,?_⟩
      simp (disch:=omega) only [↓wr,↓reduceIte,wq,ah,ag,al,aa,ae,af,ai,isNil,Nat.reduceEqDiff,Nat.reduceAdd,Nat.reduceLT,Nat.reduceLeDiff,Int.reduceNeg,Int.reduceToNat,reduceCtorEq,ao,encS]
      exact ⟨by rw[uo]; rfl,rfl⟩
    · rintro k T H' ⟨i,is,hk,hlen,hi,f1,f2,f5,fm,f6⟩
      simp (disch:=omega) only [↓wr,↓reduceIte,wq,ah,ag,al,aa,ae,af,ai,isNil,Nat.reduceEqDiff,Nat.reduceAdd,Nat.reduceLT,Nat.reduceLeDiff,Int.reduceNeg,Int.reduceToNat,reduceCtorEq,jU,f1,f2,f5,f6,ao,encS]
      refine aq.dec (fun hc=>?_) (fun hc=>?_)
      · simp (disch:=omega) only [↓wr,↓reduceIte,wq,ah,ag,al,aa,ae,af,ai,isNil,Nat.reduceEqDiff,Nat.reduceAdd,Nat.reduceLT,Nat.reduceLeDiff,Int.reduceNeg,Int.reduceToNat,reduceCtorEq,f1,f2,f5,f6,ao,encS]
        refine bm.intro (fun k' T H'=>∃ (j:Nat) (is':List Bool),j+k'=g.rules.length∧is'.length=g.ar.length∧(g.rules.drop j).foldl (cD t) is'=fN g t is∧T 1=gb t∧T 2=.aI (ao g) 0∧T 5=.sl m 0 g.ar.length 1∧H' m=.arr 1 (bw is')∧T 6=gi i∧T 7=gi j) g.rules.length ?_ ?_
        · refine ⟨0,is,by omega,hlen,rfl,?_⟩
          simp (disch:=omega) only [↓wr,↓reduceIte,wq,ah,ag,al,aa,ae,af,ai,isNil,Nat.reduceEqDiff,Nat.reduceAdd,Nat.reduceLT,Nat.reduceLeDiff,Int.reduceNeg,Int.reduceToNat,reduceCtorEq,f1,f2,f5,f6,fm,ao,encS]
          rfl
        · rintro k' T' H'' ⟨j,is',hk',hlen',hj,e1,e2,e5,em,e6,e7⟩
          simp (disch:=omega) only [↓wr,↓reduceIte,wq,ah,ag,al,aa,ae,af,ai,isNil,Nat.reduceEqDiff,Nat.reduceAdd,Nat.reduceLT,Nat.reduceLeDiff,Int.reduceNeg,Int.reduceToNat,reduceCtorEq,jV,e1,e2,e5,e6,e7,ao]
          refine aq.dec (fun hd=>?_) (fun hd=>?_)
          · have hle:=hf.rules
            have hg2:g.rules[j]?=some (g.rules[j]'(by omega)):=List.getElem?_eq_getElem (by omega)
            rw[dI (show j < g.rules.length by omega)] at hj
            have hmem:g.rules[j]'(by omega)∈g.rules:=List.getElem_mem _
            generalize g.rules[j]'(by omega)=r at hg2 hj hmem
            simp only[List.foldl_cons] at hj
            obtain ⟨hl1,hl2⟩:=hf.left r hmem
            obtain ⟨_,_,hs1,hs2⟩:=hg.bg r hmem
            have hall:=BD r.right is' t hs1 (fun s hs=>⟨hs2 s hs,fun hn=>by have:=hf.neg hmem hs hn; omega⟩)
            simp (disch:=omega) only [↓wr,↓reduceIte,wq,ah,ag,al,aa,ae,af,ai,isNil,Nat.reduceEqDiff,Nat.reduceAdd,Nat.reduceLT,Nat.reduceLeDiff,Int.reduceNeg,Int.reduceToNat,reduceCtorEq,e1,e2,e5,e6,e7,ao,encS,aG,List.getElem?_map,hg2,Option.map_some]
            refine ax.borrow hall (by kernel_rfl) (.val _) rfl (fun q hq=>?_) ?_
            · match q,hq with
              | 0,_=>exact bS.tree (cy _)
              | 1,_=>exact xf em hlen'.symm
              | 2,_=>exact bS.tree (.val _)
            · simp (disch:=omega) only [↓wr,↓reduceIte,wq,ah,ag,al,aa,ae,af,ai,isNil,Nat.reduceEqDiff,Nat.reduceAdd,Nat.reduceLT,Nat.reduceLeDiff,Int.reduceNeg,Int.reduceToNat,reduceCtorEq,e1,e2,e5,e6,e7,ao,encS,aG,List.getElem?_map,hg2,Option.map_some]
              refine aq.split (fun ha=>?_) (fun ha=>?_)
              · have hst:cD t is' r=is'.set r.left.toNat true:=by rw[cD,if_pos ha]
                simp (disch:=omega) only [↓wr,↓reduceIte,wq,ah,ag,al,aa,ae,af,ai,isNil,Nat.reduceEqDiff,Nat.reduceAdd,Nat.reduceLT,Nat.reduceLeDiff,Int.reduceNeg,Int.reduceToNat,reduceCtorEq,e1,e2,e5,e6,e7,em,ao,encS,aG,List.getElem?_map,hg2,Option.map_some,gY (show r.left.toNat < is'.length by omega)]
                rw[hst] at hj
                exact ⟨by omega,by omega,k' - 1,by omega,j+1,is'.set r.left.toNat true,by omega,by simp[hlen'],hj,by rw[dK],rfl⟩
              · have hst:cD t is' r=is':=by rw[cD,if_neg (by rw[ha]; simp)]
                rw[hst] at hj
                simp (disch:=omega) only [↓wr,↓reduceIte,wq,ah,ag,al,aa,ae,af,ai,isNil,Nat.reduceEqDiff,Nat.reduceAdd,Nat.reduceLT,Nat.reduceLeDiff,Int.reduceNeg,Int.reduceToNat,reduceCtorEq,e1,e2,e5,e6,e7]
                exact ⟨k' - 1,by omega,j+1,is',by omega,hlen',hj,by first | rfl | exact ⟨rfl,rfl⟩ | exact ⟨em,rfl⟩ | exact ⟨rfl,em,rfl⟩⟩
          · rw[List.drop_eq_nil_of_le (by omega),List.foldl_nil] at hj
            simp (disch:=omega) only [↓wr,↓reduceIte,wq,ah,ag,al,aa,ae,af,ai,isNil,Nat.reduceEqDiff,Nat.reduceAdd,Nat.reduceLT,Nat.reduceLeDiff,Int.reduceNeg,Int.reduceToNat,reduceCtorEq,e1,e2,e5,e6,e7]
            obtain ⟨q,rfl⟩:∃ q,k=q+1:=⟨k - 1,by omega⟩
            exact ⟨q,by omega,i+1,is',by omega,hlen',by rw[hj]; exact hi,rfl,em,rfl⟩
      · simp (disch:=omega) only [↓wr,↓reduceIte,wq,ah,ag,al,aa,ae,af,ai,isNil,Nat.reduceEqDiff,Nat.reduceAdd,Nat.reduceLT,Nat.reduceLeDiff,Int.reduceNeg,Int.reduceToNat,reduceCtorEq,f1,f2,f5,f6,fm]
        have:k=0:=by omega
        subst this
        rintro h' rfl
        simp only[aw,if_pos hr,← hi,iter]
        rw[← hlen]
        exact j9 fm
  · rename_i hr
    rintro h' rfl
    simp only[aw,hr]
    exact .emp 1
theorem G7 (g:au) (hg:g.Ok) (t:Bool):cq Tryz.prog 120 [.agg (ao g),gb t] (bf (aw g t)):=cq.of (GC g t) (Hl g hg t _)
theorem wz (g:au) (hg:g.Ok) (H:View):aB Tryz.prog 77 [.agg (ao g)] H fun r H'=>r=bf (aw g true)∧H'=H:=by
  refine aB.of mixed mL ?_
  simp (disch:=omega) only [↓wr,↓reduceIte,wq,ah,ag,al,aa,ae,af,ai,isNil,Nat.reduceEqDiff,Nat.reduceAdd,Nat.reduceLT,Nat.reduceLeDiff,Int.reduceNeg,Int.reduceToNat,reduceCtorEq,g9,ao,encS]
  refine ax.pure (G7 g hg true).pure (by kernel_rfl) ?_
  simp (disch:=omega) only [↓wr,↓reduceIte,wq,ah,ag,al,aa,ae,af,ai,isNil,Nat.reduceEqDiff,Nat.reduceAdd,Nat.reduceLT,Nat.reduceLeDiff,Int.reduceNeg,Int.reduceToNat,reduceCtorEq,ao,encS]
theorem px (g:au) (hg:g.Ok):aC Tryz.prog 77 [.agg (ao g)] (bf (aw g true)) :=
  aC.of (fi g) ((wz g hg _).mono fun r H' h h' _=>by rw[h.1]; exact .tree _ (eT _))
end Gv
set_option linter.unusedSimpArgs false
set_option maxRecDepth 100000
namespace Gv
open Go Go.Proofs
def mark (is:List Bool) (s:Int):List Bool:=if s < 0 then is.set (-1 - s).toNat true else is
def dP (p is:List Bool) (r:aO):List Bool:=if (is.getD r.left.toNat false && ca r.right p true)=true then r.right.foldl mark is else is
def kn (g:au) (p is:List Bool):List Bool:=g.rules.foldl (dP p) is
def aL (g:au):List Bool:=if aM g=true then iter (kn g (aw g true)) g.ar.length ((bD g).set g.start.toNat true) else []
theorem HA (is:List Bool) (s:Int):(mark is s).length=is.length:=by unfold mark; split <;> simp
theorem zp:∀ (l:List Int) (is:List Bool),(l.foldl mark is).length=is.length
  | [],_=>rfl
  | s :: l,is=>by rw[List.foldl_cons,zp l,HA]
theorem ET (p is:List Bool) (r:aO):(dP p is r).length=is.length:=by unfold dP; split <;> simp[zp]
theorem vT {f:List Bool→List Bool} (hf:∀ is,(f is).length=is.length):∀ (n:Nat) (is:List Bool),(iter f n is).length=is.length
  | 0,_=>rfl
  | n+1,is=>by rw[iter,vT hf n,hf]
theorem vz {α:Type} {f:List Bool→α→List Bool} (hf:∀ is x,(f is x).length=is.length):∀ (l:List α) (is:List Bool),(l.foldl f is).length=is.length
  | [],_=>rfl
  | x :: l,is=>by rw[List.foldl_cons,vz hf l,hf]
theorem eS {g:au} (h:aM g=true) (t:Bool):(aw g t).length=g.ar.length:=by
  have hl:∀ is,(fN g t is).length=is.length:=fun is=>vz (D2 t) _ _
  rw[aw,if_pos h,vT hl]
  simp[bD]
def gU:SC :=
  .seq (.seq (.region false [⟨none,[aj 41 8,aD 42 1 7,av 43 42,aX 44 43,bu 45 .lss 41 44,aj 46 45]⟩,⟨(some (46,true)),[aj 47 4,aD 48 0 7,av 49 48,aW 50 1 47 49,av 51 50]⟩,⟨none,[cx 52 46 51,aj 53 52]⟩,⟨(some (53,true)),[aD 54 1 7,av 55 54,aj 56 3,oE 57 79 [(.tmp 55),(.tmp 56),(.val (.val (.bool true)))]]⟩,⟨none,[cx 58 53 57]⟩]) <|
  .cond (.tmp 58) (.skip) (.exit 4)) <|
  .seq (.block 5 (.seq (an [aD 61 1 7,av 62 61,aj 63 8,aW 64 1 62 63,av 65 64,aH 66 .lss 65 0]) <|
  .cond (.tmp 66) (an [aj 67 4,aD 68 1 7,av 69 68,aj 70 8,aW 71 1 69 70,av 72 71,((some 73),.op (.arith .sub (.val (.val (.int .i64 (-1)))) (.tmp 72))),aW 74 1 67 73,(none,.op (.store 1 (.tmp 74) (.val (.val (.bool true)))))]) (.skip))) <|
  an [aj 59 8,aH 60 .add 59 1,aj 8 60]
def gI:SC :=
  .seq (.seq (an [aj 29 6,aD 30 2 1,av 31 30,aX 32 31,bu 33 .lss 29 32]) <|
  .cond (.tmp 33) (.skip) (.exit 2)) <|
  .seq (.block 3 (.seq (an [aD 36 2 1,av 37 36,aj 38 6,aW 39 3 37 38,bo 40 3 39,((some 7),.op (.alloc [(.val (.int .i64 0)),(.emp 1),(.val (.int .i64 0))])),(none,.op (.store 3 (.tmp 7) (.tmp 40)))]) <|
  .seq (an [bk 8 0]) <|
  .block 4 (.loop gU))) <|
  an [aj 34 6,aH 35 .add 34 1,aj 6 35]
def gT:SC :=
  .seq (.seq (an [aj 22 5,aD 23 1 1,av 24 23,aX 25 24,bu 26 .lss 22 25]) <|
  .cond (.tmp 26) (.skip) (.exit 0)) <|
  .seq (.block 1 (.seq (an [bk 6 0]) <|
  .block 2 (.loop gI))) <|
  an [aj 27 5,aH 28 .add 27 1,aj 5 28]
def iO:SF:=⟨.seq (an [da 1 0,((some 2),.op (.ak (.val (.emp 1))))]) <|
  .seq (.seq (an [bo 9 4 1,aY 10 41 [9],bP 11 10]) <|
  .cond (.tmp 11) (.seq (an [((some 2),.op (.ak (.val (.emp 1))))]) <|
  .ret) (.skip)) <|
  .seq (an [bo 12 4 1,aY 13 77 [12],aj 3 13]) <|
  .seq (an [aD 14 1 1,av 15 14,aX 16 15,((some 17),.op (.make 1 1 [(.val (.bool false))] (.tmp 16) (.tmp 16))),aj 4 17]) <|
  .seq (an [aj 18 4,aD 19 3 1,av 20 19,aW 21 1 18 20,(none,.op (.store 1 (.tmp 21) (.val (.val (.bool true)))))]) <|
  .seq (.seq (an [bk 5 0]) <|
  .block 0 (.loop gT)) <|
  .seq (an [aj 75 4,aj 2 75]) <|
  .ret,
  [.tmp 2],76⟩
theorem nj:aR Tryz.prog 78 [1]=some iO:=by kernel_rfl
theorem G9 {l:List Bool} {i j:Nat} (h:l.getD j false=true):(l.set i true).getD j false=true:=by
  simp only[List.getD_eq_getElem?_getD,List.getElem?_set] at h ⊢
  by_cases e:i=j
  · subst e
    by_cases hi:i < l.length
    · simp[hi]
    · rw[List.getElem?_eq_none (by omega)] at h; simp at h
  · rw[if_neg e]; exact h
theorem GL {H:View} {m n:Nat} {o:bC} (hm:H m=o) (hn:H n=.dead) (ho:o≠.dead):m≠n:=by rintro rfl; exact ho (hm.symm.trans hn)
set_option maxHeartbeats 4000000 in
theorem yh (g:au) (hg:g.Ok) (H:View):aB Tryz.prog 78 [.agg (ao g)] H fun r H'=>∀ h':aE,h'.view=H'→dV h' r (bf (aL g)):=by
  refine aB.of mixed nj ?_
  simp (disch:=omega) only [↓wr,↓reduceIte,wq,ah,ag,al,aa,ae,af,ai,isNil,Nat.reduceEqDiff,Nat.reduceAdd,Nat.reduceLT,Nat.reduceLeDiff,Int.reduceNeg,Int.reduceToNat,reduceCtorEq,iO,ao,encS]
  refine ax.pure (kB g hg) (by kernel_rfl) ?_
  repeat' (first | (refine aq.dec (fun _=>?_) (fun _=>?_)) | (refine aq.eq (fun _=>?_) (fun _=>?_)) | (refine aq.ne (fun _=>?_) (fun _=>?_)) | (refine aq.split (fun _=>?_) (fun _=>?_)) | (simp (disch:=omega) only [↓wr,↓reduceIte,wq,ah,ag,al,aa,ae,af,ai,isNil,Nat.reduceEqDiff,Nat.reduceAdd,Nat.reduceLT,Nat.reduceLeDiff,Int.reduceNeg,Int.reduceToNat,reduceCtorEq,ao,encS]))
  · rename_i hr
    have hf:=aJ hr
    obtain ⟨hN1,hN2⟩:=And.intro hf.nS hf.ar
    refine ax.pure (px g hg) (by kernel_rfl) ?_
    have hpl:=eS hr true
    have hreach:aL g=iter (kn g (aw g true)) g.ar.length ((bD g).set g.start.toNat true):=by rw[aL,if_pos hr]
    generalize aw g true=p at hpl hreach
    have hst:=hf.dR
    have hst2:=hf.start
    have hrep:List.replicate g.ar.length [V.val (Value.bool false)]=bw (bD g):=uo _ _
    have hnl:(bD g).length=g.ar.length:=by simp[bD]
    simp (disch:=omega) only [↓wr,↓reduceIte,wq,ah,ag,al,aa,ae,af,ai,isNil,Nat.reduceEqDiff,Nat.reduceAdd,Nat.reduceLT,Nat.reduceLeDiff,Int.reduceNeg,Int.reduceToNat,reduceCtorEq,ao,encS]
    refine ⟨⟨by omega,by unfold aF; omega,by unfold aF; omega⟩,fun hz=>by omega,fun _ m hm=>?_⟩
    rw[hrep]
    have hgs:(bw (bD g)).getD g.start.toNat []=[gb ((bD g)[g.start.toNat]'(by omega))]:=gY (by omega)
    simp (disch:=omega) only [↓wr,↓reduceIte,wq,ah,ag,al,aa,ae,af,ai,isNil,Nat.reduceEqDiff,Nat.reduceAdd,Nat.reduceLT,Nat.reduceLeDiff,Int.reduceNeg,Int.reduceToNat,reduceCtorEq,ao,encS,gY (show g.start.toNat < (bD g).length by omega),dK,List.length_map]
    refine ⟨by omega,by omega,?_⟩
    refine bm.intro (fun k T H'=>∃ (i:Nat) (is:List Bool),i+k=g.ar.length∧is.length=g.ar.length∧iter (kn g p) k is=aL g∧T 1=.aI (ao g) 0∧T 3=bf p∧T 4=.sl m 0 g.ar.length 1∧H' m=.arr 1 (bw is)∧T 5=gi i) g.ar.length ?_ ?_
    · refine ⟨0,(bD g).set g.start.toNat true,by omega,by simp[hnl],hreach.symm,?_⟩
      simp (disch:=omega) only [↓wr,↓reduceIte,wq,ah,ag,al,aa,ae,af,ai,isNil,Nat.reduceEqDiff,Nat.reduceAdd,Nat.reduceLT,Nat.reduceLeDiff,Int.reduceNeg,Int.reduceToNat,reduceCtorEq,ao,encS]
      rw[hgs]
      exact ⟨by rw[← dK]; rfl,rfl⟩
    · rintro k T H' ⟨i,is,hk,hlen,hi,f1,f3,f4,fm,f5⟩
      simp (disch:=omega) only [↓wr,↓reduceIte,wq,ah,ag,al,aa,ae,af,ai,isNil,Nat.reduceEqDiff,Nat.reduceAdd,Nat.reduceLT,Nat.reduceLeDiff,Int.reduceNeg,Int.reduceToNat,reduceCtorEq,gT,f1,f3,f4,f5,ao,encS]
      refine aq.dec (fun hc=>?_) (fun hc=>?_)
      · simp (disch:=omega) only [↓wr,↓reduceIte,wq,ah,ag,al,aa,ae,af,ai,isNil,Nat.reduceEqDiff,Nat.reduceAdd,Nat.reduceLT,Nat.reduceLeDiff,Int.reduceNeg,Int.reduceToNat,reduceCtorEq,f1,f3,f4,f5,ao,encS]
        refine bm.intro (fun k' T H'=>∃ (j:Nat) (is':List Bool),j+k'=g.rules.length∧is'.length=g.ar.length∧(g.rules.drop j).foldl (dP p) is'=kn g p is∧T 1=.aI (ao g) 0∧T 3=bf p∧T 4=.sl m 0 g.ar.length 1∧H' m=.arr 1 (bw is')∧T 5=gi i∧T 6=gi j) g.rules.length ?_ ?_
        · refine ⟨0,is,by omega,hlen,rfl,?_⟩
          simp (disch:=omega) only [↓wr,↓reduceIte,wq,ah,ag,al,aa,ae,af,ai,isNil,Nat.reduceEqDiff,Nat.reduceAdd,Nat.reduceLT,Nat.reduceLeDiff,Int.reduceNeg,Int.reduceToNat,reduceCtorEq,f1,f3,f4,f5,fm,ao,encS]
          first | done | exact ⟨rfl,rfl⟩ | rfl
        · rintro k' T' H'' ⟨j,is',hk',hlen',hj,e1,e3,e4,em,e5,e6⟩
          simp (disch:=omega) only [↓wr,↓reduceIte,wq,ah,ag,al,aa,ae,af,ai,isNil,Nat.reduceEqDiff,Nat.reduceAdd,Nat.reduceLT,Nat.reduceLeDiff,Int.reduceNeg,Int.reduceToNat,reduceCtorEq,gI,e1,e3,e4,e5,e6,ao]
          refine aq.dec (fun hd=>?_) (fun hd=>?_)
          · have hle:=hf.rules
            have hg2:g.rules[j]?=some (g.rules[j]'(by omega)):=List.getElem?_eq_getElem (by omega)
            rw[dI (show j < g.rules.length by omega)] at hj
            have hmem:g.rules[j]'(by omega)∈g.rules:=List.getElem_mem _
            generalize g.rules[j]'(by omega)=r at hg2 hj hmem
            simp only[List.foldl_cons] at hj
            obtain ⟨hl1,hl2⟩:=hf.left r hmem
            obtain ⟨_,_,hs1,hs2⟩:=hg.bg r hmem
            have hr6:=hf.right r hmem
            have hall:=BD r.right p true hs1 (fun s hs=>⟨hs2 s hs,fun hn=>by have:=hf.neg hmem hs hn; omega⟩)
            simp (disch:=omega) only [↓wr,↓reduceIte,wq,ah,ag,al,aa,ae,af,ai,isNil,Nat.reduceEqDiff,Nat.reduceAdd,Nat.reduceLT,Nat.reduceLeDiff,Int.reduceNeg,Int.reduceToNat,reduceCtorEq,e1,e3,e4,e5,e6,ao,encS,aG,encI,List.getElem?_map,hg2,Option.map_some]
            intro b hb
            have hne:m≠b:=GL em hb (by simp)
            try simp (disch:=omega) only [↓wr,↓reduceIte,wq,ah,ag,al,aa,ae,af,ai,isNil,Nat.reduceEqDiff,Nat.reduceAdd,Nat.reduceLT,Nat.reduceLeDiff,Int.reduceNeg,Int.reduceToNat,reduceCtorEq,e1,e3,e4,e5,e6,ao,encS,aG,encI]
            refine bm.intro (fun q T H'=>∃ (a:Nat) (is3:List Bool),a+q=r.right.length∧is3.length=g.ar.length∧(r.right.drop a).foldl mark is3=r.right.foldl mark is'∧((a=0∧is3=is')∨((is'.getD r.left.toNat false && ca r.right p true)=true∧is3.getD r.left.toNat false=true)) ∧
              T 1=.aI (ao g) 0∧T 3=bf p∧T 4=.sl m 0 g.ar.length 1∧H' m=.arr 1 (bw is3)∧T 5=gi i∧T 6=gi j∧T 7=.ptr b 0 0∧H' b=.arr 3 [aG r]∧T 8=gi a) r.right.length ?_ ?_
            · refine ⟨0,is',by omega,hlen',rfl,.inl ⟨rfl,rfl⟩,?_⟩
              simp (disch:=omega) only [↓wr,↓reduceIte,wq,ah,ag,al,aa,ae,af,ai,isNil,Nat.reduceEqDiff,Nat.reduceAdd,Nat.reduceLT,Nat.reduceLeDiff,Int.reduceNeg,Int.reduceToNat,reduceCtorEq,e1,e3,e4,e5,e6,em,hne,ao,encS,aG]
              exact ⟨rfl,rfl⟩
            · rintro q T3 H3 ⟨a,is3,hq,hlen3,ha,hcase,d1,d3,d4,dm,d5,d6,d7,db,d8⟩
              simp (disch:=omega) only [↓wr,↓reduceIte,wq,ah,ag,al,aa,ae,af,ai,isNil,Nat.reduceEqDiff,Nat.reduceAdd,Nat.reduceLT,Nat.reduceLeDiff,Int.reduceNeg,Int.reduceToNat,reduceCtorEq,gU,d1,d3,d4,d5,d6,d7,d8,db,aG,encI]
              have hgl:is3[r.left.toNat]?=some (is3[r.left.toNat]'(by omega)):=List.getElem?_eq_getElem (by omega)
              have hgl2:is3.getD r.left.toNat false=is3[r.left.toNat]'(by omega):=by simp[List.getD_eq_getElem?_getD,hgl]
              have hbg:=gY (show r.left.toNat < is3.length by omega)
              have hoff:(is'.getD r.left.toNat false && ca r.right p true)=false→dP p is' r=is3:=fun hW=>by
                rcases hcase with ⟨_,rfl⟩ | ⟨h1,_⟩
                · rw[dP,hW]; rfl
                · rw[hW] at h1; simp at h1
              generalize is3[r.left.toNat]'(by omega)=tl at hgl hgl2 hbg
              refine aq.dec (fun ht=>?_) (fun ht=>?_)
              · have hg3:r.right[a]?=some (r.right[a]'(by omega)):=List.getElem?_eq_getElem (by omega)
                rw[dI (show a < r.right.length by omega)] at ha
                have hms:r.right[a]'(by omega)∈r.right:=List.getElem_mem _
                generalize r.right[a]'(by omega)=s at hg3 ha hms
                simp only[List.foldl_cons] at ha
                have hin:=hs2 s hms
                simp (disch:=omega) only [↓wr,↓reduceIte,wq,ah,ag,al,aa,ae,af,ai,isNil,Nat.reduceEqDiff,Nat.reduceAdd,Nat.reduceLT,Nat.reduceLeDiff,Int.reduceNeg,Int.reduceToNat,reduceCtorEq,d1,d3,d4,d5,d6,d7,d8,db,dm,aG,encI,hbg,List.length_map]
                refine ⟨by omega,by omega,?_⟩
                refine aq.split (fun htl=>?_) (fun htl=>?_)
                · simp (disch:=omega) only [↓wr,↓reduceIte,wq,ah,ag,al,aa,ae,af,ai,isNil,Nat.reduceEqDiff,Nat.reduceAdd,Nat.reduceLT,Nat.reduceLeDiff,Int.reduceNeg,Int.reduceToNat,reduceCtorEq,d1,d3,d4,d5,d6,d7,d8,db,dm,aG,encI,hbg,List.length_map]
                  refine ax.pure hall (by kernel_rfl) ?_
                  simp (disch:=omega) only [↓wr,↓reduceIte,wq,ah,ag,al,aa,ae,af,ai,isNil,Nat.reduceEqDiff,Nat.reduceAdd,Nat.reduceLT,Nat.reduceLeDiff,Int.reduceNeg,Int.reduceToNat,reduceCtorEq,d1,d3,d4,d5,d6,d7,d8,db,dm,aG,encI]
                  refine aq.split (fun hal=>?_) (fun hal=>?_)
                  · simp (disch:=omega) only [↓wr,↓reduceIte,wq,ah,ag,al,aa,ae,af,ai,isNil,Nat.reduceEqDiff,Nat.reduceAdd,Nat.reduceLT,Nat.reduceLeDiff,Int.reduceNeg,Int.reduceToNat,reduceCtorEq,d1,d3,d4,d5,d6,d7,d8,db,dm,aG,encI,List.getElem?_map,hg3,Option.map_some]
                    have hW:(is'.getD r.left.toNat false && ca r.right p true)=true∧is3.getD r.left.toNat false=true:=by
                      rcases hcase with ⟨_,rfl⟩ | h1
                      · exact ⟨by rw[hgl2,htl,hal]; rfl,by rw[hgl2,htl]⟩
                      · exact h1
                    refine aq.dec (fun hsn=>?_) (fun hsn=>?_)
                    · have hng:=hf.neg hmem hms hsn
                      have hin1:=hin.1
                      have hms2:mark is3 s=is3.set (-1 - s).toNat true:=by rw[mark,if_pos hsn]
                      simp (disch:=omega) only [↓wr,↓reduceIte,wq,ah,ag,al,aa,ae,af,ai,isNil,Nat.reduceEqDiff,Nat.reduceAdd,Nat.reduceLT,Nat.reduceLeDiff,Int.reduceNeg,Int.reduceToNat,reduceCtorEq,d1,d3,d4,d5,d6,d7,d8,db,dm,aG,encI,List.getElem?_map,hg3,Option.map_some,gY (show (-1 - s).toNat < is3.length by omega),List.length_map,hne.symm]
                      rw[hms2] at ha
                      exact ⟨by omega,by omega,q - 1,by omega,a+1,is3.set (-1 - s).toNat true,by omega,by simp[hlen3],ha,.inr ⟨hW.1,G9 hW.2⟩,by rw[dK],by first | rfl | exact ⟨rfl,rfl⟩⟩
                    · have hms2:mark is3 s=is3:=by rw[mark,if_neg hsn]
                      rw[hms2] at ha
                      simp (disch:=omega) only [↓wr,↓reduceIte,wq,ah,ag,al,aa,ae,af,ai,isNil,Nat.reduceEqDiff,Nat.reduceAdd,Nat.reduceLT,Nat.reduceLeDiff,Int.reduceNeg,Int.reduceToNat,reduceCtorEq,d1,d3,d4,d5,d6,d7,d8,db,dm]
                      exact ⟨q - 1,by omega,a+1,is3,by omega,hlen3,ha,.inr hW,by first | rfl | exact ⟨rfl,rfl⟩ | exact ⟨rfl,rfl,rfl⟩⟩
                  · simp (disch:=omega) only [↓wr,↓reduceIte,wq,ah,ag,al,aa,ae,af,ai,isNil,Nat.reduceEqDiff,Nat.reduceAdd,Nat.reduceLT,Nat.reduceLeDiff,Int.reduceNeg,Int.reduceToNat,reduceCtorEq,d1,d3,d4,d5,d6,d7,d8,db,dm,aG,encI]
                    have hst:=hoff (by rw[hal,Bool.and_false])
                    exact ⟨k' - 1,by omega,j+1,is3,by omega,hlen3,by rw[← hst]; exact hj,rfl,rfl,rfl⟩
                · simp (disch:=omega) only [↓wr,↓reduceIte,wq,ah,ag,al,aa,ae,af,ai,isNil,Nat.reduceEqDiff,Nat.reduceAdd,Nat.reduceLT,Nat.reduceLeDiff,Int.reduceNeg,Int.reduceToNat,reduceCtorEq,d1,d3,d4,d5,d6,d7,d8,db,dm,aG,encI,hbg,List.length_map]
                  have hst:dP p is' r=is3:=by
                    rcases hcase with ⟨_,rfl⟩ | ⟨_,h1⟩
                    · rw[dP,hgl2,htl]; rfl
                    · rw[hgl2,htl] at h1; simp at h1
                  exact ⟨k' - 1,by omega,j+1,is3,by omega,hlen3,by rw[← hst]; exact hj,rfl,rfl,rfl⟩
              · simp (disch:=omega) only [↓wr,↓reduceIte,wq,ah,ag,al,aa,ae,af,ai,isNil,Nat.reduceEqDiff,Nat.reduceAdd,Nat.reduceLT,Nat.reduceLeDiff,Int.reduceNeg,Int.reduceToNat,reduceCtorEq,d1,d3,d4,d5,d6,d7,d8,db,dm,aG,encI]
                rw[List.drop_eq_nil_of_le (by omega),List.foldl_nil] at ha
                have hst:dP p is' r=is3:=by
                  rcases hcase with ⟨h0,rfl⟩ | ⟨h1,_⟩
                  · unfold dP
                    split
                    · exact ha.symm
                    · rfl
                  · rw[dP,if_pos h1]; exact ha.symm
                exact ⟨k' - 1,by omega,j+1,is3,by omega,hlen3,by rw[← hst]; exact hj,rfl,rfl,rfl⟩
          · rw[List.drop_eq_nil_of_le (by omega),List.foldl_nil] at hj
            simp (disch:=omega) only [↓wr,↓reduceIte,wq,ah,ag,al,aa,ae,af,ai,isNil,Nat.reduceEqDiff,Nat.reduceAdd,Nat.reduceLT,Nat.reduceLeDiff,Int.reduceNeg,Int.reduceToNat,reduceCtorEq,e1,e3,e4,e5,e6]
            obtain ⟨q,rfl⟩:∃ q,k=q+1:=⟨k - 1,by omega⟩
            exact ⟨q,by omega,i+1,is',by omega,hlen',by rw[hj]; exact hi,rfl,em,rfl⟩
      · simp (disch:=omega) only [↓wr,↓reduceIte,wq,ah,ag,al,aa,ae,af,ai,isNil,Nat.reduceEqDiff,Nat.reduceAdd,Nat.reduceLT,Nat.reduceLeDiff,Int.reduceNeg,Int.reduceToNat,reduceCtorEq,f1,f3,f4,f5,fm]
        have:k=0:=by omega
        subst this
        rintro h' rfl
        simp only[← hi,iter]
        rw[← hlen]
        exact j9 fm
  · rename_i hr
    rintro h' rfl
    simp only[aL,hr]
    exact .emp 1
theorem x9 (g:au) (hg:g.Ok):cq Tryz.prog 78 [.agg (ao g)] (bf (aL g)):=cq.of (fi g) (yh g hg _)
end Gv
set_option linter.unusedSimpArgs false
set_option maxRecDepth 100000
namespace Gv
open Go Go.Proofs
def u4:DF:=⟨.seq (.region [] [⟨none,[((some 2),.op (.ak (.val (.val (.bool false)))))]⟩]) <|
  .seq (.region [] [⟨none,[((some 3),.op (.ak (.tmp 0))),((some 4),.call (.val (.fn 109 [] [])) [(.tmp 3)]),((some 5),.op (.ak (.tmp 4)))]⟩,⟨(some (5,false)),[((some 6),.op (.ak (.tmp 0))),((some 7),.op (.arith .eql (.tmp 6) (.val (.val (.int .u8 46)))))]⟩,⟨none,[((some 8),.op (.pick (.tmp 5) (.val (.val (.bool true))) (.tmp 7))),((some 9),.op (.ak (.tmp 8)))]⟩,⟨(some (9,false)),[((some 10),.op (.ak (.tmp 0))),((some 11),.op (.arith .geq (.tmp 10) (.val (.val (.int .u8 48))))),((some 12),.op (.ak (.tmp 11)))]⟩,⟨(some (12,true)),[((some 13),.op (.ak (.tmp 0))),((some 14),.op (.arith .leq (.tmp 13) (.val (.val (.int .u8 57)))))]⟩,⟨(some (9,false)),[((some 15),.op (.pick (.tmp 12) (.tmp 14) (.val (.val (.bool false)))))]⟩,⟨none,[((some 16),.op (.pick (.tmp 9) (.val (.val (.bool true))) (.tmp 15))),((some 2),.op (.ak (.tmp 16)))]⟩]) <|
  .ret,
  [.tmp 2],17⟩
theorem x4:bz Tryz.prog 110 []=some u4:=by kernel_rfl
def tB:DF:=⟨.seq (.region [] [⟨none,[((some 2),.op (.ak (.val (.val (.bool false)))))]⟩]) <|
  .seq (.region [] [⟨none,[((some 3),.op (.ak (.tmp 0))),((some 4),.op (.arith .eql (.tmp 3) (.val (.val (.int .u8 95))))),((some 5),.op (.ak (.tmp 4)))]⟩,⟨(some (5,false)),[((some 6),.op (.ak (.tmp 0))),((some 7),.op (.arith .or (.tmp 6) (.val (.val (.int .u8 32))))),((some 8),.op (.arith .geq (.tmp 7) (.val (.val (.int .u8 97))))),((some 9),.op (.ak (.tmp 8)))]⟩,⟨(some (9,true)),[((some 10),.op (.ak (.tmp 0))),((some 11),.op (.arith .or (.tmp 10) (.val (.val (.int .u8 32))))),((some 12),.op (.arith .leq (.tmp 11) (.val (.val (.int .u8 122)))))]⟩,⟨(some (5,false)),[((some 13),.op (.pick (.tmp 9) (.tmp 12) (.val (.val (.bool false)))))]⟩,⟨none,[((some 14),.op (.pick (.tmp 5) (.val (.val (.bool true))) (.tmp 13))),((some 2),.op (.ak (.tmp 14)))]⟩]) <|
  .ret,
  [.tmp 2],15⟩
theorem xD:bz Tryz.prog 109 []=some tB:=by kernel_rfl
def vp:DF:=⟨.seq (.region [] [⟨none,[((some 2),.op (.ak (.val (.val (.bool false)))))]⟩]) <|
  .seq (.region [] [⟨none,[((some 3),.op (.ak (.tmp 0))),((some 4),.op (.arith .geq (.tmp 3) (.val (.val (.int .u8 32))))),((some 5),.op (.ak (.tmp 4)))]⟩,⟨(some (5,true)),[((some 6),.op (.ak (.tmp 0))),((some 7),.op (.arith .leq (.tmp 6) (.val (.val (.int .u8 126)))))]⟩,⟨none,[((some 8),.op (.pick (.tmp 5) (.tmp 7) (.val (.val (.bool false))))),((some 9),.op (.ak (.tmp 8)))]⟩,⟨(some (9,true)),[((some 10),.op (.ak (.tmp 0))),((some 11),.op (.arith .neq (.tmp 10) (.val (.val (.int .u8 39)))))]⟩,⟨none,[((some 12),.op (.pick (.tmp 9) (.tmp 11) (.val (.val (.bool false))))),((some 13),.op (.ak (.tmp 12)))]⟩,⟨(some (13,true)),[((some 14),.op (.ak (.tmp 0))),((some 15),.op (.arith .neq (.tmp 14) (.val (.val (.int .u8 92)))))]⟩,⟨none,[((some 16),.op (.pick (.tmp 13) (.tmp 15) (.val (.val (.bool false))))),((some 2),.op (.ak (.tmp 16)))]⟩]) <|
  .ret,
  [.tmp 2],17⟩
theorem yn:bz Tryz.prog 179 []=some vp:=by kernel_rfl
def sO:DF:=⟨.seq (.region [] [⟨none,[((some 2),.op (.ak (.val (.val (.bool false)))))]⟩]) <|
  .seq (.region [] [⟨none,[((some 3),.op (.ak (.tmp 0))),((some 4),.op (.arith .eql (.tmp 3) (.val (.val (.int .u8 110))))),((some 5),.op (.ak (.tmp 4)))]⟩,⟨(some (5,false)),[((some 6),.op (.ak (.tmp 0))),((some 7),.op (.arith .eql (.tmp 6) (.val (.val (.int .u8 116)))))]⟩,⟨none,[((some 8),.op (.pick (.tmp 5) (.val (.val (.bool true))) (.tmp 7))),((some 9),.op (.ak (.tmp 8)))]⟩,⟨(some (9,false)),[((some 10),.op (.ak (.tmp 0))),((some 11),.op (.arith .eql (.tmp 10) (.val (.val (.int .u8 92)))))]⟩,⟨none,[((some 12),.op (.pick (.tmp 9) (.val (.val (.bool true))) (.tmp 11))),((some 13),.op (.ak (.tmp 12)))]⟩,⟨(some (13,false)),[((some 14),.op (.ak (.tmp 0))),((some 15),.op (.arith .eql (.tmp 14) (.val (.val (.int .u8 39)))))]⟩,⟨none,[((some 16),.op (.pick (.tmp 13) (.val (.val (.bool true))) (.tmp 15))),((some 2),.op (.ak (.tmp 16)))]⟩]) <|
  .ret,
  [.tmp 2],17⟩
theorem vF:bz Tryz.prog 180 []=some sO:=by kernel_rfl
def qt:List (FuncId × DF):=[(110,u4),(109,tB),(179,vp),(180,sO)]
theorem pt:uD Tryz.prog qt:=by
  intro p hp
  simp only[qt,List.mem_cons,List.not_mem_nil,or_false] at hp
  rcases hp with rfl | rfl | rfl | rfl
  · exact ⟨_,x4⟩
  · exact ⟨_,xD⟩
  · exact ⟨_,yn⟩
  · exact ⟨_,vF⟩
theorem HJ (P:Program):rj P (fun _ _=>none):=fun _ _ _ h=>by simp at h
def Jq (o:Option V) (b:Bool):Bool:=match o with
  | some (.val (.bool c))=>c == b
  | _=>false
theorem Jg {o:Option V} {b:Bool} (h:Jq o b=true):o=some (gb b):=by
  unfold Jq at h
  split at h
  · rw[beq_iff_eq] at h; rw[h]
  · simp at h
noncomputable def tW (tab:List (FuncId × DF)) (f:FuncId) (p:Int→Bool):Bool:=(List.range 256).all fun c=>Jq (uL Tryz.prog tab (fun _ _=>none) f [gy (c:Int)]) (p (c:Int))
theorem rN {tab:List (FuncId × DF)} (ht:uD Tryz.prog tab) {f:FuncId} {p:Int→Bool} (h:tW tab f p=true) (c:Int) (h0:0≤c) (h1:c≤255):aC Tryz.prog f [gy c] (gb (p c)):=by
  have:=List.all_eq_true.1 h c.toNat (by simp; omega)
  rw[show ((c.toNat:Nat):Int)=c by omega] at this
  exact (wO mixed ht (HJ _) (by intro v hv; simp at hv; subst hv; exact .val _) (Jg this)).pure
def tw (c:Int):Bool:=decide (32≤c) && decide (c≤126) && c != 39 && c != 92
def yo (c:Int):Bool:=c == 110 || c == 116 || c == 92 || c == 39
theorem DK:tW qt 109 qD=true:=by kernel_rfl
theorem Fe:tW qt 110 ke=true:=by kernel_rfl
theorem Ew:tW qt 179 tw=true:=by kernel_rfl
theorem Ii:tW qt 180 yo=true:=by kernel_rfl
theorem yF {s:ByteArray} {c:Int} (h:c∈dD s):0≤c∧c≤255:=by
  unfold dD at h
  obtain ⟨b,_,rfl⟩:=List.mem_map.1 h
  have:=b.toNat_lt
  omega
theorem F5 (s:ByteArray):ed s=(dD s).map fun x=>[gy x]:=by simp[ed,dD]
end Gv
