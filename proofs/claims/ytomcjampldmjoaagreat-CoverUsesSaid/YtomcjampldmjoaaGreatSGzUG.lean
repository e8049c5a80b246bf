/-
  Part 7 of the proof: what the machine does and what the functions answer.
  Conditions: those that each lemma names.
-/
import Derived.Test.YtomcjampldmjoaaGreatSGzUF
set_option linter.unusedSimpArgs false
set_option linter.unusedVariables false
namespace Gv
open Go
inductive cX (h:aC):V→V→Prop
  | val (v:Value):cX h (.val v) (.val v)
  | emp (k:Nat):cX h (.emp k) (.aN [])
  | sl (id off len esz z:Nat) (es es':List (List V)):h.view id=.arr z es→off+len≤es.length→es'.length=len →
      (∀ i,i < len→(es'.getD i []).length=(es.getD (off+i) []).length) →
      (∀ i j,i < len→j < (es'.getD i []).length→cX h ((es.getD (off+i) []).getD j .any) ((es'.getD i []).getD j .any))→cX h (.sl id off len esz) (.aN es')
  | agg (cs cs':List V):cs'.length=cs.length→(∀ i,i < cs.length→cX h (cs.getD i .any) (cs'.getD i .any))→cX h (.agg cs) (.agg cs')
  | bg (cs cs':List V):cs'.length=cs.length→(∀ i,i < cs.length→cX h (cs.getD i .any) (cs'.getD i .any))→cX h (.bg cs) (.bg cs')
theorem KR {h:aC} {Z:Nat→Prop} {μ ν:Mu} {F:View} {hp:Array Obj} (hr:fk Z μ hp (cat h F)) {v t:V} (fr:cX h v t):∀ {x:Value},aw Z μ hp v x→aw (fW μ) ν hp t x:=by
  have hcat:∀ id,h.view id≠.dead→cat h F id=h.view id:=fun id hd=>by simp only[cat]; rw[if_pos (g8 hd)]
  induction fr with
  | val v=>intro x hx; cases hx with | val _ hv=>exact .val _ hv
  | emp k=>intro x hx; cases hx with | emp _ a=>exact .ff a 0 (fun _=>rfl)
  | sl id off len esz z es es' hH hle hlen hl _ ih =>
    intro x hx
    cases hx with
    | nK _ _ _ a =>
      have:es'=[]:=List.length_eq_zero_iff.1 hlen
      subst this
      exact .ff a 0 (fun _=>rfl)
    | sl _ _ _ _ b o0 cap c e f hm hlec hb hs =>
      have hor:=hr.obj id
      rw[hcat id (by rw[hH]; simp),hH] at hor
      obtain ⟨rfl,_,h3,h4⟩:=hor b o0 esz hm
      have hx:∀ i,∃ ci:Nat→Value,∀ j,j < esz→i < len→cellAt hp b (o0+off * esz+i * esz+j)=some (ci j)∧aw Z μ hp ((es.getD (off+i) []).getD j .any) (ci j):=by
        intro i
        by_cases hi:i < len
        · obtain ⟨ci,hci⟩:=kP (n:=esz) (p:=fun j x=>cellAt hp b (o0+off * esz+i * esz+j)=some x∧aw Z μ hp ((es.getD (off+i) []).getD j .any) x) (fun j hj=>by
            obtain ⟨x,hx,hv⟩:=h4 (off+i) j (by omega) hj
            rw[Nat.add_mul,← Nat.add_assoc] at hx
            exact ⟨x,hx,hv⟩)
          exact ⟨ci,fun j hj _=>hci j hj⟩
        · exact ⟨fun _=>undef,fun j _ h=>absurd h hi⟩
      obtain ⟨cf,hcf⟩:=Classical.axiomOfChoice hx
      have hel:∀ i,i < es'.length→(es'.getD i []).length=esz:=fun i hi=>by rw[hl i (by omega)]; exact h3 _ (by omega)
      have:=aw.aN (Z:=fW μ) (μ:=ν) (hp:=hp) es' b (o0+off * esz) esz cap cf ⟨id,o0,esz,hm⟩ (by omega) hel
        (fun i j hi hj=>(hcf i j hj (by omega)).1) (fun i j hi hj=>ih i j (by omega) (by rw[hel i hi]; exact hj) (hcf i j hj (by omega)).2)
      rw[hlen] at this
      exact this
  | agg cs cs' hlen _ ih =>
    intro x hx
    cases hx with
    | agg _ aas h1 h2=>exact .agg _ _ (by omega) (fun i hi=>ih i (by omega) (h2 i (by omega)))
  | bg cs cs' hlen _ ih =>
    intro x hx
    cases hx with
    | bg _ aas h1 h2=>exact .bg _ _ (by omega) (fun i hi=>ih i (by omega) (h2 i (by omega)))
def cr (P:Program) (f:FuncId) (vs:List V) (t:V):Prop :=
  ∀ Z μ (w:World) (xs:List Value),dG Z μ w.heap vs xs→(∀ b,Z b→b < w.heap.size) →
    Calls P f xs.toArray w fun e w'=>∃ x Z',e=.returned x∧(∀ ν,aw Z' ν w'.heap t x)∧dm w w'∧(∀ b,Z' b→w.heap.size≤b∧b < w'.heap.size)∧dR w.heap w'.heap (fun _=>False)
theorem cr.pure {P:Program} {f:FuncId} {vs:List V} {t:V} (h:cr P f vs t):aE P f vs t:=by
  intro Z μ w xs hrel hz
  refine (h Z μ w xs hrel hz).mono ?_
  rintro e w' ⟨x,Z',rfl,hv,hs,hz',ho⟩
  exact ⟨x,fun b=>Z b∨Z' b,rfl,fun ν=>(hv ν).mono ⟨fun _ h=>.inr h,fun _ _=>rfl,fun _ _ h=>h,dM.refl _⟩,hs,fun _ h=>.inl h,fun b hb=>hb.imp id (hz' b),ho⟩
theorem cr.sF {P:Program} {f:FuncId} {vs:List V} {r t:V} {h':aC} (ht:∀ v∈vs,Tree v) (hc:bL P f vs [] r h') (hf:cX h' r t):cr P f vs t:=by
  intro Z μ w xs hrel hz
  have hrel0:dG Z (fun _=>none) w.heap vs xs:=⟨hrel.1,fun i hi=>r9 (hrel.2 i hi) (by
    simp only[List.getD_eq_getElem?_getD,List.getElem?_eq_getElem hi,Option.getD_some]
    exact ht _ (List.getElem_mem _))⟩
  have hr0:fk Z (fun _=>none) w.heap (cat [] fun _=>.dead):=by
    rw[y9]
    exact ⟨fun _=>trivial,fun i j b o s o' s' _ h=>by simp at h,fun id b o s h=>by simp at h,hz,fun id b o s h=>by simp at h⟩
  refine (hc.2 Z _ _ w xs hrel0 hr0 (fun _ _ _=>rfl)).mono ?_
  rintro e w' ⟨x,Z',μ',rfl,hv,hh,hex,_⟩
  refine ⟨x,fW μ',rfl,fun ν=>KR hh hf hv,hex.same,?_,fun b hb _=>hex.frame b hb (by rintro ⟨_,_,_,h⟩; simp at h)⟩
  rintro b ⟨id,o,s,hb⟩
  rcases hex.ye _ _ _ _ hb with h1 | ⟨_,h1 | ⟨_,_,_,h1⟩⟩
  · simp at h1
  · exact ⟨h1,hh.lt _ _ _ _ hb⟩
  · simp at h1
theorem cr.of {P:Program} {f:FuncId} {vs:List V} {t:V} (ht:∀ v∈vs,Tree v) (h:aB P f vs (fun _=>.dead) fun r H'=>∀ h':aC,h'.view=H'→cX h' r t):cr P f vs t:=by
  obtain ⟨r,h',ha,_,hf⟩:=h.2 [] Au
  exact cr.sF ht ha (hf h' rfl)
theorem bL.rI {P:Program} {f:FuncId} {ts vs:List V} {t:V} {h:aC} (hc:cr P f ts t) (hl:ts.length=vs.length)
    (hfr:∀ i,i < vs.length→Fr h (vs.getD i .any) (ts.getD i .any)):bL P f vs h t h:=by
  refine ⟨Nat.le_refl _,fun Z μ F w xs hrel hr hfree=>?_⟩
  have hts:dG (fun b=>Z b∨fW μ b) μ w.heap ts xs:=⟨by rw[hl,hrel.1],fun i hi=>yd hr (hfr i (by omega)) (hrel.2 i (by omega))⟩
  have hzl:∀ b,(Z b∨fW μ b)→b < w.heap.size:=by
    rintro b (hb | ⟨id,o,s,hb⟩)
    · exact hr.bZ b hb
    · exact hr.lt _ _ _ _ hb
  refine (hc _ μ w xs hts hzl).mono ?_
  rintro e w' ⟨x,Z',rfl,hv,hs,hz',ho⟩
  have hm:eL Z (fun b=>Z b∨Z' b) μ μ w.heap w'.heap:=⟨fun _ h=>.inl h,fun b hb=>ho b (hr.bZ b hb) (fun x=>x),fun _ _ h=>h,ho.mX⟩
  refine ⟨x,fun b=>Z b∨Z' b,μ,rfl,(hv μ).mono ⟨fun _ h=>.inr h,fun _ _=>rfl,fun _ _ h=>h,dM.refl _⟩,⟨fun id=>(hr.obj id).mono hm rfl (fun b o s hx=>ho b (hr.lt _ _ _ _ hx) (fun x=>x)),hr.inj,fun id b o s hx=>Nat.lt_of_lt_of_le (hr.lt _ _ _ _ hx) hs.size,fun b hb=>?_,fun id b o s hx hzb=>?_⟩,
    ⟨hs,hm,fun b hb _=>ho b hb (fun x=>x),fun b hb=>hb.imp id (fun h=>(hz' b h).1),fun _ _ _ _ h=>.inl h⟩,fun _ _=>rfl⟩
  · rcases hb with hb | hb
    · exact Nat.lt_of_lt_of_le (hr.bZ b hb) hs.size
    · exact (hz' b hb).2
  · rcases hzb with hb | hb
    · exact hr.fh _ _ _ _ hx hb
    · have:=hr.lt _ _ _ _ hx; have:=(hz' b hb).1; omega
theorem aF.rI {P:Program} {q:Bool} {f:FuncId} {H:View} {vs ts:List V} {K:V→View→Prop} {v:cm (H,K)} {t:V} (hc:cr P f ts t) (hok:cy P f=true) (hl:ts.length=vs.length)
    (hfr:∀ i,i < vs.length→dt H (vs.getD i .any) (ts.getD i .any)) (hk:K t H):aF P q f vs H K v:=by
  unfold aF
  cases q with
  | true=>exact ⟨hok,fun h e=>⟨t,h,bL.rI hc hl (fun i hi=>hfr i hi h e),fun _ _=>rfl,e ▸ hk⟩⟩
  | false =>
    refine ⟨hok,?_⟩
    rintro h rfl
    exact ⟨t,h,bL.rI hc hl (fun i hi=>hfr i hi h rfl),.refl _,hk⟩
noncomputable def kH (fz:V→Option V):List V→Option (List V)
  | []=>some []
  | v :: l=>match fz v,kH fz l with
    | some a,some b=>some (a :: b)
    | _,_=>none
noncomputable def yV (fz:V→Option V):List (List V)→Option (List (List V))
  | []=>some []
  | v :: l=>match kH fz v,yV fz l with
    | some a,some b=>some (a :: b)
    | _,_=>none
noncomputable def tQ (H:View):Nat→V→Option V
  | 0,_=>none
  | k+1,v=>match v with
    | .val x=>some (.val x)
    | .emp _=>some (.aN [])
    | .sl id off len _=>match H id with
      | .arr _ es=>if off+len≤es.length then (yV (tQ H k) ((es.drop off).take len)).map .aN else none
      | _=>none
    | .agg cs=>(kH (tQ H k) cs).map .agg
    | .bg cs=>(kH (tQ H k) cs).map .bg
    | _=>none
theorem fc {fz:V→Option V} : ∀ (l l':List V),kH fz l=some l'→l'.length=l.length∧∀ i,i < l.length→fz (l.getD i .any)=some (l'.getD i .any)
  | [],l',h=>by simp only[kH,Option.some.injEq] at h; subst h; exact ⟨rfl,fun i hi=>by simp at hi⟩
  | v :: l,l',h=>by
    simp only[kH] at h
    split at h
    · rename_i a b h1 h2
      simp only[Option.some.injEq] at h; subst h
      obtain ⟨g1,g2⟩:=fc l b h2
      refine ⟨by simp[g1],fun i hi=>?_⟩
      cases i with
      | zero=>exact h1
      | succ i=>exact g2 i (by simpa using hi)
    · simp at h
theorem y5 {fz:V→Option V} : ∀ (l l':List (List V)),yV fz l=some l'→l'.length=l.length∧∀ i,i < l.length→kH fz (l.getD i [])=some (l'.getD i [])
  | [],l',h=>by simp only[yV,Option.some.injEq] at h; subst h; exact ⟨rfl,fun i hi=>by simp at hi⟩
  | v :: l,l',h=>by
    simp only[yV] at h
    split at h
    · rename_i a b h1 h2
      simp only[Option.some.injEq] at h; subst h
      obtain ⟨g1,g2⟩:=y5 l b h2
      refine ⟨by simp[g1],fun i hi=>?_⟩
      cases i with
      | zero=>exact h1
      | succ i=>exact g2 i (by simpa using hi)
    · simp at h
theorem EF (h:aC):∀ (k:Nat) (v t:V),tQ h.view k v=some t→cX h v t
  | 0,v,t,hf=>by simp[tQ] at hf
  | k+1,v,t,hf=>by
    have ih:=EF h k
    simp only[tQ] at hf
    split at hf
    · simp only[Option.some.injEq] at hf; subst hf; exact .val _
    · simp only[Option.some.injEq] at hf; subst hf; exact .emp _
    · rename_i id off len esz
      split at hf
      · rename_i z es hH
        split at hf
        · rename_i hle
          simp only[Option.map_eq_some_iff] at hf
          obtain ⟨es',he,rfl⟩:=hf
          obtain ⟨g1,g2⟩:=y5 _ _ he
          have hlen:es'.length=len:=by rw[g1]; simp; omega
          have hg:∀ i,i < len→((es.drop off).take len).getD i []=es.getD (off+i) []:=fun i hi=>by
            simp[List.getD_eq_getElem?_getD,List.getElem?_take,hi]
          have g3:∀ i,i < len→kH (tQ h.view k) (es.getD (off+i) [])=some (es'.getD i []):=fun i hi=>by
            rw[← hg i hi]; exact g2 i (by rw[← g1,hlen]; exact hi)
          exact .sl id off len esz z es es' hH hle hlen (fun i hi=>(fc _ _ (g3 i hi)).1) (fun i j hi hj=>ih _ _ ((fc _ _ (g3 i hi)).2 j (by rw[← (fc _ _ (g3 i hi)).1]; exact hj)))
        · simp at hf
      · simp at hf
    · simp only[Option.map_eq_some_iff] at hf
      obtain ⟨l,hl,rfl⟩:=hf
      obtain ⟨g1,g2⟩:=fc _ _ hl
      exact .agg _ _ g1 (fun i hi=>ih _ _ (g2 i hi))
    · simp only[Option.map_eq_some_iff] at hf
      obtain ⟨l,hl,rfl⟩:=hf
      obtain ⟨g1,g2⟩:=fc _ _ hl
      exact .bg _ _ g1 (fun i hi=>ih _ _ (g2 i hi))
    · simp at hf
noncomputable def Kr:Option (V × ES)→Option V
  | some (v,e)=>tQ e.V 50 v
  | none=>none
noncomputable def rG (P:Program) (tab:List (FuncId × DF)) (ext:uF) (f:FuncId) (vs:List V):Option V :=
  Kr (A5 P tab ext (CD P tab ext 100000) f vs ⟨.nil,.nil,0,[]⟩)
theorem og {P:Program} (hm:P.follows .mixedOrders=true) {tab:List (FuncId × DF)} {ext:uF} (ht:pG P tab) (hx:oR P ext) {f:FuncId} {vs:List V} {t:V} (hvs:∀ v∈vs,Tree v) (h:rG P tab ext f vs=some t) :
    cr P f vs t:=by
  unfold rG Kr at h
  split at h
  · rename_i v e hr
    obtain ⟨h1,h',h2,h3,_⟩:=CT ht hx (EB hm ht hx 100000) f vs _ v e [] hr ⟨by funext k; rfl,rfl⟩
    rw[h3.1] at h
    exact cr.sF hvs h2 (EF h' 50 v t h)
  · simp at h
end Gv
set_option linter.unusedSimpArgs false
set_option maxRecDepth 100000
namespace Gv
open Go Go.Proofs
structure al.iJ (g:al):Prop where
  ay:g.ay.length≤24
  xS:1≤g.ax.length
  ax:g.ax.length≤16
  CU:1≤g.rules.length
  rules:g.rules.length≤40
  gY:0≤g.start
  start:g.start < g.ax.length
  left:∀ r∈g.rules,0≤r.left∧r.left < g.ax.length
  right:∀ r∈g.rules,r.right.length≤6
  sym:∀ r∈g.rules,∀ s∈r.right,iA g s=true
  prec:∀ r∈g.rules,-1≤r.prec∧r.prec < g.ay.length
theorem tT {g:al} : ∀ (l:List aJ) (top:Int),eO g l top=true→top≤(g.ax.length:Int) - 1∧∀ r∈l,0≤r.left∧r.left < g.ax.length∧fp g r=true
  | [],top,h=>by simp[eO] at h; exact ⟨by omega,fun r hr=>by simp at hr⟩
  | r :: l,top,h=>by
    simp only[eO,Bool.and_eq_true,decide_eq_true_eq] at h
    obtain ⟨⟨⟨h1,h2⟩,h3⟩,h4⟩:=h
    obtain ⟨k1,k2⟩:=tT l _ h4
    have h5:r.left≤(if r.left > top then r.left else top):=by split <;> omega
    have h6:top≤(if r.left > top then r.left else top):=by split <;> omega
    refine ⟨by omega,fun r' hr=>?_⟩
    rcases List.mem_cons.1 hr with rfl | hr
    · exact ⟨h1,by omega,h3⟩
    · exact k2 r' hr
theorem bc {g:al} (h:bk g=true):g.iJ:=by
  simp only[bk,g9,iH,Bool.and_eq_true,decide_eq_true_eq] at h
  obtain ⟨⟨⟨⟨⟨⟨⟨h1,_⟩,⟨h2,h3⟩,_⟩,h4⟩,h5⟩,h6⟩,h7⟩,h8⟩:=h
  have k:=(tT _ _ h8).2
  have hb:∀ r∈g.rules,r.right.length≤6∧-1≤r.prec∧r.prec < g.ay.length∧∀ s∈r.right,iA g s=true:=fun r hr=>by
    have:=(k r hr).2.2
    simp only[fp,Bool.and_eq_true,decide_eq_true_eq,List.all_eq_true,jZ] at this
    exact ⟨this.1.1.1,this.1.1.2,this.1.2,fun s hs=>(this.2 s hs).1⟩
  exact ⟨h1,h2,h3,h4,h5,h6,h7,fun r hr=>⟨(k r hr).1,(k r hr).2.1⟩,fun r hr=>(hb r hr).1,fun r hr=>(hb r hr).2.2.2,fun r hr=>⟨(hb r hr).2.1,(hb r hr).2.2.1⟩⟩
theorem al.iJ.neg {g:al} (h:g.iJ) {r:aJ} (hr:r∈g.rules) {s:Int} (hs:s∈r.right) (hn:s < 0) : -1 - s < g.ax.length:=by
  have:=h.sym r hr s hs
  simp only[iA] at this
  rw[if_neg (by omega)] at this
  simpa using this
abbrev db (is:List Bool):List (List V):=is.map fun x=>[gb x]
theorem mY {h:aC} {id:Nat} {is:List Bool} (hv:h.view id=.arr 1 (db is)):cX h (.sl id 0 is.length 1) (bR is):=by
  refine .sl id 0 is.length 1 1 (db is) _ hv (by simp) (by simp) (fun i hi=>by simp) (fun i j hi hj=>?_)
  rw[Nat.zero_add]
  have e:(db is).getD i []=[gb is[i]]:=by simp[List.getD_eq_getElem?_getD,hi]
  rw[e] at hj ⊢
  have:j=0:=by simp at hj; omega
  subst this
  exact .val _
theorem F3 {H:View} {id n:Nat} {is:List Bool} (hv:H id=.arr 1 (db is)) (hn:n=is.length):dt H (.sl id 0 n 1) (bR is):=by
  have ht:∀ e∈db is,∀ v∈e,Tree v:=by
    intro e he v hv
    obtain ⟨a,_,rfl⟩:=List.mem_map.1 he
    rw[List.mem_singleton] at hv
    subst hv
    exact .val _
  have:=dt.sl (off:=0) (len:=n) (esz:=1) hv (by simp[hn]) ht
  rwa [List.drop_zero,List.take_of_length_le (by simp[hn])] at this
theorem pv {is:List Bool} {i:Nat} (h:i < is.length):(db is).getD i []=[gb is[i]]:=by simp[List.getD_eq_getElem?_getD,h]
theorem m5 (is:List Bool) (i:Nat) (b:Bool):(db is).set i [gb b]=db (is.set i b):=by simp[List.map_set]
theorem Iu (n:Nat) (b:Bool):List.replicate n [gb b]=db (List.replicate n b):=by simp
def iter {α:Type} (f:α→α):Nat→α→α
  | 0,x=>x
  | n+1,x=>iter f n (f x)
def dK (t:Bool) (is:List Bool) (r:aJ):List Bool:=if ep r.right is t=true then is.set r.left.toNat true else is
def lS (g:al) (t:Bool) (is:List Bool):List Bool:=g.rules.foldl (dK t) is
def cB (g:al):List Bool:=List.replicate g.ax.length false
def aG (g:al) (t:Bool):List Bool:=if bk g=true then iter (lS g t) g.ax.length (cB g) else []
theorem FT (t:Bool) (is:List Bool) (r:aJ):(dK t is r).length=is.length:=by unfold dK; split <;> simp
end Gv
set_option linter.unusedSimpArgs false
set_option maxRecDepth 100000
namespace Gv
open Go Go.Proofs
def mark (is:List Bool) (s:Int):List Bool:=if s < 0 then is.set (-1 - s).toNat true else is
def ig (p is:List Bool) (r:aJ):List Bool:=if (is.getD r.left.toNat false && ep r.right p true)=true then r.right.foldl mark is else is
def rv (g:al) (p is:List Bool):List Bool:=g.rules.foldl (ig p) is
def bu (g:al):List Bool:=if bk g=true then iter (rv g (aG g true)) g.ax.length ((cB g).set g.start.toNat true) else []
theorem Jz (is:List Bool) (s:Int):(mark is s).length=is.length:=by unfold mark; split <;> simp
theorem Ax:∀ (l:List Int) (is:List Bool),(l.foldl mark is).length=is.length
  | [],_=>rfl
  | s :: l,is=>by rw[List.foldl_cons,Ax l,Jz]
theorem HQ (p is:List Bool) (r:aJ):(ig p is r).length=is.length:=by unfold ig; split <;> simp[Ax]
theorem wA {f:List Bool→List Bool} (hf:∀ is,(f is).length=is.length):∀ (n:Nat) (is:List Bool),(iter f n is).length=is.length
  | 0,_=>rfl
  | n+1,is=>by rw[iter,wA hf n,hf]
theorem w7 {α:Type} {f:List Bool→α→List Bool} (hf:∀ is x,(f is x).length=is.length):∀ (l:List α) (is:List Bool),(l.foldl f is).length=is.length
  | [],_=>rfl
  | x :: l,is=>by rw[List.foldl_cons,w7 hf l,hf]
theorem my {g:al} (h:bk g=true) (t:Bool):(aG g t).length=g.ax.length:=by
  have hl:∀ is,(lS g t is).length=is.length:=fun is=>w7 (FT t) _ _
  rw[aG,if_pos h,wA hl]
  simp[cB]
end Gv
set_option linter.unusedSimpArgs false
set_option maxRecDepth 100000
namespace Gv
open Go Go.Proofs
def vx:DF:=⟨.seq (au [aW 2 false]) <|
  .seq (.region [] [⟨none,[aa 3 0,aK 4 135 [3],aa 5 4]⟩,⟨(some (5,false)),[aa 6 0,((some 7),.op (.arith .eql (.tmp 6) (.val (.val (.int .u8 46)))))]⟩,⟨none,[bC 8 5 7,aa 9 8]⟩,⟨(some (9,false)),[aa 10 0,((some 11),.op (.arith .geq (.tmp 10) (.val (.val (.int .u8 48))))),aa 12 11]⟩,⟨(some (12,true)),[aa 13 0,((some 14),.op (.arith .leq (.tmp 13) (.val (.val (.int .u8 57)))))]⟩,⟨(some (9,false)),[bI 15 12 14]⟩,⟨none,[bC 16 9 15,aa 2 16]⟩]) <|
  .ret,
  [.tmp 2],17⟩
theorem yR:bt Tryz.prog 136 []=some vx:=by kernel_rfl
def uI:DF:=⟨.seq (au [aW 2 false]) <|
  .seq (.region [] [⟨none,[aa 3 0,((some 4),.op (.arith .eql (.tmp 3) (.val (.val (.int .u8 95))))),aa 5 4]⟩,⟨(some (5,false)),[aa 6 0,((some 7),.op (.arith .or (.tmp 6) (.val (.val (.int .u8 32))))),((some 8),.op (.arith .geq (.tmp 7) (.val (.val (.int .u8 97))))),aa 9 8]⟩,⟨(some (9,true)),[aa 10 0,((some 11),.op (.arith .or (.tmp 10) (.val (.val (.int .u8 32))))),((some 12),.op (.arith .leq (.tmp 11) (.val (.val (.int .u8 122)))))]⟩,⟨(some (5,false)),[bI 13 9 12]⟩,⟨none,[bC 14 5 13,aa 2 14]⟩]) <|
  .ret,
  [.tmp 2],15⟩
theorem yw:bt Tryz.prog 135 []=some uI:=by kernel_rfl
def vO:DF:=⟨.seq (au [aW 2 false]) <|
  .seq (.region [] [⟨none,[aa 3 0,((some 4),.op (.arith .geq (.tmp 3) (.val (.val (.int .u8 32))))),aa 5 4]⟩,⟨(some (5,true)),[aa 6 0,((some 7),.op (.arith .leq (.tmp 6) (.val (.val (.int .u8 126)))))]⟩,⟨none,[bI 8 5 7,aa 9 8]⟩,⟨(some (9,true)),[aa 10 0,((some 11),.op (.arith .neq (.tmp 10) (.val (.val (.int .u8 39)))))]⟩,⟨none,[bI 12 9 11,aa 13 12]⟩,⟨(some (13,true)),[aa 14 0,((some 15),.op (.arith .neq (.tmp 14) (.val (.val (.int .u8 92)))))]⟩,⟨none,[bI 16 13 15,aa 2 16]⟩]) <|
  .ret,
  [.tmp 2],17⟩
theorem yL:bt Tryz.prog 235 []=some vO:=by kernel_rfl
def sT:DF:=⟨.seq (au [aW 2 false]) <|
  .seq (.region [] [⟨none,[aa 3 0,((some 4),.op (.arith .eql (.tmp 3) (.val (.val (.int .u8 110))))),aa 5 4]⟩,⟨(some (5,false)),[aa 6 0,((some 7),.op (.arith .eql (.tmp 6) (.val (.val (.int .u8 116)))))]⟩,⟨none,[bC 8 5 7,aa 9 8]⟩,⟨(some (9,false)),[aa 10 0,((some 11),.op (.arith .eql (.tmp 10) (.val (.val (.int .u8 92)))))]⟩,⟨none,[bC 12 9 11,aa 13 12]⟩,⟨(some (13,false)),[aa 14 0,((some 15),.op (.arith .eql (.tmp 14) (.val (.val (.int .u8 39)))))]⟩,⟨none,[bC 16 13 15,aa 2 16]⟩]) <|
  .ret,
  [.tmp 2],17⟩
theorem wL:bt Tryz.prog 236 []=some sT:=by kernel_rfl
def rm:List (FuncId × DF):=[(136,vx),(135,uI),(235,vO),(236,sT)]
theorem p8:pG Tryz.prog rm:=by
  intro p hp
  simp only[rm,List.mem_cons,List.not_mem_nil,or_false] at hp
  rcases hp with rfl | rfl | rfl | rfl
  · exact ⟨_,yR⟩
  · exact ⟨_,yw⟩
  · exact ⟨_,yL⟩
  · exact ⟨_,wL⟩
theorem E6 (P:Program):oR P (fun _ _ _=>none):=fun _ _ _ _ h=>by simp at h
def Mc (o:Option V) (b:Bool):Bool:=match o with
  | some (.val (.bool c))=>c == b
  | _=>false
theorem LS {o:Option V} {b:Bool} (h:Mc o b=true):o=some (gb b):=by
  unfold Mc at h
  split at h
  · rw[beq_iff_eq] at h; rw[h]
  · simp at h
noncomputable def tA (tab:List (FuncId × DF)) (f:FuncId) (p:Int→Bool):Bool:=(List.range 256).all fun c=>Mc (rG Tryz.prog tab (fun _ _ _=>none) f [gy (c:Int)]) (p (c:Int))
theorem sj {tab:List (FuncId × DF)} (ht:pG Tryz.prog tab) {f:FuncId} {p:Int→Bool} (h:tA tab f p=true) (c:Int) (h0:0≤c) (h1:c≤255):aE Tryz.prog f [gy c] (gb (p c)):=by
  have:=List.all_eq_true.1 h c.toNat (by simp; omega)
  rw[show ((c.toNat:Nat):Int)=c by omega] at this
  exact (og mixed ht (E6 _) (by intro v hv; simp at hv; subst hv; exact .val _) (LS this)).pure
def tH (c:Int):Bool:=decide (32≤c) && decide (c≤126) && c != 39 && c != 92
def yD (c:Int):Bool:=c == 110 || c == 116 || c == 92 || c == 39
theorem FV:tA rm 135 qV=true:=by kernel_rfl
theorem IE:tA rm 136 kD=true:=by kernel_rfl
theorem Gx:tA rm 235 tH=true:=by kernel_rfl
theorem Lj:tA rm 236 yD=true:=by kernel_rfl
theorem zX {s:ByteArray} {c:Int} (h:c∈dI s):0≤c∧c≤255:=by
  unfold dI at h
  obtain ⟨b,_,rfl⟩:=List.mem_map.1 h
  have:=b.toNat_lt
  omega
theorem G9 (s:ByteArray):er s=(dI s).map fun x=>[gy x]:=by simp[er,dI]
end Gv
