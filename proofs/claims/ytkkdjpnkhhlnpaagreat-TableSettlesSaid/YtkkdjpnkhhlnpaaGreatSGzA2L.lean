/-
  Part 12 of the proof: what the machine does and what the functions answer.
  Conditions: those that each lemma names.
-/
import Derived.Test.YtkkdjpnkhhlnpaaGreatSGzA2K
set_option linter.unusedSimpArgs false
set_option linter.unusedVariables false
set_option maxRecDepth 100000
namespace Gv
open Go Go.Proofs
def BP:Value→Value→Bool
  | .int k a,.int k' b=>decide (k=k') && decide (a=b)
  | .bool a,.bool b=>a == b
  | .string a,.string b=>ey a b
  | .pointer none,.pointer none=>true
  | _,_=>false
theorem FJ:∀ (a b:Value),BP a b=true→a=b:=by
  intro a b h
  unfold BP at h
  split at h
  · simp only[Bool.and_eq_true,decide_eq_true_eq] at h
    rw[h.1,h.2]
  · rename_i a b
    rw[show a=b by simpa using h]
  · rename_i a b
    obtain ⟨a⟩:=a
    obtain ⟨b⟩:=b
    simp only[ey,beq_iff_eq] at h
    rw[show a=b from Array.toList_inj.1 h]
  · rfl
  · simp at h
def sR (q:V→V→Bool):List V→List V→Bool
  | [],[]=>true
  | a :: l,b :: m=>q a b && sR q l m
  | _,_=>false
def Ay (q:V→V→Bool):List (List V)→List (List V)→Bool
  | [],[]=>true
  | a :: l,b :: m=>sR q a b && Ay q l m
  | _,_=>false
def xc:Nat→V→V→Bool
  | 0,_,_=>false
  | k+1,a,b=>match a,b with
    | .val x,.val y=>BP x y
    | .aS x,.aS y=>Ay (xc k) x y
    | .agg x,.agg y=>sR (xc k) x y
    | .bc x,.bc y=>sR (xc k) x y
    | _,_=>false
theorem o5 {q:V→V→Bool} (hq:∀ a b,q a b=true→a=b):∀ (l m:List V),sR q l m=true→l=m
  | [],[],_=>rfl
  | a :: l,b :: m,h=>by
    simp only[sR,Bool.and_eq_true] at h
    rw[hq a b h.1,o5 hq l m h.2]
  | [],_ :: _,h=>by simp[sR] at h
  | _ :: _,[],h=>by simp[sR] at h
theorem CJ {q:V→V→Bool} (hq:∀ a b,q a b=true→a=b):∀ (l m:List (List V)),Ay q l m=true→l=m
  | [],[],_=>rfl
  | a :: l,b :: m,h=>by
    simp only[Ay,Bool.and_eq_true] at h
    rw[o5 hq a b h.1,CJ hq l m h.2]
  | [],_ :: _,h=>by simp[Ay] at h
  | _ :: _,[],h=>by simp[Ay] at h
theorem yD:∀ (k:Nat) (a b:V),xc k a b=true→a=b
  | 0,_,_,h=>by simp[xc] at h
  | k+1,a,b,h=>by
    have ih:=yD k
    unfold xc at h
    split at h
    · rw[FJ _ _ h]
    · rw[CJ ih _ _ h]
    · rw[o5 ih _ _ h]
    · rw[o5 ih _ _ h]
    · simp at h
def mY:Nat→V→Bool
  | 0,_=>false
  | k+1,v=>match v with
    | .val _=>true
    | .emp _=>true
    | .cn=>true
    | .aS es=>es.all fun e=>e.all (mY k)
    | .agg cs=>cs.all (mY k)
    | .bc cs=>cs.all (mY k)
    | _=>false
theorem pI {q:V→Bool} {l:List V} (h:l.all q=true) {i:Nat} (hi:i < l.length):q (l.getD i .any)=true:=by
  have e:l.getD i .any=l[i]:=by simp[List.getD_eq_getElem?_getD,hi]
  rw[e]
  exact List.all_eq_true.1 h _ (List.getElem_mem _)
theorem tE:∀ (k:Nat) (v:V),mY k v=true→Tree v
  | 0,_,h=>by simp[mY] at h
  | k+1,v,h=>by
    have ih:=tE k
    unfold mY at h
    split at h
    · exact .val _
    · exact .emp _
    · exact .cn
    · rename_i es
      refine .aS _ fun i j hi hj=>ih _ ?_
      have e:es.getD i []=es[i]:=by simp[List.getD_eq_getElem?_getD,hi]
      have h1:=List.all_eq_true.1 h _ (List.getElem_mem hi)
      rw[e] at hj ⊢
      exact pI h1 hj
    · exact .agg _ fun i hi=>ih _ (pI h hi)
    · exact .bc _ fun i hi=>ih _ (pI h hi)
    · simp at h
noncomputable def pg (H:View):Nat→V→Option V
  | 0,_=>none
  | k+1,v=>match v with
    | .val x=>some (.val x)
    | .emp _=>some (.aS [])
    | .aS es=>match mY 60 (.aS es) with
      | true=>some (.aS es)
      | false=>none
    | .sl id off len _=>match H id with
      | .arr _ es=>match Nat.ble (off+len) es.length with
        | true=>(wv (pg H k) ((es.drop off).take len)).map .aS
        | false=>none
      | _=>none
    | .agg cs=>(ja (pg H k) cs).map .agg
    | .bc cs=>(ja (pg H k) cs).map .bc
    | _=>none
theorem vB (h:ay):∀ (k:Nat) (v t:V),pg h.view k v=some t→Fr h v t
  | 0,v,t,hf=>by simp[pg] at hf
  | k+1,v,t,hf=>by
    have ih:=vB h k
    simp only[pg] at hf
    split at hf
    · simp only[Option.some.injEq] at hf; subst hf; exact .tree _ (.val _)
    · simp only[Option.some.injEq] at hf; subst hf; exact .emp _
    · split at hf
      · rename_i ht
        simp only[Option.some.injEq] at hf; subst hf; exact .tree _ (tE _ _ ht)
      · simp at hf
    · rename_i id off len esz
      split at hf
      · rename_i z es hH
        split at hf
        · rename_i hle
          have hle:=Nat.le_of_ble_eq_true hle
          simp only[Option.map_eq_some_iff] at hf
          obtain ⟨es',he,rfl⟩:=hf
          obtain ⟨g1,g2⟩:=wi _ _ he
          have hlen:es'.length=len:=by rw[g1]; simp; omega
          have hg:∀ i,i < len→((es.drop off).take len).getD i []=es.getD (off+i) []:=fun i hi=>by
            simp[List.getD_eq_getElem?_getD,List.getElem?_take,hi]
          have g3:∀ i,i < len→ja (pg h.view k) (es.getD (off+i) [])=some (es'.getD i []):=fun i hi=>by
            rw[← hg i hi]; exact g2 i (by rw[← g1,hlen]; exact hi)
          exact .sl id off len esz z es es' hH hle hlen (fun i hi=>(dR _ _ (g3 i hi)).1) (fun i j hi hj=>ih _ _ ((dR _ _ (g3 i hi)).2 j (by rw[← (dR _ _ (g3 i hi)).1]; exact hj)))
        · simp at hf
      · simp at hf
    · simp only[Option.map_eq_some_iff] at hf
      obtain ⟨l,hl,rfl⟩:=hf
      obtain ⟨g1,g2⟩:=dR _ _ hl
      exact .agg _ _ g1 (fun i hi=>ih _ _ (g2 i hi))
    · simp only[Option.map_eq_some_iff] at hf
      obtain ⟨l,hl,rfl⟩:=hf
      obtain ⟨g1,g2⟩:=dR _ _ hl
      exact .bc _ _ g1 (fun i hi=>ih _ _ (g2 i hi))
    · simp at hf
theorem aA.seen {P:Program} {f:FuncId} {vs ts:List V} {t:V} (hc:aA P f ts t) (ht:∀ i,i < vs.length→Tree (vs.getD i .any)) (hl:ts.length=vs.length) (hfr:∀ i,i < vs.length→Fr [] (vs.getD i .any) (ts.getD i .any)):aA P f vs t:=by
  intro Z μ w xs hrel hz
  have hr0:dW Z (fun _=>none) w.heap (cat [] fun _=>.dead):=by
    rw[vA]
    exact ⟨fun _=>trivial,fun i j b o s o' s' _ h=>by simp at h,fun id b o s h=>by simp at h,hz,fun id b o s h=>by simp at h⟩
  have hno:∀ b,¬ eN (fun _=>none) b:=fun b ⟨_,_,_,h⟩=>by simp at h
  have hts:dm (fun b=>Z b∨eN (fun _=>none) b) μ w.heap ts xs:=⟨by rw[hl,hrel.1],fun i hi=>uk hr0 (hfr i (by omega)) (pX (hrel.2 i (by omega)) (ht i (by omega)))⟩
  refine (hc _ μ w xs hts (fun b hb=>hb.elim (hz b) (fun h=>absurd h (hno b)))).mono ?_
  rintro e w' ⟨x,Z',rfl,hv,hs,h1,h2,ho⟩
  exact ⟨x,Z',rfl,hv,hs,fun b hb=>h1 b (.inl hb),fun b hb=>(h2 b hb).elim (fun h=>h.elim .inl (fun h=>absurd h (hno b))) .inr,ho⟩
abbrev pz:=FuncId × List V × V × Bool
def pz.Ok (P:Program) (x:pz):Prop:=bO P x.1=true∧if x.2.2.2=true then aA P x.1 x.2.1 x.2.2.1 else (cF P x.1 x.2.1 x.2.2.1∨(aA P x.1 x.2.1 x.2.2.1∧te x.2.2.1))
noncomputable def F6 (g:FuncId) (vs:List V) (H:View) (x:pz):Bool:=Nat.beq x.1 g && (match x.2.2.2 with
  | true=>vs.all (mY 60) && (match ja (pg (fun _=>.dead) 60) vs with
    | some ts=>sR (xc 60) ts x.2.1
    | none=>false)
  | false=>match ja (pg H 60) vs with
    | some ts=>sR (xc 60) ts x.2.1
    | none=>false)
noncomputable def F5 (l:List pz):rZ:=fun g vs H=>(l.find? (F6 g vs H)).map fun x=>x.2.2.1
theorem EY {P:Program} {l:List pz} (hl:∀ x∈l,x.Ok P):mE P (F5 l):=by
  intro g vs H t h
  unfold F5 at h
  simp only[Option.map_eq_some_iff] at h
  obtain ⟨⟨f,ts,r,b⟩,hx,rfl⟩:=h
  obtain ⟨h1,h2⟩:=hl _ (List.mem_of_find?_eq_some hx)
  have hq:=List.find?_some hx
  simp only[F6,Bool.and_eq_true] at hq
  obtain ⟨hg,hq⟩:=hq
  have hg:=Nat.eq_of_beq_eq_true hg
  simp only at hg h1 h2 hq
  subst hg
  refine ⟨h1,?_⟩
  rintro h rfl
  cases b with
  | true =>
    simp only[Bool.and_eq_true] at hq
    obtain ⟨hq1,hq2⟩:=hq
    split at hq2
    · rename_i us hus
      obtain ⟨g1,g2⟩:=dR _ _ hus
      have:=o5 (yD 60) _ _ hq2
      subst this
      simp only[if_true] at h2
      exact bk.en (h2.seen (fun i hi=>tE _ _ (pI hq1 hi)) g1 fun i hi=>vB [] 60 _ _ (g2 i hi)) h
    · simp at hq2
  | false =>
    simp only at hq
    split at hq
    · rename_i us hus
      obtain ⟨g1,g2⟩:=dR _ _ hus
      have:=o5 (yD 60) _ _ hq
      subst this
      have hfr:=fun i hi=>vB h 60 _ _ (g2 i hi)
      simp only[Bool.false_eq_true,if_false] at h2
      rcases h2 with h2 | ⟨h2,h3⟩
      · exact bk.oD h2 g1 hfr
      · exact bk.borrow h2 h3 g1 hfr
    · simp at hq
def m9 (x:Int):Bool:=decide (-9223372036854775808≤x) && decide (x≤9223372036854775807)
theorem ki {x:Int} (h:m9 x=true):cU x:=by
  unfold m9 at h
  simp only[Bool.and_eq_true,decide_eq_true_eq] at h
  exact h
def okB (g:aE):Bool:=decide (g.az.length≤900) && decide (g.aK.length≤100) && decide (g.rules.length≤900) && m9 g.start && g.az.all (fun t=>m9 t.level && m9 t.assoc) && g.rules.all fun r=>m9 r.left && m9 r.prec && decide (r.right.length≤900) && r.right.all m9
theorem Eh {g:aE} (h:okB g=true):g.Ok∧g.Small:=by
  unfold okB at h
  simp only[Bool.and_eq_true,decide_eq_true_eq,List.all_eq_true] at h
  obtain ⟨⟨⟨⟨⟨h1,h2⟩,h3⟩,h4⟩,h5⟩,h6⟩:=h
  refine ⟨⟨by unfold bd; omega,by unfold bd; omega,by unfold bd; omega,ki h4,fun t ht=>⟨ki (h5 t ht).1,ki (h5 t ht).2⟩,fun r hr=>?_⟩,⟨by omega⟩⟩
  have:=h6 r hr
  exact ⟨ki this.1.1.1,ki this.1.1.2,by unfold bd; have:=this.1.2; omega,fun x hx=>ki (this.2 x hx)⟩
theorem ix:kz.Ok∧kz.Small:=Eh (by kernel_rfl)
end Gv
