/-
  Part 17 of the proof: what the machine does and what the functions answer.
  Conditions: those that each lemma names.
-/
import Derived.Test.YtomcjampldmjoaaGreatSGzVP
set_option linter.unusedSimpArgs false
set_option linter.unusedVariables false
set_option maxRecDepth 100000
namespace Gv
open Go Go.Proofs
def lg:SC :=
  .seq (.seq (al [ae 11 5,ae 12 0,aL 13 12,aR 14 .lss 11 13]) <|
  .cond (.tmp 14) (.skip) (.exit 0)) <|
  .seq (.block 1 (.seq (al [ae 17 0,ae 18 5,aP 19 1 17 18,ao 20 19,ae 21 1,ae 22 5,aP 23 1 21 22,ao 24 23,aN 25 17 [20,24],bZ 26 25]) <|
  .cond (.tmp 26) (.seq (al [aV 4 false]) <|
  .ret) (.skip))) <|
  al [ae 15 5,az 16 .add 15 1,ae 5 16]
def nq:SF:=⟨.seq (al [aV 4 false]) <|
  .seq (.seq (al [ae 6 0,aL 7 6,ae 8 1,aL 9 8,aR 10 .neq 7 9]) <|
  .cond (.tmp 10) (.seq (al [aV 4 false]) <|
  .ret) (.skip)) <|
  .seq (.seq (al [aH 5 0]) <|
  .block 0 (.loop lg)) <|
  .seq (al [aV 4 true]) <|
  .ret,
  [.tmp 4],27⟩
theorem sJ:aW Tryz.prog 33 []=some nq:=by kernel_rfl
theorem K0 (a b:List (List Int)) (ha:aM a) (hs:∀ w∈a,aM w):aD Tryz.prog 33 [cn a,cn b] (gb (a == b)):=by
  refine aD.val (by intro v hv; simp at hv; rcases hv with rfl | rfl <;> exact Ad _) fun H=>?_
  refine aA.of mixed sJ ?_
  unfold aM at ha
  simp (disch:=omega) only [↓wr,↓reduceIte,wq,ai,ah,ak,Nat.reduceEqDiff,Nat.reduceAdd,Nat.reduceLeDiff,reduceCtorEq,nq,cn]
  refine aq.ne (fun h=>?_) (fun h=>?_)
  · simp (disch:=omega) only [↓wr,↓reduceIte,wq,reduceCtorEq]
    rw[AF (by omega)]
  · simp (disch:=omega) only [↓wr,wq]
    refine bb.up a.length (fun i T H'=>a.take i=b.take i∧T 0=cn a∧T 1=cn b∧T 5=gi i) ⟨by simp,rfl,rfl,rfl⟩ ?_
    rintro i k T H' hk ⟨hi,h0,h1,h5⟩
    simp (disch:=omega) only [↓wr,↓reduceIte,wq,ah,ak,Nat.reduceEqDiff,reduceCtorEq,lg,h0,h5,cn]
    refine aq.dec (fun hc=>?_) (fun hc=>?_)
    · have h2:a[i]?=some (a[i]'(by omega)):=List.getElem?_eq_getElem (by omega)
      have h3:b[i]?=some (b[i]'(by omega)):=List.getElem?_eq_getElem (by omega)
      have hm:=List.mem_of_getElem? h2
      have hp:=Bn (a[i]'(by omega)) (b[i]'(by omega)) (hs _ hm)
      simp (disch:=omega) only [↓wr,↓reduceIte,wq,Nat.reduceEqDiff,Nat.reduceLT,reduceCtorEq,h0,h1,h5,cn,List.getElem?_map,h2,h3]
      refine aF.pure hp (by kernel_rfl) ?_
      simp (disch:=omega) only [↓wr,↓reduceIte,wq]
      refine aq.split (fun hd=>?_) (fun hd=>?_)
      · simp (disch:=omega) only [↓wr,↓reduceIte,wq,ah,Nat.reduceEqDiff,reduceCtorEq,h5]
        refine aK hk (by omega) ⟨?_,h0,h1,rfl⟩
        have hd:=eq_of_beq hd
        rw[List.take_add_one,List.take_add_one,hi,h2,h3,hd]
      · simp (disch:=omega) only [↓wr,↓reduceIte,wq,ah,Nat.reduceEqDiff,reduceCtorEq]
        have:(a == b)=false:=by
          simp only[beq_eq_false_iff_ne]
          rintro rfl
          simp at hd
        rw[this]
    · simp (disch:=omega) only [↓wr,↓reduceIte,wq,Nat.reduceEqDiff,reduceCtorEq]
      rw[List.take_of_length_le (by omega),List.take_of_length_le (by omega)] at hi
      rw[hi]; simp
def FZ:Value→Value→Bool
  | .int k a,.int k' b=>decide (k=k') && decide (a=b)
  | .bool a,.bool b=>a == b
  | .string a,.string b=>gA a b
  | .pointer none,.pointer none=>true
  | _,_=>false
theorem La:∀ (a b:Value),FZ a b=true→a=b:=by
  intro a b h
  unfold FZ at h
  split at h
  · simp only[Bool.and_eq_true,decide_eq_true_eq] at h
    rw[h.1,h.2]
  · rename_i a b
    rw[show a=b by simpa using h]
  · rename_i a b
    obtain ⟨a⟩:=a
    obtain ⟨b⟩:=b
    simp only[gA,beq_iff_eq] at h
    rw[show a=b from Array.toList_inj.1 h]
  · rfl
  · simp at h
def yl (q:V→V→Bool):List V→List V→Bool
  | [],[]=>true
  | a :: l,b :: m=>q a b && yl q l m
  | _,_=>false
def Fs (q:V→V→Bool):List (List V)→List (List V)→Bool
  | [],[]=>true
  | a :: l,b :: m=>yl q a b && Fs q l m
  | _,_=>false
def Cn:Nat→V→V→Bool
  | 0,_,_=>false
  | k+1,a,b=>match a,b with
    | .val x,.val y=>FZ x y
    | .aY x,.aY y=>Fs (Cn k) x y
    | .agg x,.agg y=>yl (Cn k) x y
    | .bo x,.bo y=>yl (Cn k) x y
    | _,_=>false
theorem sV {q:V→V→Bool} (hq:∀ a b,q a b=true→a=b):∀ (l m:List V),yl q l m=true→l=m
  | [],[],_=>rfl
  | a :: l,b :: m,h=>by
    simp only[yl,Bool.and_eq_true] at h
    rw[hq a b h.1,sV hq l m h.2]
  | [],_ :: _,h=>by simp[yl] at h
  | _ :: _,[],h=>by simp[yl] at h
theorem HT {q:V→V→Bool} (hq:∀ a b,q a b=true→a=b):∀ (l m:List (List V)),Fs q l m=true→l=m
  | [],[],_=>rfl
  | a :: l,b :: m,h=>by
    simp only[Fs,Bool.and_eq_true] at h
    rw[sV hq a b h.1,HT hq l m h.2]
  | [],_ :: _,h=>by simp[Fs] at h
  | _ :: _,[],h=>by simp[Fs] at h
theorem Du:∀ (k:Nat) (a b:V),Cn k a b=true→a=b
  | 0,_,_,h=>by simp[Cn] at h
  | k+1,a,b,h=>by
    have ih:=Du k
    unfold Cn at h
    split at h
    · rw[La _ _ h]
    · rw[HT ih _ _ h]
    · rw[sV ih _ _ h]
    · rw[sV ih _ _ h]
    · simp at h
def rZ:Nat→V→Bool
  | 0,_=>false
  | k+1,v=>match v with
    | .val _=>true
    | .emp _=>true
    | .dD=>true
    | .aY es=>es.all fun e=>e.all (rZ k)
    | .agg cs=>cs.all (rZ k)
    | .bo cs=>cs.all (rZ k)
    | _=>false
theorem uc {q:V→Bool} {l:List V} (h:l.all q=true) {i:Nat} (hi:i < l.length):q (l.getD i .any)=true:=by
  have e:l.getD i .any=l[i]:=by simp[List.getD_eq_getElem?_getD,hi]
  rw[e]
  exact List.all_eq_true.1 h _ (List.getElem_mem _)
theorem yB:∀ (k:Nat) (v:V),rZ k v=true→Tree v
  | 0,_,h=>by simp[rZ] at h
  | k+1,v,h=>by
    have ih:=yB k
    unfold rZ at h
    split at h
    · exact .val _
    · exact .emp _
    · exact .dD
    · rename_i es
      refine .aY _ fun i j hi hj=>ih _ ?_
      have e:es.getD i []=es[i]:=by simp[List.getD_eq_getElem?_getD,hi]
      have h1:=List.all_eq_true.1 h _ (List.getElem_mem hi)
      rw[e] at hj ⊢
      exact uc h1 hj
    · exact .agg _ fun i hi=>ih _ (uc h hi)
    · exact .bo _ fun i hi=>ih _ (uc h hi)
    · simp at h
noncomputable def uD (H:View):Nat→V→Option V
  | 0,_=>none
  | k+1,v=>match v with
    | .val x=>some (.val x)
    | .emp _=>some (.aY [])
    | .aY es=>match rZ 60 (.aY es) with
      | true=>some (.aY es)
      | false=>none
    | .sl id off len _=>match H id with
      | .arr _ es=>match Nat.ble (off+len) es.length with
        | true=>(Bu (uD H k) ((es.drop off).take len)).map .aY
        | false=>none
      | _=>none
    | .agg cs=>(mG (uD H k) cs).map .agg
    | .bo cs=>(mG (uD H k) cs).map .bo
    | _=>none
theorem Bb (h:aE):∀ (k:Nat) (v t:V),uD h.view k v=some t→Fr h v t
  | 0,v,t,hf=>by simp[uD] at hf
  | k+1,v,t,hf=>by
    have ih:=Bb h k
    simp only[uD] at hf
    split at hf
    · simp only[Option.some.injEq] at hf; subst hf; exact .tree _ (.val _)
    · simp only[Option.some.injEq] at hf; subst hf; exact .emp _
    · split at hf
      · rename_i ht
        simp only[Option.some.injEq] at hf; subst hf; exact .tree _ (yB _ _ ht)
      · simp at hf
    · rename_i id off len esz
      split at hf
      · rename_i z es hH
        split at hf
        · rename_i hle
          have hle:=Nat.le_of_ble_eq_true hle
          simp only[Option.map_eq_some_iff] at hf
          obtain ⟨es',he,rfl⟩:=hf
          obtain ⟨g1,g2⟩:=Bd _ _ he
          have hlen:es'.length=len:=by rw[g1]; simp; omega
          have hg:∀ i,i < len→((es.drop off).take len).getD i []=es.getD (off+i) []:=fun i hi=>by
            simp[List.getD_eq_getElem?_getD,hi]
          have g3:∀ i,i < len→mG (uD h.view k) (es.getD (off+i) [])=some (es'.getD i []):=fun i hi=>by
            rw[← hg i hi]; exact g2 i (by rw[← g1,hlen]; exact hi)
          exact .sl id off len esz z es es' hH hle hlen (fun i hi=>(fV _ _ (g3 i hi)).1) (fun i j hi hj=>ih _ _ ((fV _ _ (g3 i hi)).2 j (by rw[← (fV _ _ (g3 i hi)).1]; exact hj)))
        · simp at hf
      · simp at hf
    · simp only[Option.map_eq_some_iff] at hf
      obtain ⟨l,hl,rfl⟩:=hf
      obtain ⟨g1,g2⟩:=fV _ _ hl
      exact .agg _ _ g1 (fun i hi=>ih _ _ (g2 i hi))
    · simp only[Option.map_eq_some_iff] at hf
      obtain ⟨l,hl,rfl⟩:=hf
      obtain ⟨g1,g2⟩:=fV _ _ hl
      exact .bo _ _ g1 (fun i hi=>ih _ _ (g2 i hi))
    · simp at hf
theorem aD.seen {P:Program} {f:FuncId} {vs ts:List V} {t:V} (hc:aD P f ts t) (ht:∀ i,i < vs.length→Tree (vs.getD i .any)) (hl:ts.length=vs.length) (hfr:∀ i,i < vs.length→Fr [] (vs.getD i .any) (ts.getD i .any)):aD P f vs t:=by
  intro Z μ w xs hrel hz
  have hr0:gf Z (fun _=>none) w.heap (cat [] fun _=>.dead):=by
    rw[AH]
    exact ⟨fun _=>trivial,fun i j b o s o' s' _ h=>by simp at h,fun id b o s h=>by simp at h,hz,fun id b o s h=>by simp at h⟩
  have hno:∀ b,¬ gP (fun _=>none) b:=fun b ⟨_,_,_,h⟩=>by simp at h
  have hts:dZ (fun b=>Z b∨gP (fun _=>none) b) μ w.heap ts xs:=⟨by rw[hl,hrel.1],fun i hi=>zM hr0 (hfr i (by omega)) (tZ (hrel.2 i (by omega)) (ht i (by omega)))⟩
  refine (hc _ μ w xs hts (fun b hb=>hb.elim (hz b) (fun h=>absurd h (hno b)))).mono ?_
  rintro e w' ⟨x,Z',rfl,hv,hs,h1,h2,ho⟩
  exact ⟨x,Z',rfl,hv,hs,fun b hb=>h1 b (.inl hb),fun b hb=>(h2 b hb).elim (fun h=>h.elim .inl (fun h=>absurd h (hno b))) .inr,ho⟩
abbrev By:=FuncId × List V × V × Bool
def By.Ok (P:Program) (x:By):Prop:=cX P x.1=true∧if x.2.2.2=true then aD P x.1 x.2.1 x.2.2.1 else (cd P x.1 x.2.1 x.2.2.1∨(aD P x.1 x.2.1 x.2.2.1∧yC x.2.2.1))
noncomputable def LU (g:FuncId) (vs:List V) (H:View) (x:By):Bool:=Nat.beq x.1 g && (match x.2.2.2 with
  | true=>vs.all (rZ 60) && (match mG (uD (fun _=>.dead) 60) vs with
    | some ts=>yl (Cn 60) ts x.2.1
    | none=>false)
  | false=>match mG (uD H 60) vs with
    | some ts=>yl (Cn 60) ts x.2.1
    | none=>false)
noncomputable def L6 (l:List By):wU:=fun g vs H=>(l.find? (LU g vs H)).map fun x=>x.2.2.1
theorem Lq {P:Program} {l:List By} (hl:∀ x∈l,x.Ok P):qQ P (L6 l):=by
  intro g vs H t h
  unfold L6 at h
  simp only[Option.map_eq_some_iff] at h
  obtain ⟨⟨f,ts,r,b⟩,hx,rfl⟩:=h
  obtain ⟨h1,h2⟩:=hl _ (List.mem_of_find?_eq_some hx)
  have hq:=List.find?_some hx
  simp only[LU,Bool.and_eq_true] at hq
  obtain ⟨hg,hq⟩:=hq
  have hg:=Nat.eq_of_beq_eq_true hg
  simp only at hg h1 h2 hq
  subst hg
  refine ⟨h1,?_⟩
  rintro h rfl
  cases b with
  | true =>
    simp only[Bool.and_eq_true] at hq
    obtain ⟨hq1,hq2⟩:=hq
    split at hq2
    · rename_i us hus
      obtain ⟨g1,g2⟩:=fV _ _ hus
      have:=sV (Du 60) _ _ hq2
      subst this
      simp only[if_true] at h2
      exact bT.gv (h2.seen (fun i hi=>yB _ _ (uc hq1 hi)) g1 fun i hi=>Bb [] 60 _ _ (g2 i hi)) h
    · simp at hq2
  | false =>
    simp only at hq
    split at hq
    · rename_i us hus
      obtain ⟨g1,g2⟩:=fV _ _ hus
      have:=sV (Du 60) _ _ hq
      subst this
      have hfr:=fun i hi=>Bb h 60 _ _ (g2 i hi)
      simp only[Bool.false_eq_true,if_false] at h2
      rcases h2 with h2 | ⟨h2,h3⟩
      · exact bT.s7 h2 g1 hfr
      · exact bT.borrow h2 h3 g1 hfr
    · simp at hq
def rS (x:Int):Bool:=decide (-9223372036854775808≤x) && decide (x≤9223372036854775807)
theorem nU {x:Int} (h:rS x=true):bW x:=by
  unfold rS at h
  simp only[Bool.and_eq_true,decide_eq_true_eq] at h
  exact h
def okB (g:an):Bool:=decide (g.ax.length≤900) && decide (g.av.length≤100) && decide (g.rules.length≤900) && rS g.start && g.ax.all (fun t=>rS t.level && rS t.assoc) && g.rules.all fun r=>rS r.left && rS r.prec && decide (r.right.length≤900) && r.right.all rS
theorem I0 {g:an} (h:okB g=true):g.Ok∧g.Small:=by
  unfold okB at h
  simp only[Bool.and_eq_true,decide_eq_true_eq,List.all_eq_true] at h
  obtain ⟨⟨⟨⟨⟨h1,h2⟩,h3⟩,h4⟩,h5⟩,h6⟩:=h
  refine ⟨⟨by unfold aM; omega,by unfold aM; omega,by unfold aM; omega,nU h4,fun t ht=>⟨nU (h5 t ht).1,nU (h5 t ht).2⟩,fun r hr=>?_⟩,⟨by omega⟩⟩
  have:=h6 r hr
  exact ⟨nU this.1.1.1,nU this.1.1.2,by unfold aM; have:=this.1.2; omega,fun x hx=>nU (this.2 x hx)⟩
def LW:List Int:=[37,37,32,115,32,58,32,39,120,39,32,116,32,117,32,124,32,39,113,39,32,59,32,116,32,58,32,39,97,39,32,124,32,39,116,39,32,118,32,59,32,117,32,58,32,39,117,39,32,59,32,118,32,58,32,39,118,39,32,124,32,39,119,39,32,59]
def iq:an:=⟨[⟨⟨#[39,120,39]⟩,0,0⟩,⟨⟨#[39,113,39]⟩,0,0⟩,⟨⟨#[39,97,39]⟩,0,0⟩,⟨⟨#[39,116,39]⟩,0,0⟩,⟨⟨#[39,117,39]⟩,0,0⟩,⟨⟨#[39,118,39]⟩,0,0⟩,⟨⟨#[39,119,39]⟩,0,0⟩],[⟨#[115]⟩,⟨#[116]⟩,⟨#[117]⟩,⟨#[118]⟩],[⟨0,[0,-2,-3],0⟩,⟨0,[1],1⟩,⟨1,[2],2⟩,⟨1,[3,-4],3⟩,⟨2,[4],4⟩,⟨3,[5],5⟩,⟨3,[6],6⟩],0⟩
theorem PM:cd Tryz.prog 41 [yF LW] (qn iq):=FD (by kernel_rfl)
theorem nO:iq.Ok∧iq.Small:=I0 (by kernel_rfl)
theorem Ce:p0.Ok∧p0.Small:=I0 (by kernel_rfl)
theorem HV {g:an} (hg:∀ r∈g.rules,r.right.length≤6) (t:List Int):(iY g t).1.length≤1+6 * t.length:=by
  unfold iY eF
  split
  · rename_i x h
    split at h
    · cases hx:bF g t.length [-1 - g.start] t with
      | none=>rw[hx] at h; simp at h
      | some y =>
        rw[hx] at h
        simp only at h
        split at h
        · simp only[Option.some.injEq] at h
          subst h
          have:=(qa hg _ _ _ _ hx).2.2.1
          simp at this ⊢; omega
        · simp at h
    · simp at h
  · simp
theorem yk {g:an} (hr:bp g=true) {i:Int} {t:List Int} (h:eD g i=(t,true)) (ht:t.length≤9):dT g i=(t,0):=by
  have:=HV (aZ hr).right t
  rw[dT,h]
  simp only[Bool.true_eq_false,if_false]
  rw[if_neg (by omega)]
theorem OS:iJ p0=([[0,1]],0):=by
  have h0:dT p0 0=([0,1],0):=yk (by kernel_rfl) (by kernel_rfl) (by decide)
  rw[iJ,if_pos (by kernel_rfl),show p0.rules.length=2 from rfl,bP,bP,bP]
  simp[h0]
theorem PQ:ov iq 6=([0,3,6,4],0):=by
  rw[ov,if_pos (by kernel_rfl)]
  exact yk (by kernel_rfl) (by kernel_rfl) (by decide)
theorem OB:ov iq 7=([],1):=by rw[ov,if_neg (by rw[show (isRed iq && decide (0≤(7:Int)) && decide ((7:Int) < iq.rules.length))=false by kernel_rfl]; simp)]
theorem OP:iJ q6=([],1):=by rw[iJ,if_neg (by rw[show isRed q6=false by kernel_rfl]; simp)]
def ng:DF:=⟨.seq (ay [aV 0 false]) <|
  .seq (ay [((some 16),.op (.bJ 16 1 [(.val (.int .u8 0))] [(0,(.val (.val (.int .u8 37)))),(1,(.val (.val (.int .u8 37)))),(2,(.val (.val (.int .u8 32)))),(3,(.val (.val (.int .u8 115)))),(4,(.val (.val (.int .u8 32)))),(5,(.val (.val (.int .u8 58)))),(6,(.val (.val (.int .u8 32)))),(7,(.val (.val (.int .u8 39)))),(8,(.val (.val (.int .u8 97)))),(9,(.val (.val (.int .u8 39)))),(10,(.val (.val (.int .u8 32)))),(11,(.val (.val (.int .u8 115)))),(12,(.val (.val (.int .u8 32)))),(13,(.val (.val (.int .u8 124)))),(14,(.val (.val (.int .u8 32)))),(15,(.val (.val (.int .u8 59))))])),((some 17),.op (.old (.convert 73 73 (.tmp 16)) 73)),aN 18 41 [17],ae 15 18,bY 19 0 15,bY 20 1 15,bY 21 2 15,((some 1),.op (.alloc [(.emp 1),(.emp 1),(.emp 1),(.val (.int .i64 0))])),(none,.op (.store 4 (.tmp 1) (.tmp 19))),ae 2 20,ae 3 21]) <|
  .seq (ay [((some 23),.op (.bJ 66 1 [(.val (.int .u8 0))] [(0,(.val (.val (.int .u8 37)))),(1,(.val (.val (.int .u8 37)))),(2,(.val (.val (.int .u8 32)))),(3,(.val (.val (.int .u8 115)))),(4,(.val (.val (.int .u8 32)))),(5,(.val (.val (.int .u8 58)))),(6,(.val (.val (.int .u8 32)))),(7,(.val (.val (.int .u8 39)))),(8,(.val (.val (.int .u8 120)))),(9,(.val (.val (.int .u8 39)))),(10,(.val (.val (.int .u8 32)))),(11,(.val (.val (.int .u8 116)))),(12,(.val (.val (.int .u8 32)))),(13,(.val (.val (.int .u8 117)))),(14,(.val (.val (.int .u8 32)))),(15,(.val (.val (.int .u8 124)))),(16,(.val (.val (.int .u8 32)))),(17,(.val (.val (.int .u8 39)))),(18,(.val (.val (.int .u8 113)))),(19,(.val (.val (.int .u8 39)))),(20,(.val (.val (.int .u8 32)))),(21,(.val (.val (.int .u8 59)))),(22,(.val (.val (.int .u8 32)))),(23,(.val (.val (.int .u8 116)))),(24,(.val (.val (.int .u8 32)))),(25,(.val (.val (.int .u8 58)))),(26,(.val (.val (.int .u8 32)))),(27,(.val (.val (.int .u8 39)))),(28,(.val (.val (.int .u8 97)))),(29,(.val (.val (.int .u8 39)))),(30,(.val (.val (.int .u8 32)))),(31,(.val (.val (.int .u8 124)))),(32,(.val (.val (.int .u8 32)))),(33,(.val (.val (.int .u8 39)))),(34,(.val (.val (.int .u8 116)))),(35,(.val (.val (.int .u8 39)))),(36,(.val (.val (.int .u8 32)))),(37,(.val (.val (.int .u8 118)))),(38,(.val (.val (.int .u8 32)))),(39,(.val (.val (.int .u8 59)))),(40,(.val (.val (.int .u8 32)))),(41,(.val (.val (.int .u8 117)))),(42,(.val (.val (.int .u8 32)))),(43,(.val (.val (.int .u8 58)))),(44,(.val (.val (.int .u8 32)))),(45,(.val (.val (.int .u8 39)))),(46,(.val (.val (.int .u8 117)))),(47,(.val (.val (.int .u8 39)))),(48,(.val (.val (.int .u8 32)))),(49,(.val (.val (.int .u8 59)))),(50,(.val (.val (.int .u8 32)))),(51,(.val (.val (.int .u8 118)))),(52,(.val (.val (.int .u8 32)))),(53,(.val (.val (.int .u8 58)))),(54,(.val (.val (.int .u8 32)))),(55,(.val (.val (.int .u8 39)))),(56,(.val (.val (.int .u8 118)))),(57,(.val (.val (.int .u8 39)))),(58,(.val (.val (.int .u8 32)))),(59,(.val (.val (.int .u8 124)))),(60,(.val (.val (.int .u8 32)))),(61,(.val (.val (.int .u8 39)))),(62,(.val (.val (.int .u8 119)))),(63,(.val (.val (.int .u8 39)))),(64,(.val (.val (.int .u8 32)))),(65,(.val (.val (.int .u8 59))))])),((some 24),.op (.old (.convert 73 73 (.tmp 23)) 73)),aN 25 41 [24],ae 22 25,bY 26 0 22,bY 27 1 22,bY 28 2 22,((some 4),.op (.alloc [(.emp 1),(.emp 1),(.emp 1),(.val (.int .i64 0))])),(none,.op (.store 4 (.tmp 4) (.tmp 26))),ae 5 27,ae 6 28]) <|
  .seq (ay [aU 30 4 1,aN 31 31 [30],ae 29 31,bY 32 0 29,bY 33 1 29,ae 7 32,ae 8 33]) <|
  .seq (ay [aU 35 4 4,cT 36 28 [(.tmp 35),(.val (.val (.int .i64 6)))],ae 34 36,bY 37 0 34,bY 38 1 34,ae 9 37,ae 10 38]) <|
  .seq (ay [aU 40 4 4,cT 41 28 [(.tmp 40),(.val (.val (.int .i64 7)))],ae 39 41,bY 42 0 39,bY 43 1 39,ae 11 42,ae 12 43]) <|
  .seq (ay [((some 45),.op (.build [(.emp 1),(.emp 1),(.emp 1),(.val (.int .i64 0))] [])),aN 46 31 [45],ae 44 46,bY 47 0 44,bY 48 1 44,ae 13 47,ae 14 48]) <|
  .seq (.region [] [⟨none,[ae 49 8,az 50 .eql 49 0,ae 51 50]⟩,⟨(some (51,true)),[ae 52 10,az 53 .eql 52 0]⟩,⟨none,[bO 54 51 53,ae 55 54]⟩,⟨(some (55,true)),[ae 56 12,az 57 .eql 56 1]⟩,⟨none,[bO 58 55 57,ae 59 58]⟩,⟨(some (59,true)),[ae 60 14,az 61 .eql 60 1]⟩,⟨none,[bO 62 59 61,ae 63 62]⟩,⟨(some (63,true)),[ae 64 7,((some 65),.op (.bJ 2 1 [(.val (.int .i64 0))] [(0,(.val (.val (.int .i64 0)))),(1,(.val (.val (.int .i64 1))))])),((some 66),.op (.bJ 1 1 [(.emp 1)] [(0,(.tmp 65))])),aN 67 33 [64,66]]⟩,⟨none,[bO 68 63 67,ae 69 68]⟩,⟨(some (69,true)),[ae 70 9,((some 71),.op (.bJ 4 1 [(.val (.int .i64 0))] [(0,(.val (.val (.int .i64 0)))),(1,(.val (.val (.int .i64 3)))),(2,(.val (.val (.int .i64 6)))),(3,(.val (.val (.int .i64 4))))])),aN 72 17 [70,71]]⟩,⟨none,[bO 73 69 72,ae 74 73]⟩,⟨(some (74,true)),[aU 75 4 4,ae 76 9,((some 77),.op (.bJ 1 1 [(.val (.int .i64 0))] [(0,(.val (.val (.int .i64 9))))])),((some 78),.op (.bJ 2 1 [(.emp 1)] [(0,(.tmp 76)),(1,(.tmp 77))])),aN 79 36 [75,78],((some 80),.op (.bJ 7 1 [(.val (.bool false))] [(0,(.val (.val (.bool true)))),(1,(.val (.val (.bool false)))),(2,(.val (.val (.bool false)))),(3,(.val (.val (.bool true)))),(4,(.val (.val (.bool true)))),(5,(.val (.val (.bool false)))),(6,(.val (.val (.bool true))))])),aN 81 35 [79,80]]⟩,⟨none,[bO 82 74 81,ae 0 82]⟩]) <|
  .ret,
  [.tmp 0],83⟩
theorem sO:bH Tryz.prog 27 []=some ng:=by kernel_rfl
def Fk:List (FuncId × DF):=[(27,ng)]
theorem FL:r6 Tryz.prog Fk:=by
  intro p hp
  simp only[Fk,List.mem_cons,List.not_mem_nil,or_false] at hp
  rcases hp with rfl
  · exact ⟨_,sO⟩
def LP:List By:=[(41,[yF L9],qn p0,false),(41,[yF LW],qn iq,false),
  (31,[.agg (ar p0)],r9 ([[0,1]],0),true),(28,[.agg (ar iq),gi 6],kX ([0,3,6,4],0),true),(28,[.agg (ar iq),gi 7],kX ([],1),true),(31,[.agg (ar q6)],r9 ([],1),true),
  (33,[cn [[0,1]],cn [[0,1]]],gb true,false),(17,[encI [0,3,6,4],encI [0,3,6,4]],gb true,false),
  (36,[.agg (ar iq),cn [[0,3,6,4],[9]]],bw [true,false,false,true,true,false,true],false),(35,[bw [true,false,false,true,true,false,true],bw [true,false,false,true,true,false,true]],gb true,false)]
theorem Ly:∀ x∈LP,x.Ok Tryz.prog:=by
  intro x hx
  simp only[LP,List.mem_cons,List.not_mem_nil,or_false] at hx
  have sl:∀ l:List Int,l.length≤100→aM l:=fun l h=>by unfold aM; omega
  rcases hx with rfl | rfl | rfl | rfl | rfl | rfl | rfl | rfl | rfl | rfl
  · exact ⟨by kernel_rfl,.inl PL⟩
  · exact ⟨by kernel_rfl,.inl PM⟩
  · exact ⟨by kernel_rfl,OS ▸ xd p0 Ce.1 Ce.2⟩
  · exact ⟨by kernel_rfl,PQ ▸ xW iq nO.1 nO.2 6 (by unfold bW; omega)⟩
  · exact ⟨by kernel_rfl,OB ▸ xW iq nO.1 nO.2 7 (by unfold bW; omega)⟩
  · exact ⟨by kernel_rfl,OP ▸ xd q6 Pr ⟨by decide⟩⟩
  · exact ⟨by kernel_rfl,.inr ⟨K0 [[0,1]] [[0,1]] (by unfold aM; decide) (by intro w hw; simp at hw; subst hw; exact sl _ (by decide)),.val _⟩⟩
  · exact ⟨by kernel_rfl,.inr ⟨Bn [0,3,6,4] [0,3,6,4] (sl _ (by decide)),.val _⟩⟩
  · exact ⟨by kernel_rfl,.inl ((show AD iq [[0,3,6,4],[9]]=[true,false,false,true,true,false,true] by kernel_rfl) ▸ J1 iq nO.1 nO.2 [[0,3,6,4],[9]] (by unfold aM; decide) (by intro w hw; simp at hw; rcases hw with rfl | rfl <;> exact sl _ (by decide)))⟩
  · exact ⟨by kernel_rfl,.inr ⟨KN [true,false,false,true,true,false,true] [true,false,false,true,true,false,true] (by unfold aM; decide),.val _⟩⟩
theorem Gx:aD Tryz.prog 27 [] (gb true) :=
  (pX mixed FL (Lq Ly) (by simp) (by kernel_rfl)).pure
def gg:SC :=
  .seq (.seq (al [ae 72 11,ae 73 3,ae 74 6,aP 75 1 73 74,ao 76 75,aL 77 76,aR 78 .lss 72 77]) <|
  .cond (.tmp 78) (.skip) (.exit 2)) <|
  .seq (.block 3 (al [ae 81 5,ae 82 3,ae 83 6,aP 84 1 82 83,ao 85 84,ae 86 11,aP 87 1 85 86,ao 88 87,aP 89 1 81 88,(none,.op (.store 1 (.tmp 89) (.val (.val (.bool true)))))])) <|
  al [ae 79 11,az 80 .add 79 1,ae 11 80]
def jw:SC :=
  .seq (.seq (al [ae 39 6,ae 40 3,aL 41 40,aR 42 .lss 39 41]) <|
  .cond (.tmp 42) (.skip) (.exit 0)) <|
  .seq (.block 1 (.seq (al [aU 46 4 1,ae 47 3,ae 48 6,aP 49 1 47 48,ao 50 49,aN 51 39 [46,50],ae 45 51,bY 52 0 45,bY 53 1 45,ae 7 52,ae 8 53]) <|
  .seq (.seq (.region false [⟨none,[ae 54 8,az 55 .neq 54 0,ae 56 55]⟩,⟨(some (56,false)),[ae 57 7,aL 58 57,az 59 .gtr 58 60]⟩,⟨none,[bC 60 56 59]⟩]) <|
  .cond (.tmp 60) (.seq (al [aV 2 false]) <|
  .ret) (.skip)) <|
  .seq (.seq (al [ae 61 7,aL 62 61,az 63 .leq 62 10]) <|
  .cond (.tmp 63) (.seq (al [aU 65 4 1,ae 66 7,aN 67 40 [65,66],ae 64 67,bY 68 0 64,bY 69 1 64,ae 9 68,ae 10 69]) <|
  .seq (al [ae 70 9,bZ 71 70]) <|
  .cond (.tmp 71) (.seq (al [aV 2 false]) <|
  .ret) (.skip)) (.skip)) <|
  .seq (al [aH 11 0]) <|
  .block 2 (.loop gg))) <|
  al [ae 43 6,az 44 .add 43 1,ae 6 44]
def jt:SC :=
  .seq (.seq (al [ae 90 12,ae 91 5,aL 92 91,aR 93 .lss 90 92]) <|
  .cond (.tmp 93) (.skip) (.exit 4)) <|
  .seq (.block 5 (.seq (al [ae 96 5,ae 97 12,aP 98 1 96 97,ao 99 98,bZ 100 99]) <|
  .cond (.tmp 100) (.seq (al [aV 2 false]) <|
  .ret) (.skip))) <|
  al [ae 94 12,az 95 .add 94 1,ae 12 95]
def kI:SF:=⟨.seq (al [cM 1 0,aV 2 false]) <|
  .seq (.seq (al [aN 13 27 [],bZ 14 13]) <|
  .cond (.tmp 14) (.seq (al [aV 2 false]) <|
  .ret) (.skip)) <|
  .seq (.seq (al [aU 15 4 1,aN 16 12 [15]]) <|
  .cond (.tmp 16) (.seq (al [aV 2 true]) <|
  .ret) (.skip)) <|
  .seq (al [aU 18 4 1,aN 19 31 [18],ae 17 19,bY 20 0 17,bY 21 1 17,ae 3 20,ae 4 21]) <|
  .seq (.seq (al [ae 22 4,az 23 .neq 22 0]) <|
  .cond (.tmp 23) (.seq (.region false [⟨none,[ae 24 3,aL 25 24,az 26 .eql 25 0,ae 27 26]⟩,⟨(some (27,true)),[ae 28 4,az 29 .eql 28 1,aU 30 4 1,aN 31 38 [30],bZ 32 31,((some 33),.op (.beq true (.tmp 29) (.tmp 32)))]⟩,⟨none,[bO 34 27 33,ae 2 34]⟩]) <|
  .ret) (.skip)) <|
  .seq (al [au 35 2 1,ao 36 35,aL 37 36,((some 38),.op (.make 1 1 [(.val (.bool false))] (.tmp 37) (.tmp 37))),ae 5 38]) <|
  .seq (.seq (al [aH 6 0]) <|
  .block 0 (.loop jw)) <|
  .seq (.seq (al [aH 12 0]) <|
  .block 4 (.loop jt)) <|
  .seq (al [ae 101 3,aL 102 101,au 103 2 1,ao 104 103,aL 105 104,aR 106 .leq 102 105,ae 2 106]) <|
  .ret,
  [.tmp 2],107⟩
theorem p9:aW Tryz.prog 10 [1]=some kI:=by kernel_rfl
set_option maxHeartbeats 8000000 in
theorem E1 (g:an) (hg:g.Ok):aD Tryz.prog 10 [.agg (ar g)] (gb true):=by
  refine aD.val (eA g) fun H=>?_
  refine aA.of mixed p9 ?_
  simp (disch:=omega) only [↓wr,wq,ai,Nat.reduceLeDiff,kI,ar,encS]
  refine aF.pure Gx (by kernel_rfl) ?_
  simp (disch:=omega) only [↓wr,↓reduceIte,wq,Nat.reduceEqDiff,Nat.reduceAdd,Nat.reduceLeDiff]
  refine aF.pure (KK g) (by kernel_rfl) ?_
  simp (disch:=omega) only [↓wr,↓reduceIte,wq]
  refine aq.split (fun e=>?_) (fun e=>?_)
  · simp (disch:=omega) only [↓wr,↓reduceIte,wq,reduceCtorEq]
  have hs:g.Small:=EL e
  have h1:=xd g hg hs
  have hIs:=Ps g hg
  by_cases hr:isRed g=true
  rotate_left
  · have ht:iJ g=([],1):=by rw[iJ,if_neg hr]
    rw[ht] at h1
    rw[show isRed g=false by simpa using hr] at hIs
    simp only[ar,encS] at h1 hIs
    simp (disch:=omega) only [↓wr,↓reduceIte,wq,Nat.reduceEqDiff,Nat.reduceAdd,Nat.reduceLeDiff]
    refine aF.pure h1 (by kernel_rfl) ?_
    simp (disch:=omega) only [↓wr,↓reduceIte,wq,ah,Nat.reduceEqDiff,Nat.reduceAdd,Nat.reduceLT,r9,cn]
    refine aq.ne (fun _=>?_) (fun h=>absurd h (by decide))
    simp (disch:=omega) only [↓wr,↓reduceIte,wq,ah,ak,Nat.reduceEqDiff]
    refine aq.eq (fun _=>?_) (fun h=>absurd rfl h)
    simp (disch:=omega) only [↓wr,↓reduceIte,wq,ah,Nat.reduceEqDiff,Nat.reduceAdd,Nat.reduceLeDiff]
    refine aF.pure hIs (by kernel_rfl) ?_
    simp (disch:=omega) only [↓wr,↓reduceIte,wq,Nat.reduceEqDiff,reduceCtorEq]
    rfl
  have hrr:=(iv hr).1
  have hf:=aZ hrr
  have et:iJ g=bP g g.rules.length:=by rw[iJ,if_pos hr]
  obtain ⟨a1,a2,a3,a4⟩:=xp hr g.rules.length (Nat.le_refl _)
  rw[et] at h1
  generalize bP g g.rules.length=y at h1 a1 a2 a3 a4
  obtain ⟨l,er⟩:=y
  simp only at a1 a2 a3 a4
  have h40:=hf.rules
  have h1r:=hf.DD
  by_cases he:er=0
  rotate_left
  · obtain ⟨rfl,rfl⟩:=a4 he
    rw[hr] at hIs
    simp only[ar,encS] at h1 hIs
    simp (disch:=omega) only [↓wr,↓reduceIte,wq,Nat.reduceEqDiff,Nat.reduceAdd,Nat.reduceLeDiff]
    refine aF.pure h1 (by kernel_rfl) ?_
    simp (disch:=omega) only [↓wr,↓reduceIte,wq,ah,Nat.reduceEqDiff,Nat.reduceAdd,Nat.reduceLT,r9,cn]
    refine aq.ne (fun _=>?_) (fun h=>absurd h (by decide))
    simp (disch:=omega) only [↓wr,↓reduceIte,wq,ah,ak,Nat.reduceEqDiff]
    refine aq.eq (fun _=>?_) (fun h=>absurd rfl h)
    simp (disch:=omega) only [↓wr,↓reduceIte,wq,ah,Nat.reduceEqDiff,Nat.reduceAdd,Nat.reduceLeDiff]
    refine aF.pure hIs (by kernel_rfl) ?_
    simp (disch:=omega) only [↓wr,↓reduceIte,wq,Nat.reduceEqDiff,reduceCtorEq]
    rfl
  subst he
  simp only[ar,encS] at h1
  simp (disch:=omega) only [↓wr,↓reduceIte,wq,Nat.reduceEqDiff,Nat.reduceAdd,Nat.reduceLeDiff]
  refine aF.pure h1 (by kernel_rfl) ?_
  simp (disch:=omega) only [↓wr,↓reduceIte,wq,ah,Nat.reduceEqDiff,Nat.reduceAdd,Nat.reduceLT,r9]
  refine aq.ne (fun h=>absurd rfl h) (fun _=>?_)
  simp (disch:=omega) only [↓wr,↓reduceIte,wq,ak,Nat.reduceEqDiff,Nat.reduceAdd,Nat.reduceLT]
  refine ⟨⟨by omega,by unfold aI; omega,by unfold aI; omega⟩,fun hz=>by omega,fun _ m hm=>?_⟩
  try simp (disch:=omega) only [↓wr,↓reduceIte,wq,ai,ah,ak,aa,af,ag,aj,isNil,Nat.reduceEqDiff,Nat.reduceAdd,Nat.reduceLT,Nat.reduceLeDiff,Int.reduceNeg,Int.reduceToNat,reduceCtorEq,r9]
  have flen:∀ (q:List (List Int)) (o:List Bool),(q.foldl kQ o).length=o.length:=by
    intro q
    induction q with
    | nil=>intro o; rfl
    | cons x q ih=>intro o; exact (ih _).trans (oX x o)
  refine bb.up l.length (fun i T H'=>∃ is:List Bool,(l.take i).foldl kQ (List.replicate g.rules.length false)=is∧T 1=.aS (ar g) 0∧T 3=cn l∧T 5=.sl m 0 g.rules.length 1∧H' m=.arr 1 (bB is)∧T 6=gi i) ?_ ?_
  · refine ⟨_,rfl,rfl,rfl,rfl,?_,rfl⟩
    simp[View.set,bB]
  · rintro i k T H' hk ⟨is,hi,t1,t3,t5,hm1,t6⟩
    have hlen:is.length=g.rules.length:=by rw[← hi,flen]; simp
    simp (disch:=omega) only [↓wr,↓reduceIte,wq,ah,ak,Nat.reduceEqDiff,jw,t3,t6,cn,ar,encS]
    refine aq.dec (fun hc=>?_) (fun hc=>?_)
    · have h2:l[i]?=some (l[i]'(by omega)):=List.getElem?_eq_getElem (by omega)
      have htk:l.take (i+1)=l.take i ++ [l[i]'(by omega)]:=by rw[List.take_add_one,h2]; rfl
      have hmt:=List.mem_of_getElem? h2
      generalize l[i]'(by omega)=t at h2 htk hmt
      obtain ⟨w,hw,ht300,hwt,hw60⟩:=a2 t hmt
      have p1:=HQ g hg t (by unfold aM; omega)
      rw[hwt] at p1
      have hwr:=Is hf.sym hw (fun x hx=>by
        simp at hx; subst hx
        have:=hf.start
        have:=hf.dW
        unfold gu
        rw[if_neg (by omega)]
        simp; omega)
      have htr:=Iv hw
      have hsp:=Pb hw [] []
      simp only[List.nil_append,List.append_nil,List.length_nil,Nat.zero_add] at hsp
      have hfit:=(KW hrr w).2 hsp
      have hwb:mz g w=true:=by
        unfold mz
        rw[hrr]
        simp
        exact ⟨hw60,by unfold yJ; simp only[List.all_eq_true,Bool.and_eq_true,decide_eq_true_eq]; exact hwr⟩
      have p2:=J6 g hg w (by unfold aM; omega) (fun x hx=>by have:=hwr x hx; have:=hf.ax; unfold bW; omega)
      rw[Hb,if_pos hwb,hfit] at p2
      simp only[ar,encS,encI,kX,AU] at p1 p2
      simp (disch:=omega) only [↓wr,↓reduceIte,wq,Nat.reduceEqDiff,Nat.reduceAdd,Nat.reduceLT,Nat.reduceLeDiff,t1,t3,t6,cn,List.getElem?_map,h2,ar,encS,encI]
      refine aF.pure p1 (by kernel_rfl) ?_
      simp (disch:=omega) only [↓wr,↓reduceIte,wq,ah,Nat.reduceEqDiff,Nat.reduceAdd,Nat.reduceLT]
      refine aq.ne (fun h=>absurd rfl h) (fun _=>?_)
      simp (disch:=omega) only [↓wr,↓reduceIte,wq,ah,ak,Nat.reduceEqDiff]
      refine aq.dec (fun h=>by omega) (fun _=>?_)
      simp (disch:=omega) only [↓wr,↓reduceIte,wq,ah,ak,Nat.reduceEqDiff]
      refine aq.dec (fun h10=>?_) (fun h10=>?_)
      · simp (disch:=omega) only [↓wr,↓reduceIte,wq,Nat.reduceEqDiff,Nat.reduceAdd,Nat.reduceLeDiff,t1,ar,encS]
        refine aF.pure p2 (by kernel_rfl) ?_
        simp (disch:=omega) only [↓wr,↓reduceIte,wq,Nat.reduceEqDiff,Nat.reduceAdd,Nat.reduceLT]
        refine bb.up t.length (fun j T H'=>∃ js:List Bool,(t.take j).foldl im is=js∧T 1=.aS (ar g) 0∧T 3=cn l∧T 5=.sl m 0 g.rules.length 1∧H' m=.arr 1 (bB js)∧T 6=gi i∧T 11=gi j) ?_ ?_
        · exact ⟨is,rfl,t1,t3,t5,hm1,t6,rfl⟩
        · rintro j k' T' H'' hk' ⟨js,hj,e1,e3,e5,em,e6,e11⟩
          have hjl:js.length=g.rules.length:=by rw[← hj,← hlen]; exact oX _ _
          simp (disch:=omega) only [↓wr,↓reduceIte,wq,ah,ak,Nat.reduceEqDiff,Nat.reduceLT,gg,e3,e6,e11,cn,encI,List.getElem?_map,h2]
          refine aq.dec (fun hd=>?_) (fun hd=>?_)
          · have h3:t[j]?=some (t[j]'(by omega)):=List.getElem?_eq_getElem (by omega)
            have htj:t.take (j+1)=t.take j ++ [t[j]'(by omega)]:=by rw[List.take_add_one,h3]; rfl
            have hxr:=htr _ (List.mem_of_getElem? h3)
            generalize t[j]'(by omega)=x at h3 htj hxr
            have hn:(t.take (j+1)).foldl im is=js.set x.toNat true:=by rw[htj,List.foldl_append,hj]; simp only[List.foldl_cons,List.foldl_nil]; rw[im,if_pos ⟨by omega,by omega⟩]
            simp (disch:=omega) only [↓wr,↓reduceIte,wq,ah,aa,Nat.reduceEqDiff,Nat.reduceLT,Nat.reduceLeDiff,reduceCtorEq,e3,e5,e6,e11,em,cn,encI,List.getElem?_map,h2,h3]
            refine ⟨by omega,by omega,aK hk' (by omega) ⟨_,hn,e1,e3,e5,?_,e6,rfl⟩⟩
            rw[fN (by omega),← dN]
            simp[View.set]
          · rw[List.take_of_length_le (by omega)] at hj
            simp (disch:=omega) only [↓wr,↓reduceIte,wq,Nat.reduceEqDiff,reduceCtorEq,e6]
            refine aK hk (by omega) ⟨_,rfl,e1,e3,e5,?_,rfl⟩
            rw[htk,List.foldl_append,hi,List.foldl_cons,List.foldl_nil,kQ,hj]
            exact em
      · simp (disch:=omega) only [↓wr,wq]
        refine bb.up t.length (fun j T H'=>∃ js:List Bool,(t.take j).foldl im is=js∧T 1=.aS (ar g) 0∧T 3=cn l∧T 5=.sl m 0 g.rules.length 1∧H' m=.arr 1 (bB js)∧T 6=gi i∧T 11=gi j) ?_ ?_
        · exact ⟨is,rfl,t1,t3,t5,hm1,t6,rfl⟩
        · rintro j k' T' H'' hk' ⟨js,hj,e1,e3,e5,em,e6,e11⟩
          have hjl:js.length=g.rules.length:=by rw[← hj,← hlen]; exact oX _ _
          simp (disch:=omega) only [↓wr,↓reduceIte,wq,ah,ak,Nat.reduceEqDiff,Nat.reduceLT,gg,e3,e6,e11,cn,encI,List.getElem?_map,h2]
          refine aq.dec (fun hd=>?_) (fun hd=>?_)
          · have h3:t[j]?=some (t[j]'(by omega)):=List.getElem?_eq_getElem (by omega)
            have htj:t.take (j+1)=t.take j ++ [t[j]'(by omega)]:=by rw[List.take_add_one,h3]; rfl
            have hxr:=htr _ (List.mem_of_getElem? h3)
            generalize t[j]'(by omega)=x at h3 htj hxr
            have hn:(t.take (j+1)).foldl im is=js.set x.toNat true:=by rw[htj,List.foldl_append,hj]; simp only[List.foldl_cons,List.foldl_nil]; rw[im,if_pos ⟨by omega,by omega⟩]
            simp (disch:=omega) only [↓wr,↓reduceIte,wq,ah,aa,Nat.reduceEqDiff,Nat.reduceLT,Nat.reduceLeDiff,reduceCtorEq,e3,e5,e6,e11,em,cn,encI,List.getElem?_map,h2,h3]
            refine ⟨by omega,by omega,aK hk' (by omega) ⟨_,hn,e1,e3,e5,?_,e6,rfl⟩⟩
            rw[fN (by omega),← dN]
            simp[View.set]
          · rw[List.take_of_length_le (by omega)] at hj
            simp (disch:=omega) only [↓wr,↓reduceIte,wq,Nat.reduceEqDiff,reduceCtorEq,e6]
            refine aK hk (by omega) ⟨_,rfl,e1,e3,e5,?_,rfl⟩
            rw[htk,List.foldl_append,hi,List.foldl_cons,List.foldl_nil,kQ,hj]
            exact em
    · rw[List.take_of_length_le (by omega)] at hi
      have hget:∀ k:Nat,k < g.rules.length→is[k]?=some true:=fun k hkl=>by
        rw[← hi,xX,List.getElem?_replicate,if_pos hkl]
        obtain ⟨t,ht,hm⟩:=a3 rfl k hkl
        simp only[Option.map_some,Bool.false_or,Option.some.injEq]
        exact List.any_eq_true.2 ⟨t,ht,by simpa using hm⟩
      simp (disch:=omega) only [↓wr,↓reduceIte,wq,Nat.reduceEqDiff,reduceCtorEq]
      refine bb.up g.rules.length (fun j T H'=>T 1=.aS (ar g) 0∧T 3=cn l∧T 5=.sl m 0 g.rules.length 1∧H' m=.arr 1 (bB is)∧T 12=gi j) ⟨t1,t3,t5,hm1,rfl⟩ ?_
      rintro j k' T' H'' hk' ⟨e1,e3,e5,em,e12⟩
      simp (disch:=omega) only [↓wr,↓reduceIte,wq,ah,ak,Nat.reduceEqDiff,jt,e5,e12]
      refine aq.dec (fun hd=>?_) (fun hd=>?_)
      · have hg1:(bB is).getD j []=[gb true]:=by rw[List.getD_eq_getElem?_getD,List.getElem?_map,hget j (by omega)]; rfl
        simp (disch:=omega) only [↓wr,↓reduceIte,wq,ah,Nat.reduceEqDiff,Nat.reduceLT,reduceCtorEq,e3,e5,e12,em,hg1]
        refine ⟨by omega,by omega,?_⟩
        exact aK hk' (by omega) ⟨e1,e3,e5,em,rfl⟩
      · simp (disch:=omega) only [↓wr,↓reduceIte,wq,ah,ak,Nat.reduceEqDiff,Nat.reduceAdd,Nat.reduceLT,reduceCtorEq,e1,e3,cn,ar,encS]
        rw[decide_eq_true (by omega)]
end Gv
