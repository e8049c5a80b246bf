/-
  Part 16 of the proof: what the machine does and what the functions answer.
  Conditions: those that each lemma names.
-/
import Derived.Test.YtomcjampldmjoaaGreatSGzSO
set_option linter.unusedSimpArgs false
set_option linter.unusedVariables false
set_option maxRecDepth 100000
namespace Gv
open Go Go.Proofs
section
variable {P:Program} {T:Env} {H:View} {K:V→View→Prop} {w:cF (T,H,K)} {t t1 e ty:TypeId}
theorem I5 {x:Operand} {k:Nat} (he:cB P t=some e) (hx:ev T x=.emp k) (hk:K (aj 0) H):oN P (.call { callee:=.builtin .cap,args:=#[x],argTypes:=#[t] }) ty T H K w:=by
  intro n _
  refine ⟨aj 0,.none,[],?_,hk⟩
  simp[sI,cb,oper,BB,he,hx]
theorem NQ {s x:Operand} {k l sz bytes:Nat} {z:List V} (he:sm P t=some (sz,bytes,z)) (hd:mC P t1=false) (hi:isInt P t1=true) (hs:ev T s=.emp k) (hx:ev T x=aj l) (h0:l≠0)
    (h1:l * bytes < aG) (h2:l < aG) (hk:∀ n,H n=.dead→K (.sl n 0 l sz) (H.set n (.arr sz (List.replicate l z)))) :
    oN P (.call { callee:=.builtin .append,args:=#[s,x],argTypes:=#[t,t1] }) ty T H K w:=by
  obtain ⟨e,ti,hse,_,hti,hz,hzl,hzok,hs0,rfl,rfl⟩:=oB he
  intro n hn
  refine ⟨.sl n 0 l ti.size,.new (.arr ti.size (List.replicate l z)),[],?_,hk n hn⟩
  have ha:asNat (aj l)=some l:=by simp[asNat,aj]
  have key:qt P t (.emp k) (aj l) n=some (.sl n 0 l ti.size,.new (.arr ti.size (List.replicate l z)),[]):=by
    unfold qt
    rw[hse,ha]
    simp only[hti,hz,if_neg h0]
    rw[if_pos ⟨hzl,hzok,hs0,h1,h2⟩]
  simp[sI,cb,oper,hd,hi,hs,hx,key]
end
def jJ:SF:=⟨.seq (ak [((some 4),.op (.aZ (.val (.emp 1))))]) <|
  .seq (.seq (ak [ae 5 1,ax 6 .lss 5 0]) <|
  .cond (.tmp 6) (.region false [⟨none,[((some 7),.op (.old (.makeInterface 9 (.const (.string ⟨#[99,97,110,110,111,116,32,98,101,32,110,101,103,97,116,105,118,101]⟩))) 20)),(none,.op (.old (.panic (.tmp 7)) 0))]⟩]) (.skip)) <|
  .seq (.seq (ak [ae 8 1,ae 9 0,((some 10),.op (.old (.call { callee:=.builtin .cap,args:=#[(.tmp 9)],argTypes:=#[31] }) 3)),ae 11 0,aP 12 11,aR 13 .sub 10 12,aR 14 .sub 8 13,ae 1 14]) <|
  .seq (ak [ae 15 1,ax 16 .gtr 15 0]) <|
  .cond (.tmp 16) (ak [ae 17 0,ae 18 0,((some 19),.op (.old (.call { callee:=.builtin .cap,args:=#[(.tmp 18)],argTypes:=#[31] }) 3)),((some 20),.op (.slice 1 (.tmp 17) none (some (.tmp 19)))),ae 21 1,((some 22),.op (.old (.call { callee:=.builtin .append,args:=#[(.tmp 20),(.tmp 21)],argTypes:=#[31,3] }) 31)),ae 23 0,aP 24 23,((some 25),.op (.slice 1 (.tmp 22) none (some (.tmp 24)))),ae 0 25]) (.skip)) <|
  .seq (ak [ae 26 0,ae 4 26]) <|
  .ret,
  [.tmp 4],27⟩
theorem oU:aU Tryz.prog 128 []=some jJ:=by kernel_rfl
def hU:SC :=
  .seq (ak [aR 12 .lss 11 10]) <|
  .seq (.cond (.tmp 12) (.skip) (.exit 0)) <|
  .seq (.block 1 (.seq (ak [aQ 13 1 9 11,an 14 13,ae 5 14]) <|
  .seq (ak [ae 15 3,ae 16 5,aP 17 16,aR 18 .add 15 17,ae 3 18]) <|
  .seq (ak [ae 19 3,ax 20 .lss 19 0]) <|
  .cond (.tmp 20) (.region false [⟨none,[((some 21),.op (.old (.makeInterface 9 (.const (.string ⟨#[108,101,110,32,111,117,116,32,111,102,32,114,97,110,103,101]⟩))) 20)),(none,.op (.old (.panic (.tmp 21)) 0))]⟩]) (.skip))) <|
  ak [ax 22 .add 11 1,ae 11 22]
def ij:SC :=
  .seq (ak [aR 28 .lss 27 26]) <|
  .seq (.cond (.tmp 28) (.skip) (.exit 2)) <|
  .seq (.block 3 (.seq (ak [aQ 29 1 25 27,an 30 29,ae 8 30]) <|
  ak [ae 31 6,ae 32 8,((some 33),.op (.app 1 8 (.tmp 31) (.tmp 32))),ae 6 33])) <|
  ak [ax 34 .add 27 1,ae 27 34]
def iT:SF:=⟨.seq (ak [((some 2),.op (.aZ (.val (.emp 1))))]) <|
  .seq (ak [aH 3 0]) <|
  .seq (.seq (ak [ae 9 0,aP 10 9,aH 11 0]) <|
  .block 0 (.loop hU)) <|
  .seq (ak [ae 23 3,cL 24 128 [(.val (.emp 1)),(.tmp 23)],ae 6 24]) <|
  .seq (.seq (ak [ae 25 0,aP 26 25,aH 27 0]) <|
  .block 2 (.loop ij)) <|
  .seq (ak [ae 35 6,ae 2 35]) <|
  .ret,
  [.tmp 2],36⟩
theorem m9:aU Tryz.prog 76 []=some iT:=by kernel_rfl
theorem G7 (n:Nat) (hn:n≤100000) (H:View):az Tryz.prog 128 [.emp 1,gi n] H fun r H'=>(n=0∧r=.emp 1∧H'=H)∨(0 < n∧∃ m es,H m=.dead∧r=.sl m 0 0 1∧H'=H.set m (.arr 1 es)):=by
  refine az.of mixed oU ?_
  simp (disch:=omega) only [↓wr,↓reduceIte,wq,ah,ag,Nat.reduceEqDiff,Nat.reduceAdd,Nat.reduceLeDiff,jJ]
  refine ar.dec (fun h=>absurd h (by omega)) (fun _=>?_)
  simp (disch:=omega) only [↓wr,↓reduceIte,wq,Nat.reduceEqDiff,reduceCtorEq]
  refine I5 (k:=1) (e:=3) (by kernel_rfl) (by simp (disch:=omega) only [↓wr,↓reduceIte]) ?_
  simp (disch:=omega) only [↓wr,↓reduceIte,wq,ag,aj,Nat.reduceEqDiff,reduceCtorEq]
  refine ar.dec (fun h=>?_) (fun h=>?_)
  · simp (disch:=omega) only [↓wr,↓reduceIte,wq,reduceCtorEq]
    refine I5 (k:=1) (e:=3) (by kernel_rfl) (by simp (disch:=omega) only [↓wr,↓reduceIte]) ?_
    simp (disch:=omega) only [↓wr,↓reduceIte,wq,aj,Nat.reduceEqDiff]
    rw[show ig 1 (.emp 1) none (some (.val (.int .i64 ((0:Nat):Int))))=some (.emp 1,.none,[]) from rfl]
    simp (disch:=omega) only [↓wr,↓reduceIte,wq,Nat.reduceEqDiff]
    refine NQ (k:=1) (l:=n) (sz:=1) (bytes:=8) (z:=[gi 0]) (by kernel_rfl) (by kernel_rfl) (by kernel_rfl) (by simp (disch:=omega) only [↓wr,↓reduceIte,Nat.reduceEqDiff]) (by simp (disch:=omega) only [↓wr,↓reduceIte,aj]; simp) (by omega) (by unfold aG; omega) (by unfold aG; omega) ?_
    intro m hm
    simp (disch:=omega) only [↓wr,↓reduceIte,wq,aj,Nat.reduceEqDiff,reduceCtorEq]
    rw[show ig 1 (.sl m 0 n 1) none (some (.val (.int .i64 ((0:Nat):Int))))=some (.sl m 0 0 1,.none,[]) by simp[ig,bound,asNat]]
    simp (disch:=omega) only [↓wr,↓reduceIte,wq,reduceCtorEq]
    exact .inr ⟨by omega,m,_,hm,rfl,rfl⟩
  · simp (disch:=omega) only [↓wr,↓reduceIte,wq,reduceCtorEq]
    exact .inl (by omega)
def xA (H:View) (u:V) (l:List Int):Prop:=u=encI l∨aV H u 1 (aW l)
theorem xA.elems {H:View} {u:V} {l:List Int} (h:xA H u l):∃ rd,ca H u=some (aW l,rd):=by
  rcases h with rfl | h
  · exact ⟨[],yO _ _⟩
  generalize aW l=es0 at h
  rcases h with ⟨rfl,k,rfl⟩ | ⟨n,rfl,hn⟩
  · exact ⟨_,yL _ k⟩
  · cases es0 with
    | nil=>exact ⟨[],by simp[ca]⟩
    | cons e es =>
      exact ⟨_,by rw[show (e :: es).length=es.length+1 from rfl,qD _ n 0 es.length 1 1 _ hn (by simp),List.drop_zero,List.take_of_length_le (by simp)]⟩
theorem xA.len {H:View} {u:V} {l:List Int} (h:xA H u l):dS u=some l.length:=by
  rcases h with rfl | h
  · simp[encI,dS]
  · rw[h.len]; simp
theorem xA.keep {H H':View} {u:V} {l:List Int} (h:xA H u l) (hk:∀ id,H id≠.dead→H' id=H id):xA H' u l:=by
  rcases h with rfl | h
  · exact .inl rfl
  · exact .inr (h.keep fun id hid=>hk id (by rw[(h.live hid).1]; simp))
def yk (H:View) (u:V) (l:List Int):Prop:=aV H u 1 (aW l)∨(l=[]∧∃ m es,u=.sl m 0 0 1∧H m=.arr 1 es)
theorem yk.live {H:View} {u:V} {l:List Int} (h:yk H u l) {id:Nat} (hid:owner u=some id):∃ es,H id=.arr 1 es:=by
  rcases h with h | ⟨_,m,es,rfl,hm⟩
  · exact ⟨_,(h.live hid).1⟩
  · simp[owner] at hid; subst hid; exact ⟨es,hm⟩
theorem G4 {bytes:Nat} {u:V} {l xs:List Int} {H:View} {K:V→View→Prop} {w:cF (H,K)} (ho:yk H u l) (hl:(l.length+xs.length) * bytes < aG) (hl2:l.length+xs.length < aG) (hb:bytes=8)
    (hk:∀ u' H',yk H' u' (l ++ xs)→(aV H u 1 (aW l)→aV H' u' 1 (aW (l ++ xs)))→Left H H' u u'→K u' H'):mD 1 bytes u (aW xs) H K w:=by
  rcases ho with ho | ⟨rfl,m,es,rfl,hm⟩
  · exact jL ho (by simp[List.all_map,aO]) (by simpa using hl) (by simpa using hl2) fun u' H' h1 h2=>hk u' H' (.inl (by simpa using h1)) (fun _=>by simpa using h1) h2
  · cases xs with
    | nil=>exact hk _ _ (.inr ⟨rfl,m,es,rfl,hm⟩) (fun h=>by simpa using h) .refl
    | cons x xs =>
      rw[uI _ _ _ _ _ _ _ _ _ _ (by simp),hm]
      refine ⟨by simp[List.all_map,aO],⟨by simp,rfl,by simpa using hl,by simpa using hl2⟩,fun n hn=>hk _ _ (.inl (.inr ⟨n,by simp,by simp[View.set]⟩)) (fun _=>.inr ⟨n,by simp,by simp[View.set]⟩) fun id hid ho=>?_⟩
      have e:id≠n:=by rintro rfl; exact hid hn
      have e2:id≠m:=by rintro rfl; exact ho rfl
      exact ⟨by simp[View.set,e,e2],by simp[owner,Ne.symm e]⟩
set_option maxHeartbeats 4000000 in
theorem Cj (us:List (V × List Int)) (q:Nat) (H:View) (hq:H q=.arr 1 (us.map fun x=>[x.1])) (ha:∀ x∈us,xA H x.1 x.2) (hl:(us.map (·.2)).flatten.length≤100000) (hu:us.length≤1000) :
    az Tryz.prog 76 [.sl q 0 us.length 1] H fun r H'=>aV H' r 1 (aW (us.map (·.2)).flatten)∧cY H H' r:=by
  have hsum:∀ i,((us.take i).map (·.2)).flatten.length≤100000:=fun i=>by
    have:=List.take_append_drop i us
    have h2:(us.map (·.2)).flatten=((us.take i).map (·.2)).flatten ++ ((us.drop i).map (·.2)).flatten:=by rw[← List.flatten_append,← List.map_append,this]
    rw[h2,List.length_append] at hl; omega
  refine az.of mixed m9 ?_
  simp (disch:=omega) only [↓wr,↓reduceIte,wq,ah,aj,Nat.reduceLeDiff,reduceCtorEq,iT]
  refine bc.up us.length (fun i T H'=>H'=H∧T 0=.sl q 0 us.length 1∧T 3=gi ((us.take i).map (·.2)).flatten.length∧T 9=.sl q 0 us.length 1∧T 10=gi us.length∧T 11=gi i) ⟨rfl,rfl,rfl,rfl,rfl,rfl⟩ ?_
  rintro i k T H1 hk ⟨rfl,t0,t3,t9,t10,t11⟩
  simp (disch:=omega) only [↓wr,↓reduceIte,wq,ag,hU,t10,t11]
  refine ar.dec (fun hi=>?_) (fun hi=>?_)
  · have h2:us[i]?=some (us[i]'(by omega)):=List.getElem?_eq_getElem (by omega)
    have hm:=List.mem_of_getElem? h2
    have htk:us.take (i+1)=us.take i ++ [us[i]'(by omega)]:=by rw[List.take_add_one,h2]; rfl
    have hs1:=hsum (i+1)
    have hgd:(us.map fun x=>[x.1]).getD i []=[(us[i]'(by omega)).1]:=by simp[List.getD_eq_getElem?_getD,h2]
    generalize us[i]'(by omega)=x at h2 hm htk hgd
    have hx:=(ha x hm).len
    rw[htk] at hs1
    simp only[List.map_append,List.map_cons,List.map_nil,List.flatten_append,List.flatten_cons,List.flatten_nil,List.append_nil,List.length_append] at hs1
    simp (disch:=omega) only [↓wr,↓reduceIte,wq,ag,aj,Nat.reduceEqDiff,Nat.reduceLT,t3,t9,t11,hq,hgd,hx]
    refine ⟨by omega,by omega,?_⟩
    refine ar.dec (fun h=>absurd h (by omega)) (fun _=>?_)
    simp (disch:=omega) only [↓wr,↓reduceIte,wq,ag,Nat.reduceEqDiff,reduceCtorEq,t11]
    refine aJ hk (by omega) ⟨rfl,t0,?_,t9,t10,rfl⟩
    rw[htk,List.map_append,List.flatten_append,List.length_append,List.map_cons,List.map_nil,List.flatten_cons,List.flatten_nil,List.append_nil]
    push_cast
    rfl
  · simp (disch:=omega) only [↓wr,↓reduceIte,wq,Nat.reduceEqDiff,reduceCtorEq,t3]
    have e:us.take i=us:=List.take_of_length_le (by omega)
    rw[e]
    refine aC.gA ((G7 _ hl H1).mono ?_)
    intro r H2 hr
    have hro:yk H2 r []∧cY H1 H2 r:=by
      rcases hr with ⟨_,rfl,rfl⟩ | ⟨_,m,es,hm,rfl,rfl⟩
      · exact ⟨.inl .nil,.emp⟩
      · exact ⟨.inr ⟨rfl,m,es,rfl,by simp[View.set]⟩,.new hm⟩
    have hlast:(us.map (·.2)).flatten.length=0→aV H2 r 1 (aW []):=fun h0=>by
      rcases hr with ⟨_,rfl,_⟩ | ⟨h1,_⟩
      · exact .nil
      · omega
    obtain ⟨hroom,hfr⟩:=hro
    simp (disch:=omega) only [↓wr,↓reduceIte,wq,aj,reduceCtorEq,t0]
    refine bc.up us.length (fun i T H'=>∃ u,T 6=u∧yk H' u ((us.take i).map (·.2)).flatten∧((us.map (·.2)).flatten.length=0→aV H' u 1 (aW ((us.take i).map (·.2)).flatten))∧cY H1 H' u∧T 25=.sl q 0 us.length 1∧T 26=gi us.length∧T 27=gi i) ⟨r,rfl,hroom,hlast,hfr,rfl,rfl,rfl⟩ ?_
    rintro i k T H3 hk ⟨u,t6,ho,hz,hf,t25,t26,t27⟩
    simp (disch:=omega) only [↓wr,↓reduceIte,wq,ag,reduceCtorEq,ij,t26,t27]
    refine ar.dec (fun hi=>?_) (fun hi=>?_)
    · have h2:us[i]?=some (us[i]'(by omega)):=List.getElem?_eq_getElem (by omega)
      have hm:=List.mem_of_getElem? h2
      have htk:us.take (i+1)=us.take i ++ [us[i]'(by omega)]:=by rw[List.take_add_one,h2]; rfl
      have hs1:=hsum (i+1)
      have hgd:(us.map fun x=>[x.1]).getD i []=[(us[i]'(by omega)).1]:=by simp[List.getD_eq_getElem?_getD,h2]
      generalize us[i]'(by omega)=x at h2 hm htk hgd
      rw[htk,List.map_append,List.flatten_append,List.length_append,List.map_cons,List.map_nil,List.flatten_cons,List.flatten_nil,List.append_nil] at hs1
      have hq3:H3 q=.arr 1 (us.map fun x=>[x.1]):=by rw[(hf q (by rw[hq]; simp)).1,hq]
      obtain ⟨rd,he⟩:=((ha x hm).keep fun id hid=>(hf id hid).1).elems
      simp (disch:=omega) only [↓wr,↓reduceIte,wq,Nat.reduceEqDiff,Nat.reduceLT,t6,t25,t27,hq3,hgd,he]
      refine ⟨by omega,by omega,?_⟩
      refine G4 ho (by unfold aG; omega) (by unfold aG; omega) rfl ?_
      intro u' H4 ho4 hz4 l4
      simp (disch:=omega) only [↓wr,↓reduceIte,wq,ag,Nat.reduceEqDiff,reduceCtorEq,t27]
      refine aJ hk (by omega) ⟨u',rfl,?_,fun h0=>?_,fun id hid=>?_,t25,t26,rfl⟩
      · rw[htk]; simpa using ho4
      · rw[htk]; simpa using hz4 (hz h0)
      · obtain ⟨a,b⟩:=hf id hid
        obtain ⟨c,d⟩:=l4 id (by rw[a]; exact hid) b
        exact ⟨c.trans a,d⟩
    · simp (disch:=omega) only [↓wr,↓reduceIte,wq,Nat.reduceEqDiff,reduceCtorEq,t6]
      have e:us.take i=us:=List.take_of_length_le (by omega)
      rw[e] at ho hz
      refine ⟨?_,hf⟩
      rcases ho with ho | ⟨h0,m,es,rfl,hm⟩
      · exact ho
      · exact hz (by rw[h0]; rfl)
def fh:SC :=
  .seq (ak [aR 10 .lss 9 8]) <|
  .seq (.cond (.tmp 10) (.skip) (.exit 0)) <|
  .seq (.block 1 (.seq (ak [aQ 11 1 7 9,an 12 11,ae 5 12]) <|
  .seq (.seq (ak [ae 13 5,ax 14 .geq 13 0]) <|
  .cond (.tmp 14) (.seq (ak [ae 15 0,ae 16 0,bJ 17 16,aq 18 6 17,an 19 18,ae 20 5,((some 21),.op (.bA 1 1 [(.val (.int .i64 0))] [(0,(.tmp 20))])),((some 22),.op (.app 1 8 (.tmp 19) (.tmp 21))),bJ 23 15,aq 24 6 23,(none,.op (.store 1 (.tmp 24) (.tmp 22)))]) <|
  .exit 1) (.skip)) <|
  .seq (ak [ae 25 0,bJ 26 25,aq 27 4 26,an 28 27,ae 29 5,((some 30),.op (.arith .sub (.val (.val (.int .i64 (-1)))) (.tmp 29))),aQ 31 4 28 30,aq 32 0 31,an 33 32,ae 6 33]) <|
  .seq (ak [ae 34 0,ae 35 0,bJ 36 35,aq 37 5 36,an 38 37,ae 39 6,((some 40),.op (.bA 1 1 [(.val (.int .i64 0))] [(0,(.tmp 39))])),((some 41),.op (.app 1 8 (.tmp 38) (.tmp 40))),bJ 42 34,aq 43 5 42,(none,.op (.store 1 (.tmp 43) (.tmp 41)))]) <|
  ak [ae 44 0,ae 45 0,bJ 46 45,aq 47 0 46,aq 48 2 47,an 49 48,ae 50 6,aQ 51 3 49 50,aq 52 1 51,an 53 52,aL 54 233 [44,53]])) <|
  ak [ax 55 .add 9 1,ae 9 55]
def iE:SF:=⟨.seq (ak [ae 7 1,aP 8 7,aH 9 0]) <|
  .block 0 (.loop fh),
  [],56⟩
theorem kD:aU Tryz.prog 233 []=some iE:=by kernel_rfl
def gT (g:ao) (r w:V):List V:=[.aY (g.ay.map cr),.aY (g.au.map fun s=>[gs s]),.aY (g.rules.map aK),gi g.start,gH (av g),r,w]
def DM (g:ao) (b:Nat) (R W:List Int) (H:View):Prop:=∃ ur uw,bC H [(.sl b 0 1 7,7,[gT g ur uw]),(ur,1,aW R),(uw,1,aW W)]
set_option maxHeartbeats 4000000 in
theorem D4 (g:ao) (hg:g.Ok) (hf:g.gp) (b:Nat):∀ (f:Nat) (l:List Int),aN l→(∀ x∈l,bM x∧(x < 0→-1 - x < g.au.length))→wW (av g) f l→∀ (R W:List Int) (H:View),(R ++ cE g (av g) f l).length≤100000→(W ++ dA g (av g) f l).length≤100000 →
    DM g b R W H→az Tryz.prog 233 [.ptr b 0 0,encI l] H fun _ H'=>DM g b (R ++ cE g (av g) f l) (W ++ dA g (av g) f l) H':=by
  intro f
  induction f using Nat.strongRecOn with
  | _ f ih =>
    intro l hl hn hu R W H0 hbR hbW ho0
    refine az.of mixed kD ?_
    unfold aN at hl
    simp (disch:=omega) only [↓wr,↓reduceIte,wq,ah,aj,Nat.reduceAdd,Nat.reduceLeDiff,iE,encI]
    refine bc.up l.length (fun i T H'=>DM g b (R ++ cE g (av g) f (l.take i)) (W ++ dA g (av g) f (l.take i)) H'∧T 0=.ptr b 0 0∧T 7=encI l∧T 8=gi l.length∧T 9=gi i) ⟨by rw[List.take_zero,oR,pw,List.append_nil,List.append_nil]; exact ho0,rfl,rfl,rfl,rfl⟩ ?_
    rintro i k T H hk ⟨⟨ur,uw,ho⟩,t0,t7,t8,t9⟩
    simp (disch:=omega) only [↓wr,↓reduceIte,wq,ag,Int.reduceNeg,fh,t8,t9,encI]
    refine ar.dec (fun hc=>?_) (fun hc=>?_)
    · have hg1:l[i]?=some (l[i]'(by omega)):=List.getElem?_eq_getElem (by omega)
      have hmem:l[i]'(by omega)∈l:=List.getElem_mem _
      have htk:l.take (i+1)=l.take i ++ [l[i]'(by omega)]:=by rw[List.take_add_one,hg1]; rfl
      have hbt:=CT g f l (i+1)
      have hbw:=Jw g f l (i+1)
      generalize l[i]'(by omega)=x at hg1 hmem htk
      obtain ⟨⟨hx1,hx2⟩,hx3⟩:=hn x hmem
      rw[htk,fv] at hbt
      rw[htk,iA] at hbw
      simp only[List.length_append] at hbR hbW hbt hbw
      have hb:=ho.is 0 rfl (by simp)
      simp (disch:=omega) only [↓wr,↓reduceIte,wq,ag,Nat.reduceEqDiff,Nat.reduceLT,Int.reduceNeg,t7,t9,encI,List.getElem?_map,hg1]
      refine ar.dec (fun hx=>?_) (fun hx=>?_)
      · rw[j7 (show 0≤x from hx)] at hbw
        simp only[List.length_cons,List.length_nil] at hbw
        simp (disch:=omega) only [↓wr,↓reduceIte,wq,af,Nat.reduceEqDiff,Nat.reduceAdd,Nat.reduceLT,Int.reduceNeg,reduceCtorEq,t0,hb,gT]
        intro n hn1
        rw[bQ]
        simp (disch:=omega) only [↓wr,↓reduceIte,wq,Nat.reduceEqDiff,Int.reduceNeg]
        refine cp ((ho.at 2 (by simp)).fresh hn1) (by simp[aO]) (by unfold aG; simp; omega) (by unfold aG; simp; omega) ?_
        intro u1 H1 o1 _
        simp only[List.eraseIdx_cons_succ,List.eraseIdx_cons_zero] at o1
        have hb1:=o1.is 1 rfl (by simp)
        have c1:=o1.head.cells
        have k1:=o1.head.gX
        simp (disch:=omega) only [↓wr,↓reduceIte,wq,ag,aa,Nat.reduceEqDiff,Nat.reduceAdd,Nat.reduceLT,Nat.reduceLeDiff,Int.reduceNeg,reduceCtorEq,t9,hb1,gT,c1,k1]
        have o2:=(o1.at 1 (by simp)).put (es':=[gT g ur u1]) rfl rfl
        simp only[List.eraseIdx_cons_succ,List.eraseIdx_cons_zero] at o2
        refine aJ hk (by omega) ⟨⟨ur,u1,?_⟩,t0,t7,t8,rfl⟩
        rw[htk,fv,iA,kc (show 0≤x from hx),j7 (show 0≤x from hx),List.append_nil]
        have o3:=o2.perm (.cons _ (.swap _ _ _))
        simpa [gT] using o3
      · obtain ⟨f,rfl⟩:∃ f',f=f'+1:=by
          cases f with
          | zero=>have:=tv hu x hmem; omega
          | succ f=>exact ⟨f,rfl⟩
        obtain ⟨hkn,hh⟩:=hu x hmem (by omega)
        obtain ⟨ri,r,hi,hr,hra,hur,_⟩:=oD (f:=f) hkn (by push_cast at hh; exact hh)
        have hgp:=xm (P:=av g) (m:=bD x) (by rw[eH]; have:=hx3 (by omega); unfold bD; omega)
        have hmr:=List.mem_of_getElem? hr
        have hrl:ri < g.rules.length:=(List.getElem?_eq_some_iff.1 hr).1
        have hrw:=hg.ba r hmr
        rw[gG (by omega),hra,hi] at hbt
        rw[lZ (by omega),hra] at hbw
        simp only[List.length_cons] at hbt
        generalize hpx:bb (av g) (bD x)=p at hgp hi hra
        simp (disch:=omega) only [↓wr,↓reduceIte,wq,ag,Nat.reduceEqDiff,Nat.reduceAdd,Nat.reduceLT,Int.reduceNeg,reduceCtorEq,t0,hb,gT]
        simp (disch:=omega) only [↓wr,↓reduceIte,wq,af,Nat.reduceEqDiff,Nat.reduceAdd,Nat.reduceLT,Int.reduceNeg,reduceCtorEq,t0,hb,gT,hgp,bO,hi]
        intro n hn1
        rw[bQ]
        simp (disch:=omega) only [↓wr,↓reduceIte,wq,Nat.reduceEqDiff,Int.reduceNeg]
        refine cp ((ho.at 1 (by simp)).fresh hn1) (by simp[aO]) (by unfold aG; simp; omega) (by unfold aG; simp; omega) ?_
        intro u1 H1 o1 _
        simp only[List.eraseIdx_cons_succ,List.eraseIdx_cons_zero] at o1
        have hb1:=o1.is 1 rfl (by simp)
        have c1:=o1.head.cells
        have k1:=o1.head.gX
        simp (disch:=omega) only [↓wr,↓reduceIte,wq,aa,Nat.reduceEqDiff,Nat.reduceAdd,Nat.reduceLT,Nat.reduceLeDiff,Int.reduceNeg,reduceCtorEq,t0,hb1,gT,c1,k1,aK,List.getElem?_map,hr,encI]
        have o2:=(o1.at 1 (by simp)).put (es':=[gT g u1 uw]) rfl rfl
        simp only[List.eraseIdx_cons_succ,List.eraseIdx_cons_zero] at o2
        have hcall:=ih f (by omega) r.right hrw.2.2.1 (fun y hy=>⟨hrw.2.2.2 y hy,fun hn=>hf.neg hmr hy hn⟩) hur (R ++ cE g (av g) (f+1) (l.take i) ++ [(ri:Int)]) (W ++ dA g (av g) (f+1) (l.take i)) _
          (by simp only[List.length_append,List.length_cons,List.length_nil]; omega) (by simp only[List.length_append]; omega) ⟨u1,uw,by simpa using o2⟩
        simp only[gT,encI] at hcall
        refine aC.gA (hcall.mono ?_)
        rintro v H2 ⟨ur2,uw2,o3⟩
        simp (disch:=omega) only [↓wr,↓reduceIte,wq,ag,Nat.reduceEqDiff,Int.reduceNeg,reduceCtorEq,t9]
        refine aJ hk (by omega) ⟨⟨ur2,uw2,?_⟩,t0,t7,t8,rfl⟩
        rw[htk,fv,iA,gG (by omega),lZ (by omega),hpx,hi,← hi,hra,hi]
        simpa using o3
    · rw[List.take_of_length_le (by omega)] at ho
      simp (disch:=omega) only [↓wr,↓reduceIte,wq,reduceCtorEq]
      exact ⟨ur,uw,ho⟩
def xc (H:View) (u:V) (l:List Int):Prop:=u=encI l∨∃ (m:Nat) (x:Int),l=[x]∧x < 0∧u=.sl m 0 1 1∧H m=.arr 1 [[gi x]]
theorem xc.BY {H:View} {u:V} {l:List Int} (h:xc H u l):dh H u (encI l):=by
  rcases h with rfl | ⟨m,x,rfl,_,rfl,hm⟩
  · exact dh.tree (bX l)
  · exact vp (l:=[x]) hm rfl
theorem xc.keep {H H':View} {u:V} {l:List Int} (h:xc H u l) (hk:∀ id,H id≠.dead→H' id=H id):xc H' u l:=by
  rcases h with rfl | ⟨m,x,rfl,hx,rfl,hm⟩
  · exact .inl rfl
  · exact .inr ⟨m,x,rfl,hx,rfl,by rw[hk m (by rw[hm]; simp)]; exact hm⟩
set_option maxHeartbeats 4000000 in
theorem EY (g:ao) (hg:g.Ok) (hf:g.gp) (b:Nat) (f:Nat) (l:List Int) (hl:aN l) (hn:∀ x∈l,bM x∧(x < 0→-1 - x < g.au.length)) (hu:wW (av g) f l) (R W:List Int) (H:View) (hbR:(R ++ cE g (av g) f l).length≤100000) (hbW:(W ++ dA g (av g) f l).length≤100000)
    (hw:DM g b R W H) (u:V) (hi:xc H u l):az Tryz.prog 233 [.ptr b 0 0,u] H fun _ H'=>DM g b (R ++ cE g (av g) f l) (W ++ dA g (av g) f l) H':=by
  rcases hi with rfl | ⟨m,x,rfl,hx0,rfl,hm⟩
  · exact D4 g hg hf b f l hl hn hu R W H hbR hbW hw
  · obtain ⟨⟨hx1,hx2⟩,hx3⟩:=hn x (by simp)
    refine az.of mixed kD ?_
    simp (disch:=omega) only [↓wr,↓reduceIte,wq,ah,aj,Nat.reduceAdd,Nat.reduceLeDiff,iE]
    refine bc.up 1 (fun i T H'=>((i=0∧H'=H)∨(i=1∧DM g b (R ++ cE g (av g) f [x]) (W ++ dA g (av g) f [x]) H'))∧T 0=.ptr b 0 0∧T 7=.sl m 0 1 1∧T 8=gi 1∧T 9=gi i) ⟨.inl ⟨rfl,rfl⟩,rfl,rfl,rfl,rfl⟩ ?_
    rintro i k T H1 hk ⟨h7,t0,t7,t8,t9⟩
    rcases h7 with ⟨rfl,rfl⟩ | ⟨rfl,ho⟩
    · obtain ⟨ur,uw,ho⟩:=hw
      have hb:=ho.is 0 rfl (by simp)
      simp (disch:=omega) only [↓wr,↓reduceIte,wq,ag,Int.reduceNeg,fh,t8,t9]
      refine ar.dec (fun _=>?_) (fun hc=>absurd hc (by decide))
      simp (disch:=omega) only [↓wr,↓reduceIte,wq,ag,Nat.reduceEqDiff,Nat.reduceLT,Int.reduceNeg,t7,t9,hm]
      refine ar.dec (fun hc=>absurd hc (by omega)) (fun _=>?_)
      obtain ⟨f,rfl⟩:∃ f',f=f'+1:=by
        cases f with
        | zero=>have:=tv hu x (by simp); omega
        | succ f=>exact ⟨f,rfl⟩
      obtain ⟨hkn,hh⟩:=hu x (by simp) (by omega)
      obtain ⟨ri,r,hi,hr,hra,hur,_⟩:=oD (f:=f) hkn (by push_cast at hh; exact hh)
      have hgp:=xm (P:=av g) (m:=bD x) (by rw[eH]; have:=hx3 (by omega); unfold bD; omega)
      have hmr:=List.mem_of_getElem? hr
      have hrl:ri < g.rules.length:=(List.getElem?_eq_some_iff.1 hr).1
      have hrw:=hg.ba r hmr
      rw[gG (by omega),hra,hi] at hbR ⊢
      rw[lZ (by omega),hra] at hbW ⊢
      simp only[List.length_append,List.length_cons] at hbR hbW
      generalize hpx:bb (av g) (bD x)=p at hgp hi hra
      simp (disch:=omega) only [↓wr,↓reduceIte,wq,ag,Nat.reduceEqDiff,Nat.reduceAdd,Nat.reduceLT,Int.reduceNeg,reduceCtorEq,t0,hb,gT]
      simp (disch:=omega) only [↓wr,↓reduceIte,wq,af,Nat.reduceEqDiff,Nat.reduceAdd,Nat.reduceLT,Int.reduceNeg,reduceCtorEq,t0,hb,gT,hgp,bO,hi]
      intro n hn1
      rw[bQ]
      simp (disch:=omega) only [↓wr,↓reduceIte,wq,Nat.reduceEqDiff,Int.reduceNeg]
      refine cp ((ho.at 1 (by simp)).fresh hn1) (by simp[aO]) (by unfold aG; simp; omega) (by unfold aG; simp; omega) ?_
      intro u1 H1 o1 _
      simp only[List.eraseIdx_cons_succ,List.eraseIdx_cons_zero] at o1
      have hb1:=o1.is 1 rfl (by simp)
      have c1:=o1.head.cells
      have k1:=o1.head.gX
      simp (disch:=omega) only [↓wr,↓reduceIte,wq,aa,Nat.reduceEqDiff,Nat.reduceAdd,Nat.reduceLT,Nat.reduceLeDiff,Int.reduceNeg,reduceCtorEq,t0,hb1,gT,c1,k1,aK,List.getElem?_map,hr,encI]
      have o2:=(o1.at 1 (by simp)).put (es':=[gT g u1 uw]) rfl rfl
      simp only[List.eraseIdx_cons_succ,List.eraseIdx_cons_zero] at o2
      have hcall:=D4 g hg hf b f r.right hrw.2.2.1 (fun y hy=>⟨hrw.2.2.2 y hy,fun hn=>hf.neg hmr hy hn⟩) hur (R ++ [(ri:Int)]) W _
        (by simp only[List.length_append,List.length_cons,List.length_nil]; omega) (by simp only[List.length_append]; omega) ⟨u1,uw,by simpa using o2⟩
      simp only[gT,encI] at hcall
      refine aC.gA (hcall.mono ?_)
      rintro v H2 ⟨ur2,uw2,o3⟩
      simp (disch:=omega) only [↓wr,↓reduceIte,wq,ag,Nat.reduceEqDiff,Int.reduceNeg,reduceCtorEq,t9]
      exact ⟨0,by omega,1,by omega,.inr ⟨rfl,ur2,uw2,by simpa using o3⟩,t0,t7,t8,rfl⟩
    · simp (disch:=omega) only [↓wr,↓reduceIte,wq,ag,Int.reduceNeg,fh,t8,t9]
      refine ar.dec (fun hc=>absurd hc (by decide)) (fun _=>?_)
      simp (disch:=omega) only [↓wr,↓reduceIte,wq,reduceCtorEq]
      exact ho
def si:SF:=⟨.seq (ak [cx 3 0,((some 6),.op (.aZ (.val (.val (.pointer none))))),aH 7 0]) <|
  .seq (.region true [⟨none,[aT 11 4 3,aT 12 4 3,aL 13 231 [12],((some 14),.op (.build [(.emp 1),(.emp 1),(.emp 1),(.val (.int .i64 0)),(.emp 1),(.emp 1),(.emp 1)] [(0,4,(.tmp 11)),(4,1,(.tmp 13))])),((some 15),.op (.box (.tmp 14))),ae 8 15]⟩]) <|
  .seq (ak [ae 17 1,ae 18 8,bJ 19 18,aq 20 4 19,an 21 20,aL 22 232 [17,21],ae 16 22,bU 23 0 16,bU 24 1 16,((some 9),.op (.alloc [(.val (.int .i64 0)),(.val (.int .i64 0)),(.val (.int .i64 0)),(.val (.int .i64 0))])),(none,.op (.store 4 (.tmp 9) (.tmp 23))),ae 10 24]) <|
  .seq (.block 0 (.seq (ak [ae 26 10,cd 27 26,ae 25 27]) <|
  .cond (.tmp 25) (.seq (ak [((some 6),.op (.aZ (.val (.val (.pointer none))))),aH 7 9]) <|
  .ret) (.seq (.region false [⟨none,[aq 29 2 9,an 30 29,ax 31 .gtr 30 300,ae 32 31]⟩,⟨(some (32,false)),[aq 33 3 9,an 34 33,ae 35 2,aR 36 .gtr 34 35]⟩,⟨none,[bH 37 32 36,ae 28 37]⟩]) <|
  .cond (.tmp 28) (.seq (ak [((some 6),.op (.aZ (.val (.val (.pointer none))))),aH 7 13]) <|
  .ret) (.skip)))) <|
  .seq (ak [ae 38 8,ae 39 1,aL 40 233 [38,39]]) <|
  .seq (ak [ae 41 8,ae 6 41,aH 7 0]) <|
  .ret,
  [.tmp 6,.tmp 7],42⟩
theorem xY:aU Tryz.prog 209 [3]=some si:=by kernel_rfl
def Bf:V:=.val (.pointer none)
def OR (g:ao) (l:List Int) (t:Int) (r:V) (H:View):Prop :=
  ((bE (av g) l bq).2=false∧r=.bt [Bf,gi 9]) ∨
  ((bE (av g) l bq).2=true∧(300 < (bE (av g) l bq).1.rules∨t < (bE (av g) l bq).1.ay)∧r=.bt [Bf,gi 13]) ∨
  ((bE (av g) l bq).2=true∧¬ (300 < (bE (av g) l bq).1.rules∨t < (bE (av g) l bq).1.ay)∧∃ b,r=.bt [.ptr b 0 0,gi 0]∧DM g b (cE g (av g) g.au.length l) (dA g (av g) g.au.length l) H)
set_option maxHeartbeats 4000000 in
theorem Hk (g:ao) (hg:g.Ok) (hf:g.gp) (l:List Int) (hl:l.length≤50) (hn:∀ x∈l,bM x∧(x < 0→-1 - x < g.au.length)) (t:Int) (u:V) (H:View) (hi:xc H u l) :
    az Tryz.prog 209 [.agg (al g),u,gi t] H (OR g l t):=by
  have hsl:aN l:=by unfold aN; omega
  have z2:=hf.au
  have z3:=hf.rules
  refine az.of mixed xY ?_
  simp (disch:=omega) only [↓wr,↓reduceIte,wq,ah,Nat.reduceEqDiff,Nat.reduceAdd,Nat.reduceLeDiff,si,al,encS]
  refine aC.pure (Ka g hg hf).pure (by kernel_rfl) ?_
  simp (disch:=omega) only [↓wr,↓reduceIte,wq,aa,ab,Nat.reduceEqDiff,Nat.reduceAdd,Nat.reduceLT,Nat.reduceLeDiff]
  intro b hb
  have hi1:xc (H.set b (.arr 7 [gT g (.emp 1) (.emp 1)])) u l:=hi.keep fun id hid=>by
    have:id≠b:=by rintro rfl; exact hid hb
    simp[View.set,this]
  try simp (disch:=omega) only [↓wr,↓reduceIte,wq,ah,ag,aj,aa,ab,af,ai,isNil,Nat.reduceEqDiff,Nat.reduceAdd,Nat.reduceLT,Nat.reduceLeDiff,Int.reduceNeg,Int.reduceToNat,reduceCtorEq]
  have hP:∀ m,vT (bb (av g) m):=fun m=>zN z3 z2 m
  refine aC.qq (Jl (av g) hP l hsl fun x hx=>⟨(hn x hx).1,fun h=>by rw[eH]; exact (hn x hx).2 h⟩) (by kernel_rfl) ⟨hi1.BY,dh.tree (qu _),trivial⟩ ?_
  have hsz:=fun (h:fG (av g) l)=>And.intro (xU h) (xZ g g.au.length l bq (As h) jX)
  have hok:=jc (av g) l bq
  have hwt:=Cy hf.right g.au.length l
  have hps:=nZ (fun m=>(hP m).1) l bq jX
  unfold OR
  generalize hsp:bE (av g) l bq=sp at hok hps hsz ⊢
  unfold dc at hps
  simp (disch:=omega) only [↓wr,↓reduceIte,wq,aa,Nat.reduceEqDiff,Nat.reduceAdd,Nat.reduceLT,Nat.reduceLeDiff,bO]
  intro n hn1
  have hnb:=(bV hn1 bT).1
  have hnH:=(bV hn1 bT).2
  try simp (disch:=omega) only [↓wr,↓reduceIte,wq,ah,ag,aj,aa,ab,af,ai,isNil,Nat.reduceEqDiff,Nat.reduceAdd,Nat.reduceLT,Nat.reduceLeDiff,Int.reduceNeg,Int.reduceToNat,reduceCtorEq,bO]
  refine ar.split (fun hs=>?_) (fun hs=>?_)
  · have hak:=hok.1 hs
    simp (disch:=omega) only [↓wr,↓reduceIte,wq,ag,Nat.reduceEqDiff,Nat.reduceAdd,Nat.reduceLT]
    refine ar.dec (fun h3=>?_) (fun h3=>?_)
    · simp (disch:=omega) only [↓wr,↓reduceIte,wq,Nat.reduceEqDiff,Nat.reduceAdd,reduceCtorEq]
      exact .inr (.inl ⟨hs,.inl h3,rfl⟩)
    · simp (disch:=omega) only [↓wr,↓reduceIte,wq,ag,Nat.reduceEqDiff,Nat.reduceAdd,Nat.reduceLT]
      refine ar.dec (fun h4=>?_) (fun h4=>?_)
      · simp (disch:=omega) only [↓wr,↓reduceIte,wq,Nat.reduceEqDiff,Nat.reduceAdd,reduceCtorEq]
        exact .inr (.inl ⟨hs,.inr h4,rfl⟩)
      · simp (disch:=omega) only [↓wr,↓reduceIte,wq,Nat.reduceEqDiff,Nat.reduceAdd,reduceCtorEq]
        have ho:=(bC.nil (H:=H)).new hb 7 [gT g (.emp 1) (.emp 1)]
        have hlt:=(hsz hak).1 (by omega)
        have hx:=EY g hg hf b g.au.length l hsl hn (As hak) [] [] (((H.set b (.arr 7 [gT g (.emp 1) (.emp 1)])).set n (.arr 4 [[gi 0,gi 0,gi 0,gi 0]])).set n (.arr 4 [bO sp.1]))
          (by simp only[List.nil_append]; omega) (by simp only[List.nil_append]; omega)
          ⟨.emp 1,.emp 1,by
            rw[set_set]
            have o2:=ho.fresh (n:=n) (o:=.arr 4 [bO sp.1]) (by simp[View.set,hnb,hnH])
            exact ((o2.emp (k:=1) (sz:=1)).emp (k:=1) (sz:=1)).perm (qP.trans (.swap _ _ _))⟩ u
          (hi1.keep fun id hid=>by
            have:id≠n:=by rintro rfl; simp[View.set,hnb,hnH] at hid
            simp[View.set,this])
        simp only[List.nil_append,gT,bO] at hx
        refine aC.gA (hx.mono ?_)
        intro v H1 hw
        simp (disch:=omega) only [↓wr,↓reduceIte,wq,Nat.reduceEqDiff,reduceCtorEq]
        exact .inr (.inr ⟨hs,by omega,b,rfl,hw⟩)
  · simp (disch:=omega) only [↓wr,↓reduceIte,wq,Nat.reduceEqDiff,Nat.reduceAdd,reduceCtorEq]
    exact .inl ⟨hs,rfl⟩
def xF:SF:=⟨.seq (ak [cx 2 0,((some 4),.op (.aZ (.val (.emp 1)))),aH 5 0]) <|
  .seq (.seq (.region false [⟨none,[aT 8 4 2,aL 9 45 [8],cd 10 9,ae 11 10]⟩,⟨(some (11,false)),[ae 12 1,ax 13 .lss 12 0]⟩,⟨none,[bH 14 11 13,ae 15 14]⟩,⟨(some (15,false)),[ae 16 1,aq 17 1 2,an 18 17,aP 19 18,aR 20 .geq 16 19]⟩,⟨none,[bH 21 15 20]⟩]) <|
  .cond (.tmp 21) (.seq (ak [((some 4),.op (.aZ (.val (.emp 1)))),aH 5 1]) <|
  .ret) (.skip)) <|
  .seq (ak [aT 23 4 2,ae 24 1,((some 25),.op (.arith .sub (.val (.val (.int .i64 (-1)))) (.tmp 24))),((some 26),.op (.bA 1 1 [(.val (.int .i64 0))] [(0,(.tmp 25))])),cL 27 209 [(.tmp 23),(.tmp 26),(.val (.val (.int .i64 1048576)))],ae 22 27,bU 28 0 22,bU 29 1 22,ae 6 28,ae 7 29]) <|
  .seq (.seq (ak [ae 30 7,ax 31 .neq 30 0]) <|
  .cond (.tmp 31) (.seq (ak [ae 32 7,((some 4),.op (.aZ (.val (.emp 1)))),ae 5 32]) <|
  .ret) (.skip)) <|
  .seq (ak [ae 33 6,bJ 34 33,aq 35 5 34,an 36 35,ae 4 36,aH 5 0]) <|
  .ret,
  [.tmp 4,.tmp 5],37⟩
theorem A0:aU Tryz.prog 169 [2]=some xF:=by kernel_rfl
set_option maxHeartbeats 4000000 in
theorem LC (g:ao) (hg:g.Ok) (hs:g.Small) (n:Int) (hn:bM n):bP Tryz.prog 169 [.agg (al g),gi n] (gV (fg g n)):=by
  have hsh:=hg.au
  unfold aN at hsh
  unfold bM at hn
  refine bP.of (u7 g n) ?_
  refine az.of mixed A0 ?_
  simp (disch:=omega) only [↓wr,↓reduceIte,wq,ah,Nat.reduceEqDiff,Nat.reduceAdd,Nat.reduceLeDiff,Int.reduceNeg,xF,al,encS]
  refine aC.pure (lR g hg hs.names) (by kernel_rfl) ?_
  have bad:∀ h':aE,(bm g && decide (0≤n) && decide (n < g.au.length))=false→cP h' (.bt [.emp 1,gi 1]) (gV (fg g n)):=fun h' e=>by
    unfold fg; rw[if_neg (by rw[e]; simp)]; exact cW (x:=([],1)) (.emp _)
  repeat' (first | (refine ar.dec (fun _=>?_) (fun _=>?_)) | (refine ar.eq (fun _=>?_) (fun _=>?_)) | (refine ar.ne (fun _=>?_) (fun _=>?_)) | (refine ar.split (fun _=>?_) (fun _=>?_)) | (simp (disch:=omega) only [↓wr,↓reduceIte,wq,ag,aj,af,Nat.reduceEqDiff,Nat.reduceAdd,Nat.reduceLT,Nat.reduceLeDiff,Int.reduceNeg,reduceCtorEq]))
  all_goals first
    | (intro h' _; refine bad h' ?_; simp only[Bool.and_eq_false_iff,decide_eq_false_iff_not]; first | (left; left; assumption) | (left; right; omega) | (right; omega))
    | skip
  have hr:bm g=true:=by assumption
  have h0:0≤n:=by omega
  have h1:n < g.au.length:=by omega
  have hf:=aX hr
  have hA:fg g n=_:=if_pos (by simp[hr,h0,h1])
  intro m
  try simp (disch:=omega) only [↓wr,↓reduceIte,wq,ah,ag,aj,aa,ab,af,ai,isNil,Nat.reduceEqDiff,Nat.reduceAdd,Nat.reduceLT,Nat.reduceLeDiff,Int.reduceNeg,Int.reduceToNat,reduceCtorEq,al,encS]
  have hw:=Hk g hg hf [-1 - n] (by simp) (fun x hx=>by simp at hx; subst hx; exact ⟨by unfold bM; omega,fun _=>by omega⟩) 1048576 (.sl m 0 1 1) (View.set (fun _=>.dead) m (.arr 1 [[gi (-1 - n)]])) (.inr ⟨m,-1 - n,rfl,by omega,rfl,by simp[View.set]⟩)
  simp only[al,encS] at hw
  refine aC.gA (hw.mono ?_)
  have hb:=Hp (av g) [-1 - n] bq
  have e:bD (-1 - n)=n.toNat:=by unfold bD; omega
  simp only[xR,List.any_cons,List.any_nil,Bool.or_false,decide_eq_true (show -1 - n < 0 by omega),Bool.true_and,e] at hb
  have hpos:dc (bb (av g) n.toNat):=fW g _ _
  unfold dc at hpos
  rintro r H1 (⟨h2,rfl⟩ | ⟨h2,h3,rfl⟩ | ⟨h2,h3,b,rfl,ur,uw,ho⟩)
  · simp (disch:=omega) only [↓wr,↓reduceIte,wq,ag,Nat.reduceEqDiff,Nat.reduceAdd,Nat.reduceLT,Int.reduceNeg,Bf]
    refine ar.ne (fun _=>?_) (fun hc=>absurd hc (by decide))
    simp (disch:=omega) only [↓wr,↓reduceIte,wq,Nat.reduceEqDiff,Int.reduceNeg,reduceCtorEq]
    rw[hb] at h2
    rw[if_pos (by simpa using h2)] at hA
    intro h' _
    rw[hA]; exact cW (x:=([],9)) (.emp _)
  · simp (disch:=omega) only [↓wr,↓reduceIte,wq,ag,Nat.reduceEqDiff,Nat.reduceAdd,Nat.reduceLT,Int.reduceNeg,Bf]
    refine ar.ne (fun _=>?_) (fun hc=>absurd hc (by decide))
    simp (disch:=omega) only [↓wr,↓reduceIte,wq,Nat.reduceEqDiff,Int.reduceNeg,reduceCtorEq]
    rw[hb] at h2
    have hk:¬ (bb (av g) n.toNat).ba < 0:=by simpa using h2
    obtain ⟨s1,s2⟩:=ye h0 (show bf (av g) n.toNat by unfold bf; omega)
    rw[if_neg hk,if_pos (by omega)] at hA
    intro h' _
    rw[hA]; exact cW (x:=([],13)) (.emp _)
  · rw[hb] at h2
    have hk:¬ (bb (av g) n.toNat).ba < 0:=by simpa using h2
    obtain ⟨s1,s2⟩:=ye h0 (show bf (av g) n.toNat by unfold bf; omega)
    rw[if_neg hk,if_neg (by omega)] at hA
    have hbo:=ho.is 0 rfl (by simp)
    simp (disch:=omega) only [↓wr,↓reduceIte,wq,ag,Nat.reduceEqDiff,Nat.reduceAdd,Nat.reduceLT,Int.reduceNeg]
    refine ar.ne (fun hc=>absurd rfl hc) (fun _=>?_)
    simp (disch:=omega) only [↓wr,↓reduceIte,wq,Nat.reduceEqDiff,Nat.reduceAdd,Nat.reduceLT,Int.reduceNeg,reduceCtorEq,hbo,gT]
    intro h' hh
    rw[hA]; exact cW (x:=(_,0)) (eU (by rw[hh]; exact ho.own 1 rfl))
def tX:SC :=
  .seq (ak [aR 26 .lss 25 24]) <|
  .seq (.cond (.tmp 26) (.skip) (.exit 0)) <|
  .seq (.block 1 (.seq (ak [ae 27 25,aQ 28 1 23 25,an 29 28,ae 11 27,ae 12 29]) <|
  .seq (.seq (ak [ae 30 12,ax 31 .geq 30 0]) <|
  .cond (.tmp 31) (.exit 1) (.skip)) <|
  .seq (ak [ae 32 3,ae 13 32]) <|
  .seq (.seq (ak [ae 33 11,ae 34 2,aR 35 .neq 33 34]) <|
  .cond (.tmp 35) (.seq (ak [aT 37 4 4,ae 38 12,((some 39),.op (.arith .sub (.val (.val (.int .i64 (-1)))) (.tmp 38))),aL 40 169 [37,39],ae 36 40,bU 41 0 36,bU 42 1 36,ae 14 41,ae 15 42]) <|
  .seq (.seq (ak [ae 43 15,ax 44 .neq 43 0]) <|
  .cond (.tmp 44) (.seq (ak [((some 8),.op (.aZ (.val (.emp 1)))),bg 9 false]) <|
  .ret) (.skip)) <|
  ak [ae 45 14,ae 13 45]) (.skip)) <|
  ak [ae 46 10,ae 47 13,((some 48),.op (.bA 2 1 [(.emp 1)] [(0,(.tmp 46)),(1,(.tmp 47))])),aL 49 76 [48],ae 10 49])) <|
  ak [ax 50 .add 25 1,ae 25 50]
def xg:SF:=⟨.seq (ak [cx 4 0,((some 8),.op (.aZ (.val (.emp 1)))),bg 9 false]) <|
  .seq (ak [ae 16 1,((some 17),.op (.bA 1 1 [(.val (.int .i64 0))] [(0,(.tmp 16))])),ae 10 17]) <|
  .seq (.seq (ak [aq 18 2 4,an 19 18,ae 20 1,aQ 21 3 19 20,aq 22 1 21,an 23 22,aP 24 23,aH 25 0]) <|
  .block 0 (.loop tX)) <|
  .seq (ak [ae 51 10,ae 52 10,aP 53 52,ax 54 .leq 53 300,ae 8 51,ae 9 54]) <|
  .ret,
  [.tmp 8,.tmp 9],55⟩
theorem Ao:aU Tryz.prog 110 [4]=some xg:=by kernel_rfl
set_option maxHeartbeats 4000000 in
theorem E3 (g:ao) (hg:g.Ok) (hsm:g.Small) (hf:g.gp) (k:Nat) (hk:k < g.rules.length) (p:Int) (hp:bM p) (inn:List Int) (hi:inn.length≤300) :
    bP Tryz.prog 110 [.agg (al g),gi k,gi p,encI inn] (.bt [encI (dP g k p inn).1,gb (dP g k p inn).2]):=by
  refine bP.of (by
    intro v hv; simp at hv
    rcases hv with rfl | rfl | rfl | rfl
    · exact cg _ (cO g)
    · exact .val _
    · exact .val _
    · exact bX _) ?_
  refine az.of mixed Ao ?_
  have hR:g.rules[k]?=some (g.rules[k]'(by omega)):=List.getElem?_eq_getElem (by omega)
  have hmr:=List.mem_of_getElem? hR
  have hrt:qa g k=(g.rules[k]'hk).right:=by simp[qa,hR]
  generalize g.rules[k]'hk=R at hR hmr hrt
  have hrw:=hg.ba R hmr
  have hr6:=hf.right R hmr
  have hrl:=hf.rules
  unfold dP
  rw[hrt]
  simp (disch:=omega) only [↓wr,↓reduceIte,wq,ah,aj,af,Nat.reduceEqDiff,Nat.reduceAdd,Nat.reduceLT,Nat.reduceLeDiff,xg,al,encS,encI,aK,List.getElem?_map,hR]
  intro m
  refine bc.up R.right.length (fun i T H'=>∃ u a,cz g p inn 0 (R.right.take i)=some a∧aV H' u 1 (aW (k :: a))∧T 2=gi p∧T 3=encI inn∧T 4=.aS (al g) 0∧T 10=u∧T 23=encI R.right∧T 24=gi R.right.length∧T 25=gi i) ?_ ?_
  · refine ⟨_,[],rfl,?_,rfl,rfl,rfl,rfl,rfl,rfl,rfl⟩
    exact ((bC.nil (H:=fun _=>bR.dead)).new (n:=m) rfl 1 [[gi k]]).head
  · rintro i j T H1 hj ⟨u,a,ha,ho,t2,t3,t4,t10,t23,t24,t25⟩
    simp (disch:=omega) only [↓wr,↓reduceIte,wq,ag,aj,Nat.reduceEqDiff,Int.reduceNeg,tX,t24,t25,encI]
    have hal:=Ak hi _ _ _ ha
    simp only[List.length_take] at hal
    refine ar.dec (fun hc=>?_) (fun hc=>?_)
    · have h2:R.right[i]?=some (R.right[i]'(by omega)):=List.getElem?_eq_getElem (by omega)
      have htk:R.right.take (i+1)=R.right.take i ++ [R.right[i]'(by omega)]:=by rw[List.take_add_one,h2]; rfl
      have hs64:=hrw.2.2.2 _ (List.mem_of_getElem? h2)
      generalize R.right[i]'(by omega)=s at h2 htk hs64
      unfold bM at hs64
      have hap:=qo (g:=g) (p:=p) (inn:=inn) (R.right.take i) [s] 0
      have ei:(0:Int)+((R.right.take i).length:Nat)=i:=by simp; omega
      rw[← htk,ha,ei] at hap
      simp only[cz,Option.map_some,List.append_nil] at hap
      simp (disch:=omega) only [↓wr,↓reduceIte,wq,ag,Nat.reduceEqDiff,Nat.reduceLT,Int.reduceNeg,t23,t25,encI,List.getElem?_map,h2]
      refine ar.dec (fun hs=>?_) (fun hs=>?_)
      · simp (disch:=omega) only [↓wr,↓reduceIte,wq,ag,Nat.reduceEqDiff,reduceCtorEq,t10,t25]
        rw[if_pos hs] at hap
        exact aJ hj (by omega) ⟨u,a,by simpa using hap,ho,t2,t3,t4,t10,t23,t24,rfl⟩
      · rw[if_neg hs] at hap
        simp (disch:=omega) only [↓wr,↓reduceIte,wq,ag,Nat.reduceEqDiff,Int.reduceNeg,t2,t3,encI]
        refine ar.ne (fun he=>?_) (fun he=>?_)
        rotate_left
        · simp (disch:=omega) only [↓wr,↓reduceIte,wq,af,Nat.reduceEqDiff,Nat.reduceAdd,Nat.reduceLT,t10]
          rw[if_pos he] at hap
          have cu:=aV.cells ho
          have ck:=aV.gX ho
          simp (disch:=omega) only [↓wr,↓reduceIte,wq,cu,ck]
          intro q hq
          have hcc:=Cj [(u,(k:Int) :: a),(encI (inn),inn)] q (H1.set q (.arr 1 [[u],[encI (inn)]])) (by simp[View.set]) (by
            intro x hx
            simp only[List.mem_cons,List.not_mem_nil,or_false] at hx
            rcases hx with rfl | rfl
            · exact .inr (ho.other (o:=.arr 1 [[u],[encI (inn)]]) (fun e=>by have e2:=(ho.live e).1; rw[hq] at e2; simp at e2))
            · exact .inl rfl) (by simp; omega) (by simp)
          simp only[encI] at hcc
          refine aC.gA (hcc.mono ?_)
          rintro r H2 ⟨o2,_⟩
          simp (disch:=omega) only [↓wr,↓reduceIte,wq,ag,Nat.reduceEqDiff,reduceCtorEq,t25]
          refine aJ hj (by omega) ⟨r,a ++ inn,by simpa using hap,?_,t2,t3,t4,rfl,t23,t24,rfl⟩
          simpa using o2
        · rw[if_neg he] at hap
          simp (disch:=omega) only [↓wr,↓reduceIte,wq,ag,Nat.reduceEqDiff,Nat.reduceAdd,Nat.reduceLeDiff,Int.reduceNeg,t4,al,encS]
          have hcall:=(LC g hg hsm (-1 - s) (by unfold bM; omega)).pure
          have ht:=zF g (-1 - s)
          simp only[al,encS,gV,encI] at hcall
          refine aC.pure hcall (by kernel_rfl) ?_
          simp (disch:=omega) only [↓wr,↓reduceIte,wq,ag,Nat.reduceEqDiff,Nat.reduceAdd,Nat.reduceLT,Int.reduceNeg]
          refine ar.ne (fun h0=>?_) (fun h0=>?_)
          · simp (disch:=omega) only [↓wr,↓reduceIte,wq,ag,Nat.reduceEqDiff,Int.reduceNeg,reduceCtorEq]
            intro h' _
            rw[if_neg h0] at hap
            have e:=qo (g:=g) (p:=p) (inn:=inn) (R.right.take (i+1)) (R.right.drop (i+1)) 0
            rw[List.take_append_drop,hap] at e
            simp only[Option.map_none] at e
            rw[e]
            exact uE (x:=([],false)) (.emp _)
          · rw[if_pos h0] at hap
            simp (disch:=omega) only [↓wr,↓reduceIte,wq,af,Nat.reduceEqDiff,Nat.reduceAdd,Nat.reduceLT,Int.reduceNeg,t10]
            have cu:=aV.cells ho
            have ck:=aV.gX ho
            simp (disch:=omega) only [↓wr,↓reduceIte,wq,Int.reduceNeg,cu,ck]
            intro q hq
            have hcc:=Cj [(u,(k:Int) :: a),(encI ((fg g (-1 - s)).1),(fg g (-1 - s)).1)] q (H1.set q (.arr 1 [[u],[encI ((fg g (-1 - s)).1)]])) (by simp[View.set]) (by
              intro x hx
              simp only[List.mem_cons,List.not_mem_nil,or_false] at hx
              rcases hx with rfl | rfl
              · exact .inr (ho.other (o:=.arr 1 [[u],[encI ((fg g (-1 - s)).1)]]) (fun e=>by have e2:=(ho.live e).1; rw[hq] at e2; simp at e2))
              · exact .inl rfl) (by simp; omega) (by simp)
            simp only[encI] at hcc
            refine aC.gA (hcc.mono ?_)
            rintro r H2 ⟨o2,_⟩
            simp (disch:=omega) only [↓wr,↓reduceIte,wq,ag,Nat.reduceEqDiff,Int.reduceNeg,reduceCtorEq,t25]
            refine aJ hj (by omega) ⟨r,a ++ (fg g (-1 - s)).1,by simpa using hap,?_,t2,t3,t4,rfl,t23,t24,rfl⟩
            simpa using o2
    · rw[List.take_of_length_le (by omega)] at ha
      have l2:=aV.len ho
      simp (disch:=omega) only [↓wr,↓reduceIte,wq,ag,Nat.reduceEqDiff,reduceCtorEq,t10,l2]
      rintro h' rfl
      rw[ha]
      have f1:=uE (h:=h') (u:=u) (x:=((k:Int) :: a,decide (((k:Int) :: a).length≤300))) (eU ho)
      have e:(decide ((((aW ((k:Int) :: a)).length:Nat):Int)≤300))=decide (((k:Int) :: a).length≤300):=by
        apply decide_eq_decide.2; simp; omega
      simp[encI] at f1 e ⊢
      rw[decide_eq_decide.2 e]
      exact f1
def qQ (F:List Way) (i:Nat):List V:=match lookW F i with
  | some w=>[gi w.ba,gi w.place]
  | none=>[gi 0,gi 0]
def eL (n:Nat) (F:List Way):List (List V):=(List.range n).map (qQ F)
def ir (n:Nat) (F:List Way):List Bool:=(List.range n).map fun (i:Nat)=>decide ((i:Int)∈bu F)
theorem LF (n:Nat) (F:List Way):(eL n F).length=n:=by simp[eL]
theorem J6 {n i:Nat} {F:List Way} (h:i < n):(ir n F)[i]?=some (decide ((i:Int)∈bu F)):=by simp[ir,h]
theorem wK {F:List Way} {w:Way} {n:Int} : lookW (F ++ [w]) n=match lookW F n with
    | some x=>some x
    | none=>if w.bW=n then some w else none:=by
  unfold lookW
  rw[List.find?_append]
  cases h:F.find? fun x=>x.bW == n with
  | some x=>rfl
  | none =>
    simp only[Option.none_or,List.find?_cons,List.find?_nil]
    by_cases e:w.bW=n
    · simp[e]
    · have:(w.bW == n)=false:=by simpa using e
      rw[this]; simp[e]
theorem xw {F:List Way} {n:Int} (h:n ∉ bu F):lookW F n=none:=by
  rw[lookW,List.find?_eq_none]
  intro x hx e
  exact h (List.mem_map.2 ⟨x,hx,by simpa using e⟩)
theorem B8 {n m:Nat} {F:List Way} {w:Way} (hw:w.bW=m):ir n (F ++ [w])=(ir n F).set m true:=by
  refine List.ext_getElem (by simp[ir]) fun i h1 h2=>?_
  simp only[ir,List.getElem_map,List.getElem_range,List.getElem_set,bu,List.map_append,List.mem_append,List.map_cons,List.map_nil,List.mem_singleton,hw]
  split
  · rename_i e; subst e; simp
  · rename_i e
    apply decide_eq_decide.2
    constructor
    · rintro (h | h)
      · exact h
      · omega
    · exact .inl
theorem C4 {n m:Nat} {F:List Way} {w:Way} (hw:w.bW=m) (hn:w.bW ∉ bu F):eL n (F ++ [w])=(eL n F).set m [gi w.ba,gi w.place]:=by
  refine List.ext_getElem (by simp[eL]) fun i h1 h2=>?_
  simp only[eL,List.getElem_map,List.getElem_range,List.getElem_set]
  by_cases e:m=i
  · subst e
    rw[if_pos rfl,qQ,wK,← hw,xw hn]
    simp
  · rw[if_neg e,qQ,qQ,wK]
    cases h:lookW F i with
    | some x=>rfl
    | none=>simp only; rw[if_neg (by omega)]
def kB:SC :=
  .seq (.seq (ak [ae 54 8,aq 55 2 1,an 56 55,ae 57 7,aQ 58 3 56 57,aq 59 1 58,an 60 59,aP 61 60,aR 62 .lss 54 61]) <|
  .cond (.tmp 62) (.skip) (.exit 4)) <|
  .seq (.block 5 (.seq (ak [aq 65 2 1,an 66 65,ae 67 7,aQ 68 3 66 67,aq 69 1 68,an 70 69,ae 71 8,aQ 72 1 70 71,an 73 72,ae 9 73]) <|
  .seq (.region false [⟨none,[ae 74 9,ax 75 .lss 74 0,ae 76 75]⟩,⟨(some (76,true)),[ae 77 4,ae 78 9,((some 79),.op (.arith .sub (.val (.val (.int .i64 (-1)))) (.tmp 78))),aQ 80 1 77 79,an 81 80,cd 82 81]⟩,⟨none,[bN 83 76 82]⟩]) <|
  .cond (.tmp 83) (.seq (ak [ae 84 4,ae 85 9,((some 86),.op (.arith .sub (.val (.val (.int .i64 (-1)))) (.tmp 85))),aQ 87 1 84 86,(none,.op (.store 1 (.tmp 87) (.val (.val (.bool true)))))]) <|
  .seq (ak [ae 88 3,ae 89 9,((some 90),.op (.arith .sub (.val (.val (.int .i64 (-1)))) (.tmp 89))),ae 91 7,ae 92 8,((some 93),.op (.build [(.val (.int .i64 0)),(.val (.int .i64 0))] [(0,1,(.tmp 91)),(1,1,(.tmp 92))])),aQ 94 2 88 90,(none,.op (.store 2 (.tmp 94) (.tmp 93)))]) <|
  ak [ae 95 5,ae 96 9,((some 97),.op (.arith .sub (.val (.val (.int .i64 (-1)))) (.tmp 96))),((some 98),.op (.bA 1 1 [(.val (.int .i64 0))] [(0,(.tmp 97))])),((some 99),.op (.app 1 8 (.tmp 95) (.tmp 98))),ae 5 99]) (.skip))) <|
  ak [ae 63 8,ax 64 .add 63 1,ae 8 64]
def kE:SC :=
  .seq (.seq (ak [ae 36 7,aq 37 2 1,an 38 37,aP 39 38,aR 40 .lss 36 39]) <|
  .cond (.tmp 40) (.skip) (.exit 2)) <|
  .seq (.block 3 (.seq (.seq (ak [aq 43 2 1,an 44 43,ae 45 7,aQ 46 3 44 45,aq 47 0 46,an 48 47,ae 49 5,ae 50 6,aQ 51 1 49 50,an 52 51,aR 53 .neq 48 52]) <|
  .cond (.tmp 53) (.exit 3) (.skip)) <|
  .seq (ak [aH 8 0]) <|
  .block 4 (.loop kB))) <|
  ak [ae 41 7,ax 42 .add 41 1,ae 7 42]
def ky:SC :=
  .seq (.seq (ak [ae 30 6,ae 31 5,aP 32 31,aR 33 .lss 30 32]) <|
  .cond (.tmp 33) (.skip) (.exit 0)) <|
  .seq (.block 1 (.seq (ak [aH 7 0]) <|
  .block 2 (.loop kE))) <|
  ak [ae 34 6,ax 35 .add 34 1,ae 6 35]
def lC:SF:=⟨.seq (ak [cx 1 0,((some 2),.op (.aZ (.val (.emp 1))))]) <|
  .seq (ak [aq 10 1 1,an 11 10,aP 12 11,((some 13),.op (.make 2 16 [(.val (.int .i64 0)),(.val (.int .i64 0))] (.tmp 12) (.tmp 12))),ae 3 13]) <|
  .seq (ak [aq 14 1 1,an 15 14,aP 16 15,((some 17),.op (.make 1 1 [(.val (.bool false))] (.tmp 16) (.tmp 16))),ae 4 17]) <|
  .seq (ak [aq 18 3 1,an 19 18,((some 20),.op (.bA 1 1 [(.val (.int .i64 0))] [(0,(.tmp 19))])),ae 5 20]) <|
  .seq (ak [ae 21 4,aq 22 3 1,an 23 22,aQ 24 1 21 23,(none,.op (.store 1 (.tmp 24) (.val (.val (.bool true)))))]) <|
  .seq (ak [ae 25 3,aq 26 3 1,an 27 26,((some 28),.op (.build [(.val (.int .i64 0)),(.val (.int .i64 0))] [(0,1,(.val (.val (.int .i64 (-1)))))])),aQ 29 2 25 27,(none,.op (.store 2 (.tmp 29) (.tmp 28)))]) <|
  .seq (.seq (ak [aH 6 0]) <|
  .block 0 (.loop ky)) <|
  .seq (ak [ae 100 3,ae 2 100]) <|
  .ret,
  [.tmp 2],101⟩
theorem q0:aU Tryz.prog 62 [1]=some lC:=by kernel_rfl
theorem Cz (n:Nat):eL n []=List.replicate n [gi 0,gi 0]:=by
  refine List.ext_getElem (by simp[eL]) fun i h1 h2=>?_
  simp[eL,qQ,lookW]
theorem C0 (n:Nat):ir n []=List.replicate n false:=by
  refine List.ext_getElem (by simp[ir]) fun i h1 h2=>?_
  simp[ir,bu]
theorem F7 {g:ao} (hf:g.gp) (i:Nat):c5 g (c8 g i)∧(c8 g i).length≤g.au.length:=by
  have h:=(E4 g i).1
  exact ⟨h,h.len ⟨hf.eA,hf.start⟩ fun R hR s hs hn=>by
    have:=hf.sym R hR s hs
    unfold im at this
    rw[if_neg (by omega)] at this
    simpa using this⟩
theorem c5.le {g:ao} (hf:g.gp) {F:List Way} (h:c5 g F):F.length≤g.au.length :=
  h.len ⟨hf.eA,hf.start⟩ fun R hR s hs hn=>by
    have:=hf.sym R hR s hs
    unfold im at this
    rw[if_neg (by omega)] at this
    simpa using this
theorem c5.ins {g:ao} (hf:g.gp) {F:List Way} (h:c5 g F):∀ n∈bu F,0≤n∧n < g.au.length :=
  h.inside ⟨hf.eA,hf.start⟩ fun R hR s hs hn=>by
    have:=hf.sym R hR s hs
    unfold im at this
    rw[if_neg (by omega)] at this
    simpa using this
theorem FB {g:ao} {i:Nat} (h:(c8 g i).length≤i) (hi:i≤g.au.length):dB g=c8 g i:=by
  have:=E8 h (g.au.length - i)
  rw[show i+(g.au.length - i)=g.au.length by omega] at this
  exact this
theorem CF (F:List Way) (i:Nat):∃ x y,qQ F i=[gi x,gi y]:=by
  unfold qQ
  split
  · exact ⟨_,_,rfl⟩
  · exact ⟨_,_,rfl⟩
theorem Ks {h:aE} {u:V} {n:Nat} {F:List Way} (ho:aV h.view u 2 (eL n F)):cP h u (.aY (eL n F)):=by
  refine cP.own ho rfl (fun i _=>rfl) (fun i j hi hj=>?_)
  rw[LF] at hi
  have e:(eL n F).getD i []=qQ F i:=by simp[eL,List.getD_eq_getElem?_getD,hi]
  obtain ⟨x,y,exy⟩:=CF F i
  rw[e,exy] at hj ⊢
  match j,hj with
  | 0,_=>exact .val _
  | 1,_=>exact .val _
  | j+2,hj=>exact absurd hj (by simp)
set_option maxHeartbeats 8000000 in
theorem HF (g:ao) (hg:g.Ok) (hf:g.gp):bP Tryz.prog 62 [.agg (al g)] (.aY (eL g.au.length (dB g))):=by
  refine bP.of (dM g) ?_
  refine az.of mixed q0 ?_
  obtain ⟨n1,n2,r1,r2,s1,s2⟩:=And.intro hf.ka (And.intro hf.au (And.intro hf.E2 (And.intro hf.rules (And.intro hf.eA hf.start))))
  have hs0:g.start=((g.start.toNat:Nat):Int):=by omega
  simp (disch:=omega) only [↓wr,↓reduceIte,wq,ah,aj,aa,af,Nat.reduceEqDiff,Nat.reduceAdd,Nat.reduceLT,Nat.reduceLeDiff,Int.reduceNeg,lC,al,encS]
  refine ⟨⟨by omega,by unfold aG; omega,by unfold aG; omega⟩,fun hz=>by omega,fun _ a=>?_⟩
  refine ⟨⟨by omega,by unfold aG; omega,by unfold aG; omega⟩,fun hz=>by omega,fun _ b hb c hc=>?_⟩
  obtain ⟨hba,_⟩:=bV hb bT
  obtain ⟨hcb,hc⟩:=bV hc bT
  obtain ⟨hca,_⟩:=bV hc bT
  simp (disch:=omega) only [↓wr,↓reduceIte,wq,aa,ab,Nat.reduceEqDiff,Nat.reduceAdd,Nat.reduceLT,Nat.reduceLeDiff,Int.reduceNeg,Ne.symm hba,Ne.symm hcb,Ne.symm hca]
  refine ⟨by omega,by simp; omega,by omega,by simp; omega,?_⟩
  refine bc.up g.au.length (fun i T H'=>∃ u,bC H' [(.sl a 0 g.au.length 2,2,eL g.au.length (c8 g i)),(.sl b 0 g.au.length 1,1,cD (ir g.au.length (c8 g i))),(u,1,aW (bu (c8 g i)))]∧T 1=.aS (al g) 0∧T 3=.sl a 0 g.au.length 2∧T 4=.sl b 0 g.au.length 1∧T 5=u∧T 6=gi i) ?_ ?_
  · refine ⟨.sl c 0 1 1,?_,rfl,rfl,rfl,rfl,rfl⟩
    have o1:=(bC.nil (H:=fun _=>bR.dead)).new (n:=a) rfl 2 (List.replicate g.au.length [gi 0,gi 0])
    have o2:=o1.new (n:=b) (by simp[View.set,hba]) 1 (List.replicate g.au.length [gb false])
    have o3:=o2.new (n:=c) (by simp[View.set,hcb,hca]) 1 [[gi g.start]]
    rw[List.length_replicate,List.length_replicate] at o3
    have o4:=(o3.perm (.swap _ _ _)).put (es':=cD (ir g.au.length (c8 g 0))) (by simp[ir]) (by simp)
    have o5:=((o4.perm qP).perm qP).put (es':=eL g.au.length (c8 g 0)) (by simp[eL]) (by simp)
    have e0:c8 g 0=[] ++ [⟨g.start,-1,0⟩]:=rfl
    have e1:=B8 (n:=g.au.length) (m:=g.start.toNat) (F:=[]) (w:=⟨g.start,-1,0⟩) hs0
    have e2:=C4 (n:=g.au.length) (m:=g.start.toNat) (F:=[]) (w:=⟨g.start,-1,0⟩) hs0 (by simp[bu])
    rw[e0,e1,e2,C0,Cz] at o5
    have g1:(List.replicate g.au.length [gb false]).getD g.start.toNat []=[gb false]:=by simp[List.getD_eq_getElem?_getD,show g.start.toNat < g.au.length by omega]
    have g2:(List.replicate g.au.length [gi 0,gi 0]).getD g.start.toNat []=[gi 0,gi 0]:=by simp[List.getD_eq_getElem?_getD,show g.start.toNat < g.au.length by omega]
    rw[g1,g2,e0,e1,e2,C0,Cz]
    rw[← fX,← sy] at o5 ⊢
    exact o5
  · rintro i k T H' hk ⟨u,ho,t1,t3,t4,t5,t6⟩
    have lu:=(ho.own 2 rfl).len
    have hW:=(F7 hf i)
    have hkl:(bu (c8 g i)).length=(c8 g i).length:=by simp[bu]
    simp (disch:=omega) only [↓wr,↓reduceIte,wq,ag,aj,Nat.reduceEqDiff,reduceCtorEq,ky,t5,t6,lu,al,encS]
    refine ar.dec (fun hc=>?_) (fun hc=>?_)
    · rw[hkl] at hc
      have hx:(c8 g i)[i]?=some ((c8 g i)[i]'(by omega)):=List.getElem?_eq_getElem (by omega)
      have hkx:(bu (c8 g i)).getD i 0=((c8 g i)[i]'(by omega)).bW:=by simp[bu,List.getD_eq_getElem?_getD,hx]
      generalize (c8 g i)[i]'(by omega)=x at hx hkx
      have hst:c8 g (i+1)=eN x.bW 0 g.rules (c8 g i):=by rw[c8,hx]
      simp (disch:=omega) only [↓wr,wq]
      refine bc.up g.rules.length (fun k T H'=>∃ u F,F=eN x.bW 0 (g.rules.take k) (c8 g i)∧c5 g F∧F[i]?=some x∧bC H' [(.sl a 0 g.au.length 2,2,eL g.au.length F),(.sl b 0 g.au.length 1,1,cD (ir g.au.length F)),(u,1,aW (bu F))]∧T 1=.aS (al g) 0∧T 3=.sl a 0 g.au.length 2∧T 4=.sl b 0 g.au.length 1∧T 5=u∧T 6=gi i∧T 7=gi k) ?_ ?_
      · exact ⟨u,_,rfl,hW.1,hx,ho,t1,t3,t4,t5,t6,rfl⟩
      · rintro kk k2 T2 H2 hk2 ⟨u,F,hF,hok,hFx,ho,t1,t3,t4,t5,t6,t7⟩
        simp (disch:=omega) only [↓wr,↓reduceIte,wq,ag,aj,Nat.reduceEqDiff,Nat.reduceAdd,Nat.reduceLT,kE,t1,t7,al,encS]
        refine ar.dec (fun hd=>?_) (fun hd=>?_)
        · have hR:g.rules[kk]?=some (g.rules[kk]'(by omega)):=List.getElem?_eq_getElem (by omega)
          have htk:g.rules.take (kk+1)=g.rules.take kk ++ [g.rules[kk]'(by omega)]:=by rw[List.take_add_one,hR]; rfl
          have hmr:=List.mem_of_getElem? hR
          generalize g.rules[kk]'(by omega)=R at hR htk hmr
          have hFk:(bu F)[i]?=some x.bW:=by simp[bu,hFx]
          have hil:=(List.getElem?_eq_some_iff.1 hFk).1
          obtain ⟨m,hu,hm⟩:=(ho.own 2 rfl).sl (by simp; omega)
          have hgk:(aW (bu F)).getD i []=[gi x.bW]:=by simp[List.getD_eq_getElem?_getD,hFk]
          subst hu
          simp (disch:=omega) only [↓wr,↓reduceIte,wq,ag,Nat.reduceEqDiff,Nat.reduceAdd,Nat.reduceLT,t1,t5,t6,t7,al,encS,aK,List.getElem?_map,hR,hm,hgk]
          refine ⟨hil,hil,?_⟩
          have hsn:eN x.bW 0 (g.rules.take (kk+1)) (c8 g i)=jy x.bW kk R F:=by
            rw[htk,sF,← hF]; simp[show min kk g.rules.length=kk by omega]
          refine ar.ne (fun hne=>?_) (fun hne=>?_)
          · simp (disch:=omega) only [↓wr,↓reduceIte,wq,ag,Nat.reduceEqDiff,reduceCtorEq,t3,t6,t7]
            exact aJ hk2 (by omega) ⟨_,F,by rw[hsn,jy,if_neg hne],hok,hFx,ho,t1,t3,t4,t5,t6,rfl⟩
          · have hr6:=hf.right R hmr
            simp (disch:=omega) only [↓wr,wq]
            refine bc.up R.right.length (fun j T H'=>∃ u F2,F2=gZ kk 0 (R.right.take j) F∧c5 g F2∧F2[i]?=some x∧bC H' [(.sl a 0 g.au.length 2,2,eL g.au.length F2),(.sl b 0 g.au.length 1,1,cD (ir g.au.length F2)),(u,1,aW (bu F2))]∧T 1=.aS (al g) 0∧T 3=.sl a 0 g.au.length 2∧T 4=.sl b 0 g.au.length 1∧T 5=u∧T 6=gi i∧T 7=gi kk∧T 8=gi j) ?_ ?_
            · exact ⟨_,F,rfl,hok,hFx,ho,t1,t3,t4,t5,t6,t7,rfl⟩
            · rintro j k3 T3 H3 hk3 ⟨u,F2,hF2,hok2,hFx2,ho2,t1,t3,t4,t5,t6,t7,t8⟩
              simp (disch:=omega) only [↓wr,↓reduceIte,wq,ag,aj,Nat.reduceEqDiff,Nat.reduceAdd,Nat.reduceLT,Int.reduceNeg,kB,t1,t7,t8,al,encS,aK,encI,List.getElem?_map,hR]
              refine ar.dec (fun he=>?_) (fun he=>?_)
              · have hS:R.right[j]?=some (R.right[j]'(by omega)):=List.getElem?_eq_getElem (by omega)
                have htj:R.right.take (j+1)=R.right.take j ++ [R.right[j]'(by omega)]:=by rw[List.take_add_one,hS]; rfl
                have hms:=List.mem_of_getElem? hS
                generalize R.right[j]'(by omega)=s at hS htj hms
                have hss:gZ kk 0 (R.right.take (j+1)) F=gO kk j s F2:=by
                  rw[htj,vA,← hF2]; simp[show min j R.right.length=j by omega]
                have hin:=hf.sym R hmr s hms
                have h64:=(hg.ba R hmr).2.2.2 s hms
                unfold bM at h64
                have hnx:=BF (k:=kk) (j:=j) hok2 hR hS hFx2 (Eq.symm hne)
                have hlen:=hok2.le hf
                simp (disch:=omega) only [↓wr,↓reduceIte,wq,ag,Nat.reduceEqDiff,Nat.reduceAdd,Nat.reduceLT,Int.reduceNeg,t1,t7,t8,al,encS,aK,encI,List.getElem?_map,hR,hS]
                refine ar.dec (fun hs=>?_) (fun hs=>?_)
                · unfold im at hin
                  rw[if_neg (by omega)] at hin
                  simp only[decide_eq_true_eq] at hin
                  have hml:(-1 - s).toNat < g.au.length:=by omega
                  have hmg:(cD (ir g.au.length F2)).getD (-1 - s).toNat []=[gb (decide (-1 - s∈bu F2))]:=by
                    rw[List.getD_eq_getElem?_getD,List.getElem?_map,J6 hml,show (((-1 - s).toNat:Nat):Int) = -1 - s by omega]; rfl
                  have hbH:=ho2.is 1 rfl (by simp[ir]; omega)
                  simp (disch:=omega) only [↓wr,↓reduceIte,wq,ag,Nat.reduceEqDiff,Nat.reduceLT,Int.reduceNeg,t4,hbH,hmg]
                  have haH:=ho2.is 0 rfl (by simp[eL]; omega)
                  have hab:¬ a=b:=ho2.Ey 0 1 rfl rfl (by decide)
                  refine ⟨hml,by simp[ir]; omega,?_⟩
                  refine ar.dec (fun hmem=>?_) (fun hmem=>?_)
                  · simp (disch:=omega) only [↓wr,↓reduceIte,wq,ag,Nat.reduceEqDiff,Int.reduceNeg,reduceCtorEq,t3,t6,t7,t8]
                    exact aJ hk3 (by omega) ⟨u,F2,by rw[hss,gO,if_neg (by rintro ⟨_,h⟩; exact h hmem)],hok2,hFx2,ho2,t1,t3,t4,t5,t6,t7,rfl⟩
                  · have hsym:gO kk j s F2=F2 ++ [⟨-1 - s,kk,j⟩]:=by rw[gO,if_pos ⟨by omega,hmem⟩]
                    have hn1 : -1 - s=(((-1 - s).toNat:Nat):Int):=by omega
                    have e1:=B8 (n:=g.au.length) (m:=(-1 - s).toNat) (F:=F2) (w:=⟨-1 - s,kk,j⟩) hn1
                    have e2:=C4 (n:=g.au.length) (m:=(-1 - s).toNat) (F:=F2) (w:=⟨-1 - s,kk,j⟩) hn1 hmem
                    have og:(eL g.au.length F2).getD (-1 - s).toNat []=qQ F2 (-1 - s).toNat:=by simp[eL,List.getD_eq_getElem?_getD,hml]
                    obtain ⟨wx,wy,ew⟩:=CF F2 (-1 - s).toNat
                    rw[ew] at og
                    simp (disch:=omega) only [↓wr,↓reduceIte,wq,ag,aa,ab,af,Nat.reduceEqDiff,Nat.reduceAdd,Nat.reduceLT,Nat.reduceLeDiff,Int.reduceNeg,t3,t4,t5,t7,t8,hbH,hmg,haH,hab,og]
                    refine ⟨hml,by simp[ir]; omega,hml,by simp[eL]; omega,fun q hq=>?_⟩
                    have p1:=(ho2.perm (.swap _ _ _)).put (es':=(cD (ir g.au.length F2)).set (-1 - s).toNat [gb true]) (by simp) (by simp[ir])
                    have p2:=(p1.perm (.swap _ _ _)).put (es':=(eL g.au.length F2).set (-1 - s).toNat [gi kk,gi j]) (by simp) (by simp[eL])
                    have p3:=((p2.perm qP).perm qP).fresh (n:=q) hq (o:=.arr 1 [[gi (-1 - s)]])
                    have hlen2:(bu F2).length≤16:=by simp[bu]; omega
                    simp (disch:=omega) only [↓wr,↓reduceIte,wq,Nat.reduceEqDiff,Int.reduceNeg,bQ]
                    refine cp p3 (by simp[aO]) (by unfold aG; simp; omega) (by unfold aG; simp; omega) ?_
                    intro u2 H4 o4 _
                    simp (disch:=omega) only [↓wr,↓reduceIte,wq,ag,Nat.reduceEqDiff,Int.reduceNeg,reduceCtorEq,t3,t6,t7,t8]
                    refine aJ hk3 (by omega) ⟨u2,_,rfl,?_,?_,?_,t1,t3,t4,rfl,t6,t7,rfl⟩
                    · rw[hss]; exact hnx
                    · rw[hss,hsym]; exact tR hFx2
                    · rw[hss,hsym,e1,e2,← fX]
                      have o5:=o4.perm qP
                      simpa [bu] using o5
                · simp (disch:=omega) only [↓wr,↓reduceIte,wq,ag,Nat.reduceEqDiff,Int.reduceNeg,reduceCtorEq,t3,t6,t7,t8]
                  exact aJ hk3 (by omega) ⟨u,F2,by rw[hss,gO,if_neg (by omega)],hok2,hFx2,ho2,t1,t3,t4,t5,t6,t7,rfl⟩
              · simp (disch:=omega) only [↓wr,↓reduceIte,wq,Nat.reduceEqDiff,reduceCtorEq,t3,t6,t7]
                rw[List.take_of_length_le (by omega)] at hF2
                exact aJ hk2 (by omega) ⟨u,F2,by rw[hsn,jy,if_pos hne,hF2],hok2,hFx2,ho2,t1,t3,t4,t5,t6,rfl⟩
        · simp (disch:=omega) only [↓wr,↓reduceIte,wq,Nat.reduceEqDiff,reduceCtorEq,t3,t6]
          rw[List.take_of_length_le (by omega)] at hF
          exact aJ hk (by omega) ⟨u,by rw[hst,← hF]; exact ho,t1,t3,t4,t5,rfl⟩
    · simp (disch:=omega) only [↓wr,↓reduceIte,wq,Nat.reduceEqDiff,reduceCtorEq,t3]
      rintro h' rfl
      rw[FB (i:=i) (by simpa [hkl] using hc) (by omega)]
      exact Ks (ho.own 0 rfl)
theorem Hw {g:ao} {F:List Way} (hF:c5 g F):∀ (f:Nat) (n:Int) (x:List Int × Bool),n∈bu F→dg F n≤f→cm g F f n x=cm g F (dg F n) n x:=by
  intro f
  induction f using Nat.strongRecOn with
  | _ f ih =>
    intro n x hn hf
    cases f with
    | zero=>rw[show dg F n=0 by omega]
    | succ f =>
      by_cases he:dg F n=f+1
      · rw[he]
      by_cases hx:x.2=true
      · by_cases hs:n=g.start
        · subst hs
          have h1:=kb hF
          have e1:∀ d,cm g F d g.start x=x:=fun d=>by
            cases d with
            | zero=>rw[cm]
            | succ d=>rw[cm,if_pos hx,h1]; simp only; rw[if_neg (by omega)]
          rw[e1,e1]
        · obtain ⟨k,j,R,h1,h2,h3,h4,h5,h6⟩:=xy hF hn hs
          have e1:∀ d,cm g F (d+1) n x=cm g F d R.left (dP g k j x.1):=fun d=>by
            rw[cm,if_pos hx,h1]; simp only; rw[if_pos (by omega),(ja h2).2]
          obtain ⟨m,hm⟩:∃ m,dg F n=m+1:=⟨dg F n - 1,by omega⟩
          rw[e1,hm,e1,ih f (by omega) _ _ h5 (by omega),ih m (by omega) _ _ h5 (by omega)]
      · have e1:∀ d,cm g F d n x=x:=fun d=>by
          cases d with
          | zero=>rw[cm]
          | succ d=>rw[cm,if_neg hx]
        rw[e1,e1]
theorem qn {g:ao} {F:List Way} (hF:c5 g F) {n:Int} {x:List Int × Bool} (h:x.2=false∨n=g.start):cm g F (dg F n) n x=x:=by
  cases hd:dg F n with
  | zero=>rw[cm]
  | succ d =>
    rw[cm]
    rcases h with h | h
    · rw[if_neg (by rw[h]; simp)]
    · subst h
      split
      · rw[kb hF]; simp only; rw[if_neg (by omega)]
      · rfl
theorem A8 {g:ao} {F:List Way} (hF:c5 g F) {n:Int} {x:List Int × Bool} (hn:n∈bu F) (hs:n≠g.start) (hx:x.2=true) :
    ∃ (k j:Nat) (R:aM),lookW F n=some ⟨n,k,j⟩∧g.rules[k]?=some R∧R.right[j]?=some (-1 - n)∧0≤n∧R.left∈bu F∧dg F R.left < dg F n∧cm g F (dg F n) n x=cm g F (dg F R.left) R.left (dP g k j x.1):=by
  obtain ⟨k,j,R,h1,h2,h3,h4,h5,h6⟩:=xy hF hn hs
  refine ⟨k,j,R,h1,h2,h3,h4,h5,h6,?_⟩
  obtain ⟨m,hm⟩:∃ m,dg F n=m+1:=⟨dg F n - 1,by omega⟩
  rw[hm,cm,if_pos hx,h1]
  simp only
  rw[if_pos (by omega),(ja h2).2,Hw hF m _ _ h5 (by omega)]
theorem FE {N:Nat} {F:List Way} {n:Int} {w:Way} (h0:0≤n) (hN:n < N) (hw:lookW F n=some w):(eL N F)[n.toNat]?=some [gi w.ba,gi w.place]:=by
  have h1:n.toNat < N:=by omega
  have e:qQ F n.toNat=[gi w.ba,gi w.place]:=by rw[qQ,show ((n.toNat:Nat):Int)=n by omega,hw]
  simp[eL,h1,e]
theorem BL (x:List Int × Int):Tree (gV x):=.bt _ fun i hi=>by
  match i,hi with
  | 0,_=>exact bX _
  | 1,_=>exact .val _
theorem IS {g:ao} (h:isRed g=true) {i:Nat} (hi:i < g.rules.length) (hc:(dO g i).2=true):(iI g (dO g i).1).2=0∧(dO g i).1.length≤300:=by
  obtain ⟨w,h1,h2⟩:=Ec h hi hc
  obtain ⟨x,h3,_⟩:=CN (iJ h).1 h1 h2
  exact ⟨by rw[iI,h3],h2⟩
theorem yg (g:ao) (i:Int):∀ v∈[V.agg (al g),gi i],Tree v:=by
  intro v hv; simp at hv
  rcases hv with rfl | rfl
  · exact cg _ (cO g)
  · exact .val _
def kx:SC :=
  .seq (.seq (.region false [⟨none,[ae 40 8,ae 41 40]⟩,⟨(some (41,true)),[ae 42 6,ae 43 9,aQ 44 2 42 43,aq 45 0 44,an 46 45,ax 47 .geq 46 0]⟩,⟨none,[bN 48 41 47]⟩]) <|
  .cond (.tmp 48) (.skip) (.exit 0)) <|
  .block 1 (.seq (ak [aT 50 4 2,ae 51 6,ae 52 9,aQ 53 2 51 52,aq 54 0 53,an 55 54,ae 56 6,ae 57 9,aQ 58 2 56 57,aq 59 1 58,an 60 59,ae 61 7,aL 62 63 [50,55,60,61],ae 49 62,bU 63 0 49,bU 64 1 49,ae 7 63,ae 8 64]) <|
  ak [aq 65 2 2,an 66 65,ae 67 6,ae 68 9,aQ 69 2 67 68,aq 70 0 69,an 71 70,aQ 72 3 66 71,aq 73 0 72,an 74 73,ae 9 74])
def lJ:SF:=⟨.seq (ak [cx 2 0,((some 4),.op (.aZ (.val (.emp 1)))),aH 5 0]) <|
  .seq (.seq (.region false [⟨none,[aT 12 4 2,aL 13 38 [12],cd 14 13,ae 15 14]⟩,⟨(some (15,false)),[ae 16 1,ax 17 .lss 16 0]⟩,⟨none,[bH 18 15 17,ae 19 18]⟩,⟨(some (19,false)),[ae 20 1,aq 21 2 2,an 22 21,aP 23 22,aR 24 .geq 20 23]⟩,⟨none,[bH 25 19 24]⟩]) <|
  .cond (.tmp 25) (.seq (ak [((some 4),.op (.aZ (.val (.emp 1)))),aH 5 1]) <|
  .ret) (.skip)) <|
  .seq (ak [aT 26 4 2,aL 27 62 [26],ae 6 27]) <|
  .seq (ak [aT 29 4 2,ae 30 1,cL 31 63 [(.tmp 29),(.tmp 30),(.val (.val (.int .i64 (-1)))),(.val (.emp 1))],ae 28 31,bU 32 0 28,bU 33 1 28,ae 7 32,ae 8 33]) <|
  .seq (ak [aq 34 2 2,an 35 34,ae 36 1,aQ 37 3 35 36,aq 38 0 37,an 39 38,ae 9 39]) <|
  .seq (.block 0 (.loop kx)) <|
  .seq (.seq (ak [ae 75 8,cd 76 75]) <|
  .cond (.tmp 76) (.seq (ak [((some 4),.op (.aZ (.val (.emp 1)))),aH 5 13]) <|
  .ret) (.skip)) <|
  .seq (ak [aT 78 4 2,ae 79 7,aL 80 39 [78,79],ae 77 80,bU 81 0 77,bU 82 1 77,ae 10 81,ae 11 82]) <|
  .seq (.seq (ak [ae 83 10,aP 84 83,ax 85 .gtr 84 60]) <|
  .cond (.tmp 85) (.seq (ak [((some 4),.op (.aZ (.val (.emp 1)))),aH 5 13]) <|
  .ret) (.skip)) <|
  .seq (ak [ae 86 7,ae 4 86,aH 5 0]) <|
  .ret,
  [.tmp 4,.tmp 5],87⟩
theorem q6:aU Tryz.prog 29 [2]=some lJ:=by kernel_rfl
set_option maxHeartbeats 8000000 in
theorem D6 (g:ao) (hg:g.Ok) (i:Int) (hi:bM i):aF Tryz.prog 29 [.agg (al g),gi i] (gV (gu g i)):=by
  refine aF.of (yg g i) ?_
  have hc:=O2 g hg
  have hrl:=hg.rules
  unfold aN at hrl
  unfold bM at hi
  refine az.of mixed q6 ?_
  simp only[al,encS] at hc
  simp (disch:=omega) only [↓wr,↓reduceIte,wq,ah,Nat.reduceEqDiff,Nat.reduceAdd,Nat.reduceLeDiff,Int.reduceNeg,lJ,al,encS]
  refine aC.pure hc (by kernel_rfl) ?_
  have hno:(isRed g && decide (0≤i) && decide (i < g.rules.length))=false→gu g i=([],1):=fun h=>by rw[gu,if_neg (by rw[h]; simp)]
  simp (disch:=omega) only [↓wr,↓reduceIte,wq,Int.reduceNeg]
  refine ar.split (fun hr=>?_) (fun hr=>?_)
  rotate_left
  · simp (disch:=omega) only [↓wr,↓reduceIte,wq,Nat.reduceEqDiff,Int.reduceNeg,reduceCtorEq]
    intro h' _
    rw[hno (by rw[hr]; rfl)]
    exact (cW (x:=([],1)) (.emp _)).jH
  simp (disch:=omega) only [↓wr,↓reduceIte,wq,ag,Nat.reduceEqDiff,Int.reduceNeg]
  refine ar.dec (fun h0=>?_) (fun h0=>?_)
  · simp (disch:=omega) only [↓wr,↓reduceIte,wq,Nat.reduceEqDiff,Int.reduceNeg,reduceCtorEq]
    intro h' _
    rw[hno (by rw[hr]; simp; omega)]
    exact (cW (x:=([],1)) (.emp _)).jH
  simp (disch:=omega) only [↓wr,↓reduceIte,wq,ag,aj,Nat.reduceEqDiff,Nat.reduceAdd,Nat.reduceLT,Int.reduceNeg]
  refine ar.dec (fun h1=>?_) (fun h1=>?_)
  · simp (disch:=omega) only [↓wr,↓reduceIte,wq,Nat.reduceEqDiff,Int.reduceNeg,reduceCtorEq]
    intro h' _
    rw[hno (by rw[hr]; simp; omega)]
    exact (cW (x:=([],1)) (.emp _)).jH
  obtain ⟨r,rfl⟩:∃ r:Nat,i=(r:Int):=⟨i.toNat,by omega⟩
  obtain ⟨hri,hW,hall⟩:=iJ hr
  have hf:=aX hri
  have hkr:r < g.rules.length:=by omega
  have e0:gu g r=dt g r:=by rw[gu,if_pos (by rw[hr]; simp; omega)]
  have p1:=(HF g hg hf).pure
  have p2:=FC g hg hf r hkr (-1) (by unfold bM; omega) [] (by simp)
  have hR:g.rules[r]?=some (g.rules[r]'hkr):=List.getElem?_eq_getElem hkr
  have hlf:=(ja hR).2
  have hmr:=List.mem_of_getElem? hR
  generalize g.rules[r]'hkr=R at hR hlf hmr
  have hleft:=hf.left R hmr
  have hin:=hall R.left.toNat (by omega)
  rw[show ((R.left.toNat:Nat):Int)=R.left by omega] at hin
  have ht0:dO g r=cm g (dB g) (dg (dB g) R.left) R.left (dP g r (-1) []):=by rw[dO,hlf]
  simp only[al,encS] at p1 p2
  simp (disch:=omega) only [↓wr,↓reduceIte,wq,Nat.reduceEqDiff,Nat.reduceAdd,Nat.reduceLeDiff,Int.reduceNeg]
  refine aC.pure p1 (by kernel_rfl) ?_
  simp (disch:=omega) only [↓wr,↓reduceIte,wq,Nat.reduceEqDiff,Nat.reduceAdd,Nat.reduceLeDiff,Int.reduceNeg]
  refine aC.qq p2 (by kernel_rfl) ⟨.tree (cg _ (cO g)),.tree (.val _),.tree (.val _),fun _ _=>.emp 1,trivial⟩ ?_
  simp (disch:=omega) only [↓wr,↓reduceIte,wq,Nat.reduceEqDiff,Nat.reduceAdd,Nat.reduceLT,Int.reduceNeg,aK,List.getElem?_map,hR]
  refine bc.up (dg (dB g) R.left) (fun d T H'=>∃ (n:Int) (x:List Int × Bool),n∈bu (dB g)∧dg (dB g) n+d≤dg (dB g) R.left∧(x.2=true→x.1.length≤300)∧cm g (dB g) (dg (dB g) n) n x=dO g r ∧
    T 1=gi r∧T 2=.aS (al g) 0∧T 6=.aY (eL g.au.length (dB g))∧T 7=encI x.1∧T 8=gb x.2∧T 9=gi n) ?_ ?_
  · exact ⟨R.left,dP g r (-1) [],hin,by omega,vI,ht0.symm,rfl,rfl,rfl,rfl,rfl,rfl⟩
  rintro d k T H' hk ⟨n,x,hn,hd,hx3,hcl,t1,t2,t6,t7,t8,t9⟩
  obtain ⟨n0,n1⟩:=hW.ins hf n hn
  simp (disch:=omega) only [↓wr,↓reduceIte,wq,kx,t8,encI,al,encS]
  refine ar.split (fun hx=>?_) (fun hx=>?_)
  · by_cases hs:n=g.start
    · have hst:x=dO g r:=by rw[← hcl]; exact (qn hW (.inr hs)).symm
      have hls:=kb hW
      rw[← hs] at hls
      have hat:=FE (N:=g.au.length) n0 n1 hls
      simp (disch:=omega) only [↓wr,↓reduceIte,wq,ag,Nat.reduceEqDiff,Nat.reduceAdd,Nat.reduceLT,Int.reduceNeg,t6,t9,hat]
      refine ar.dec (fun h=>absurd h (by decide)) (fun _=>?_)
      simp (disch:=omega) only [↓wr,↓reduceIte,wq,Nat.reduceEqDiff,Int.reduceNeg,reduceCtorEq,t8]
      refine ar.split (fun _=>?_) (fun h=>by rw[hx] at h; simp at h)
      have h300:=hx3 hx
      have p4:=JX g hg x.1 (by unfold aN; omega)
      simp only[al,encS,encI,gV] at p4
      simp (disch:=omega) only [↓wr,↓reduceIte,wq,Nat.reduceEqDiff,Nat.reduceAdd,Nat.reduceLeDiff,Int.reduceNeg,t2,t7,t8,encI,al,encS]
      refine aC.pure p4 (by kernel_rfl) ?_
      have eu:dt g r=if 60 < (iI g x.1).1.length then ([],13) else (x.1,0):=by rw[dt,← hst,if_neg (by rw[hx]; simp)]
      simp (disch:=omega) only [↓wr,↓reduceIte,wq,ag,aj,Nat.reduceEqDiff,Nat.reduceAdd,Nat.reduceLT,Int.reduceNeg]
      refine ar.dec (fun hl=>?_) (fun hl=>?_)
      · simp (disch:=omega) only [↓wr,↓reduceIte,wq,Nat.reduceEqDiff,Int.reduceNeg,reduceCtorEq]
        intro h' _
        rw[e0,eu,if_pos (by omega)]
        exact (cW (x:=([],13)) (.emp _)).jH
      · simp (disch:=omega) only [↓wr,↓reduceIte,wq,Nat.reduceEqDiff,Int.reduceNeg,reduceCtorEq,t7]
        intro h' _
        rw[e0,eu,if_neg (by omega)]
        exact .tree _ (BL (x.1,0))
    · obtain ⟨k2,j,R2,h1,h2,h3,h4,h5,h6,h7⟩:=A8 (x:=x) hW hn hs hx
      have hat:=FE (N:=g.au.length) n0 n1 h1
      simp (disch:=omega) only [↓wr,↓reduceIte,wq,ag,Nat.reduceEqDiff,Nat.reduceAdd,Nat.reduceLT,t6,t9,hat]
      refine ar.dec (fun _=>?_) (fun h=>absurd (Int.natCast_nonneg k2) h)
      have hk2:k2 < g.rules.length:=(List.getElem?_eq_some_iff.1 h2).1
      have hj6:=hf.right R2 (List.mem_of_getElem? h2)
      have hjl:=(List.getElem?_eq_some_iff.1 h3).1
      have p3:=(FC g hg hf k2 hk2 j (by unfold bM; omega) x.1 (hx3 hx)).pure
      have hl2:=hf.left R2 (List.mem_of_getElem? h2)
      simp only[al,encS,encI] at p3
      simp (disch:=omega) only [↓wr,↓reduceIte,wq,Nat.reduceEqDiff,Nat.reduceAdd,Nat.reduceLT,Nat.reduceLeDiff,t2,t6,t7,t9,hat,encI,al,encS]
      refine aC.pure p3 (by kernel_rfl) ?_
      simp (disch:=omega) only [↓wr,↓reduceIte,wq,Nat.reduceEqDiff,Nat.reduceAdd,Nat.reduceLT,reduceCtorEq,t2,t6,t9,hat,encI,al,encS,aK,List.getElem?_map,h2]
      refine aJ hk (by omega) ⟨R2.left,dP g k2 j x.1,h5,by omega,vI,by rw[← h7]; exact hcl,t1,t2,t6,rfl,rfl,rfl⟩
  · have hst:x=dO g r:=by rw[← hcl]; exact (qn hW (.inl hx)).symm
    simp (disch:=omega) only [↓wr,↓reduceIte,wq,Nat.reduceEqDiff,reduceCtorEq,t8]
    refine ar.split (fun h=>by rw[hx] at h; simp at h) (fun _=>?_)
    simp (disch:=omega) only [↓wr,↓reduceIte,wq,Nat.reduceEqDiff,reduceCtorEq]
    intro h' _
    rw[e0,dt,← hst,if_pos hx]
    exact (cW (x:=([],13)) (.emp _)).jH
def Dx (x:List (List Int) × Int):V:=.bt [dY x.1,gi x.2]
abbrev DI (l:List (List Int)):List (List V):=l.map fun w=>[encI w]
theorem yI {g:ao} {i:Nat} (h:(bS g i).2≠0):∀ d,bS g (i+d)=bS g i
  | 0=>rfl
  | d+1=>by
    have ih:=yI h d
    rw[← Nat.add_assoc,bS,ih,if_pos h]
theorem GQ {g:ao} {i n:Nat} (h:(bS g i).2≠0) (hi:i≤n):bS g n=bS g i:=by
  have:=yI h (n - i)
  rwa [show i+(n - i)=n by omega] at this
theorem Mz {l:List (List Int)} : ∀ e∈DI l,∀ v∈e,Tree v:=by
  intro e he v hv
  simp only[List.mem_map] at he
  obtain ⟨w,_,rfl⟩:=he
  simp at hv; subst hv
  exact bX w
theorem y7 {h:aE} {u:V} {x:List (List Int) × Int} (ho:aV h.view u 1 (DI x.1)):Fr h (.bt [u,gi x.2]) (Dx x):=.bt _ _ rfl fun j hj=>match j,hj with
  | 0,_=>dh.own ho Mz h rfl
  | 1,_=>.tree _ (.val _)
  | n+2,hj=>absurd hj (by simp only[List.length_cons,List.length_nil]; omega)
theorem P0 (t:List Int):(([[encI t]]:List (List V)).all fun e=>e.length == 1 && e.all aO)=true:=by simp[aO,encI]
end Gv
