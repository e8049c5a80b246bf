/-
  Part 17 of the proof: what the machine does and what the functions answer.
  Conditions: those that each lemma names.
-/
import Derived.Test.YtomcjampldmjoaaGreatSGzSP
set_option linter.unusedSimpArgs false
set_option linter.unusedVariables false
set_option maxRecDepth 100000
namespace Gv
open Go Go.Proofs
def fu (H:View) (u:V) (l:List Int):Prop:=∃ (id off:Nat) (es:List (List V)),u=.sl id off l.length 1∧H id=.arr 1 es∧off+l.length≤es.length∧(es.drop off).take l.length=aW l
theorem fu.len {H:View} {u:V} {l:List Int} (h:fu H u l):dS u=some l.length:=by
  obtain ⟨id,off,es,rfl,_⟩:=h; rfl
theorem fu.keep {H H':View} {u:V} {l:List Int} (h:fu H u l) (hk:∀ id es,H id=.arr 1 es→H' id=H id):fu H' u l:=by
  obtain ⟨id,off,es,h1,h2,h3,h4⟩:=h
  exact ⟨id,off,es,h1,by rw[hk id es h2]; exact h2,h3,h4⟩
theorem fu.fresh {H:View} {u:V} {l:List Int} (h:fu H u l) {n:Nat} {o:bR} (hn:H n=.dead):fu (H.set n o) u l :=
  h.keep fun id es hid=>by
    have:id≠n:=by rintro rfl; rw[hn] at hid; simp at hid
    simp[View.set,this]
theorem fu.wP {H:View} {u:V} {l:List Int} (h:fu H u l) {q c:Nat} {es:List (V × V × Nat)} {o:bR} (hq:H q=.map es c):fu (H.set q o) u l :=
  h.keep fun id es' hid=>by
    have:id≠q:=by rintro rfl; rw[hq] at hid; simp at hid
    simp[View.set,this]
theorem fu.own {H:View} {u:V} {l:List Int} (h:aV H u 1 (aW l)) (hl:l≠[]):fu H u l:=by
  rcases h with ⟨e,_⟩ | ⟨n,rfl,hn⟩
  · rw[List.map_eq_nil_iff] at e; exact absurd e hl
  · exact ⟨n,0,_,by simp,hn,by simp,by rw[List.drop_zero,List.take_of_length_le (by simp)]⟩
theorem fu.at {H:View} {u:V} {x:Int} {l:List Int} (h:fu H u (x :: l)):∃ (id off:Nat) (es:List (List V)),u=.sl id off (l.length+1) 1∧H id=.arr 1 es∧off < es.length∧es.getD off []=[gi x]∧off+(l.length+1)≤es.length:=by
  obtain ⟨id,off,es,h1,h2,h3,h4⟩:=h
  simp only[List.length_cons] at h1 h3 h4
  refine ⟨id,off,es,h1,h2,by omega,?_,h3⟩
  have h5:=congrArg (fun z=>z[0]?) h4
  simp at h5
  have:es[off]?=some (es[off]'(by omega)):=List.getElem?_eq_getElem (by omega)
  rw[this] at h5
  simp at h5
  rw[List.getD_eq_getElem?_getD,this,h5]; rfl
theorem fu.next {H:View} {id off k:Nat} {x:Int} {l:List Int} (h:fu H (.sl id off k 1) (x :: l)):fu H (.sl id (off+1) (k - 1) 1) l:=by
  obtain ⟨id',off',es,h1,h2,h3,h4⟩:=h
  simp only[V.sl.injEq,and_true] at h1
  obtain ⟨rfl,rfl,rfl⟩:=h1
  simp only[List.length_cons] at h3 h4 ⊢
  refine ⟨id,off+1,es,by simp,h2,by omega,?_⟩
  have h5:=congrArg (List.drop 1) h4
  rw[List.drop_take,List.drop_drop] at h5
  simpa using h5
theorem G1 {bytes:Nat} {u:V} {l xs:List Int} {H:View} {K:V→View→Prop} {w:cF (H,K)} (ho:fu H u l) (hx:xs≠[])
    (hl:(l.length+xs.length) * bytes < aG) (hl2:l.length+xs.length < aG) (hk:∀ u' H',aV H' u' 1 (aW (l ++ xs))→Left H H' u u'→K u' H'):mD 1 bytes u (aW xs) H K w:=by
  have he:(aW xs).isEmpty=false:=by cases xs with | nil=>exact absurd rfl hx | cons=>rfl
  obtain ⟨id,off,es,rfl,h2,h3,h4⟩:=ho
  rw[uI _ _ _ _ _ _ _ _ _ _ he,h2]
  refine ⟨by simp[List.all_map,aO],⟨h3,rfl,by simpa using hl,by simpa using hl2⟩,fun m hm=>hk _ _ ?_ ?_⟩
  · refine .inr ⟨m,by simp,?_⟩
    rw[h4]; simp[View.set]
  · intro id' hid ho
    have e:id'≠m:=by rintro rfl; exact hid hm
    have e2:id'≠id:=by rintro rfl; exact ho rfl
    exact ⟨by simp[View.set,e,e2],by simp[owner,Ne.symm e]⟩
def Bu (H:View) (w:Option Way) (v:Option V):Prop:=match w with
  | none=>v=none
  | some w=>(w.ba = -1∧v=some (.val (.pointer none)))∨(0≤w.ba∧∃ p,v=some (.ptr p 0 0)∧H p=.arr 2 [[gi w.ba,gi w.place]])
def ff (H:View) (F:List Way) (m:dx Int):Prop:=∀ n,Bu H (lookW F n) (getM m n)
theorem Bu.keep {H H':View} {w:Option Way} {v:Option V} (h:Bu H w v) (hk:∀ id es,H id=.arr 2 es→H' id=H id):Bu H' w v:=by
  cases w with
  | none=>exact h
  | some w =>
    rcases h with h | ⟨h1,p,h2,h3⟩
    · exact .inl h
    · exact .inr ⟨h1,p,h2,by rw[hk p _ h3]; exact h3⟩
theorem ff.keep {H H':View} {F:List Way} {m:dx Int} (h:ff H F m) (hk:∀ id es,H id=.arr 2 es→H' id=H id):ff H' F m:=fun n=>(h n).keep hk
theorem ff.fresh {H:View} {F:List Way} {m:dx Int} (h:ff H F m) {n:Nat} {o:bR} (hn:H n=.dead):ff (H.set n o) F m :=
  h.keep fun id es hid=>by
    have:id≠n:=by rintro rfl; rw[hn] at hid; simp at hid
    simp[View.set,this]
theorem ff.wP {H:View} {F:List Way} {m:dx Int} (h:ff H F m) {q c:Nat} {es:List (V × V × Nat)} {o:bR} (hq:H q=.map es c):ff (H.set q o) F m :=
  h.keep fun id es' hid=>by
    have:id≠q:=by rintro rfl; rw[hq] at hid; simp at hid
    simp[View.set,this]
theorem AM {H:View} {u:V} {l:List Int} (h:fu H u l) {id:Nat} (hid:owner u=some id):∃ es,H id=.arr 1 es:=by
  obtain ⟨i,off,es,rfl,h2,_⟩:=h
  simp[owner] at hid; subst hid
  exact ⟨es,h2⟩
theorem ff.left {H H':View} {F:List Way} {m:dx Int} (h:ff H F m) {u u':V} {l:List Int} (ht:fu H u l) (hl:Left H H' u u'):ff H' F m :=
  h.keep fun id es hid=>(hl id (by rw[hid]; simp) (fun e=>by obtain ⟨es',h2⟩:=AM ht e; rw[hid] at h2; simp at h2)).1
theorem L7 {H H':View} {u u':V} {l:List Int} {q c:Nat} {es:List (V × V × Nat)} (ht:fu H u l) (hl:Left H H' u u') (hq:H q=.map es c):H' q=.map es c:=by
  rw[(hl q (by rw[hq]; simp) (fun e=>by obtain ⟨es',h2⟩:=AM ht e; rw[hq] at h2; simp at h2)).1]; exact hq
theorem ff.put {H:View} {F:List Way} {m:dx Int} (h:ff H F m) {p c k j:Nat} {n:Int} (hn:n ∉ bu F) (hp:H p=.arr 2 [[gi k,gi j]]):ff H (F ++ [⟨n,k,j⟩]) (cT n (.ptr p 0 0) c m):=by
  intro n'
  rw[wK,zC]
  by_cases e:n=n'
  · subst e
    rw[xw hn]
    simp only[if_true,beq_self_eq_true]
    exact .inr ⟨by simp only; omega,p,rfl,hp⟩
  · have e2:(n' == n)=false:=by simpa using Ne.symm e
    rw[e2]
    have h1:=h n'
    cases hl:lookW F n' with
    | some w=>rw[hl] at h1; simpa using h1
    | none =>
      rw[hl] at h1
      simp only
      rw[if_neg e]
      simpa using h1
theorem ff.has {H:View} {F:List Way} {m:dx Int} (h:ff H F m) (n:Int):(getM m n).isSome=decide (n∈bu F):=by
  have h1:=h n
  by_cases e:n∈bu F
  · obtain ⟨x,hx,_⟩:=FI e
    rw[hx] at h1
    rcases h1 with ⟨_,h1⟩ | ⟨_,p,h1,_⟩ <;> rw[h1] <;> simp[e]
  · rw[xw e] at h1
    have h2:getM m n=none:=h1
    rw[h2]; simp[e]
theorem Gq {id off k:Nat} : ig 1 (.sl id off (k+1) 1) (some (.val (.int .i64 1))) none=some (.sl id (off+1) k 1,.none,[]):=by
  simp[ig,bound,asNat]
def tI:SC :=
  .seq (ak [aR 41 .lss 40 39]) <|
  .seq (.cond (.tmp 41) (.skip) (.exit 4)) <|
  .seq (.block 5 (.seq (ak [ae 42 40,aQ 43 1 38 40,an 44 43,ae 7 42,ae 8 44]) <|
  .seq (ak [ae 46 3,ae 47 8,((some 48),.op (.arith .sub (.val (.val (.int .i64 (-1)))) (.tmp 47))),((some 49),.op (.old (.lookup 175 (.tmp 46) (.tmp 48) true) 236)),ae 45 49,bU 50 0 45,bU 51 1 45,ae 9 50,ae 10 51]) <|
  .seq (.region false [⟨none,[ae 52 8,ax 53 .lss 52 0,ae 54 53]⟩,⟨(some (54,true)),[ae 55 10,cd 56 55]⟩,⟨none,[bN 57 54 56]⟩]) <|
  .cond (.tmp 57) (.seq (ak [ae 58 3,ae 59 8,((some 60),.op (.arith .sub (.val (.val (.int .i64 (-1)))) (.tmp 59))),ae 61 5,ae 62 7,((some 63),.op (.build [(.val (.int .i64 0)),(.val (.int .i64 0))] [(0,1,(.tmp 61)),(1,1,(.tmp 62))])),((some 64),.op (.box (.tmp 63))),(none,.op (.old (.mapUpdate 175 (.tmp 58) (.tmp 60) (.tmp 64)) 0))]) <|
  ak [ae 65 4,ae 66 8,((some 67),.op (.arith .sub (.val (.val (.int .i64 (-1)))) (.tmp 66))),((some 68),.op (.bA 1 1 [(.val (.int .i64 0))] [(0,(.tmp 67))])),((some 69),.op (.app 1 8 (.tmp 65) (.tmp 68))),ae 4 69]) (.skip))) <|
  ak [ax 70 .add 40 1,ae 40 70]
def tZ:SC :=
  .seq (ak [aR 27 .lss 26 25]) <|
  .seq (.cond (.tmp 27) (.skip) (.exit 2)) <|
  .seq (.block 3 (.seq (ak [ae 28 26,aQ 29 3 24 26,aT 30 3 29,((some 6),.op (.alloc [(.val (.int .i64 0)),(.emp 1),(.val (.int .i64 0))])),ae 5 28,(none,.op (.store 3 (.tmp 6) (.tmp 30)))]) <|
  .seq (.seq (ak [aq 31 0 6,an 32 31,ae 33 4,((some 34),.op (.idx 1 (.tmp 33) (.val (.val (.int .i64 0))))),an 35 34,aR 36 .neq 32 35]) <|
  .cond (.tmp 36) (.exit 3) (.skip)) <|
  .seq (ak [aq 37 1 6,an 38 37,aP 39 38,aH 40 0]) <|
  .block 4 (.loop tI))) <|
  ak [ax 71 .add 26 1,ae 26 71]
def tj:SC :=
  .seq (.seq (ak [ae 18 4,aP 19 18,ax 20 .gtr 19 0]) <|
  .cond (.tmp 20) (.skip) (.exit 0)) <|
  .seq (.block 1 (.seq (ak [aq 23 2 1,an 24 23,aP 25 24,aH 26 0]) <|
  .block 2 (.loop tZ))) <|
  ak [ae 21 4,((some 22),.op (.slice 1 (.tmp 21) (some (.val (.val (.int .i64 1)))) none)),ae 4 22]
def xP:SF:=⟨.seq (ak [cx 1 0,((some 2),.op (.aZ (.val (.val (.map none)))))]) <|
  .seq (ak [((some 11),.op (.sA)),aq 12 3 1,an 13 12,(none,.op (.old (.insert 175 (.tmp 11) (.tmp 13) (.const (.pointer none))) 0)),ae 14 11,ae 3 14]) <|
  .seq (.seq (ak [aq 15 3 1,an 16 15,((some 17),.op (.bA 1 1 [(.val (.int .i64 0))] [(0,(.tmp 16))])),ae 4 17]) <|
  .block 0 (.loop tj)) <|
  .seq (ak [ae 72 3,ae 2 72]) <|
  .ret,
  [.tmp 2],73⟩
theorem A3:aU Tryz.prog 109 [1]=some xP:=by kernel_rfl
set_option maxHeartbeats 8000000 in
theorem Nt (g:ao) (hg:g.Ok) (hf:g.gp) (H:View):az Tryz.prog 109 [.agg (al g)] H fun r H'=>∃ q c m,r=.mp q∧H' q=.map (c4 (Value.int .i64) m) c∧ff H' (dB g) m:=by
  refine az.of mixed A3 ?_
  obtain ⟨n1,n2,r1,r2,s1,s2⟩:=And.intro hf.ka (And.intro hf.au (And.intro hf.E2 (And.intro hf.rules (And.intro hf.eA hf.start))))
  simp (disch:=omega) only [↓wr,↓reduceIte,wq,ah,Nat.reduceEqDiff,Nat.reduceAdd,Nat.reduceLT,Nat.reduceLeDiff,xP,al,encS]
  intro q hq
  simp (disch:=omega) only [Pw]
  refine xJ (kt:=3) (et:=177) (by kernel_rfl) (ia .i64 Tryz.underlying3) (id:=q) (c:=0) (m:=[]) (k:=g.start) (v:=.val (.pointer none)) (by simp (disch:=omega) only [↓wr,↓reduceIte,Nat.reduceEqDiff]) (by simp (disch:=omega) only [↓wr,↓reduceIte]) rfl (by simp[View.set]; rfl) ?_
  intro c'
  simp (disch:=omega) only [↓wr,↓reduceIte,wq,af,Nat.reduceEqDiff,Nat.reduceAdd,Nat.reduceLT]
  intro n hn
  obtain ⟨hnq,_⟩:=bV hn (by simp)
  refine bc.up g.au.length (fun i T H'=>∃ u m c,fu H' u ((bu (c8 g i)).drop i)∧H' q=.map (c4 (Value.int .i64) m) c∧ff H' (c8 g i) m∧T 1=.aS (al g) 0∧T 3=.mp q∧T 4=u) ?_ ?_
  · refine ⟨.sl n 0 1 1,cT g.start (.val (.pointer none)) 0 [],c',?_,by simp[View.set,Ne.symm hnq],?_,rfl,rfl,rfl⟩
    · exact ⟨n,0,[[gi g.start]],rfl,by simp[View.set],by simp[c8,bu],rfl⟩
    · intro n'
      rw[zC]
      by_cases e:n'=g.start
      · subst e; simp[c8,lookW,Bu]
      · simp[c8,lookW,Bu,e,Ne.symm e,getM]
  · rintro i k T H' hk ⟨u,m,c,ht,hq',hM,t1,t3,t4⟩
    have lu:=ht.len
    have hW:=F7 hf i
    have hkl:(bu (c8 g i)).length=(c8 g i).length:=by simp[bu]
    simp (disch:=omega) only [↓wr,↓reduceIte,wq,ag,aj,reduceCtorEq,tj,t4,lu,al,encS,List.length_drop,hkl]
    refine ar.dec (fun hc=>?_) (fun hc=>?_)
    · have hil:i < (c8 g i).length:=by omega
      have hx:(c8 g i)[i]?=some ((c8 g i)[i]'hil):=List.getElem?_eq_getElem hil
      generalize (c8 g i)[i]'hil=x at hx
      have hst:c8 g (i+1)=eN x.bW 0 g.rules (c8 g i):=by rw[c8,hx]
      simp (disch:=omega) only [↓wr,↓reduceIte,wq,aj,Nat.reduceEqDiff,Nat.reduceAdd,Nat.reduceLT,t1,al,encS]
      refine bc.up g.rules.length (fun k T H'=>∃ u F m c,F=eN x.bW 0 (g.rules.take k) (c8 g i)∧c5 g F∧F[i]?=some x∧fu H' u ((bu F).drop i)∧H' q=.map (c4 (Value.int .i64) m) c∧ff H' F m ∧
        T 1=.aS (al g) 0∧T 3=.mp q∧T 4=u∧T 24=.aY (g.rules.map aK)∧T 25=gi g.rules.length∧T 26=gi k) ?_ ?_
      · exact ⟨u,_,m,c,rfl,hW.1,hx,ht,hq',hM,t1,t3,t4,rfl,rfl,rfl⟩
      · rintro kk k2 T2 H2 hk2 ⟨u,F,m,c,hF,hok,hFx,ht,hq',hM,t1,t3,t4,t24,t25,t26⟩
        simp (disch:=omega) only [↓wr,↓reduceIte,wq,ag,tZ,t25,t26,al,encS]
        have hFk:(bu F).drop i=x.bW :: (bu F).drop (i+1):=by
          have hkx:(bu F)[i]?=some x.bW:=by simp[bu,hFx]
          obtain ⟨h1,h2⟩:=List.getElem?_eq_some_iff.1 hkx
          rw[List.drop_eq_getElem_cons h1,h2]
        rw[hFk] at ht
        obtain ⟨id,off,es,hu,hid,hof,hes,hle⟩:=ht.at
        subst hu
        refine ar.dec (fun hd=>?_) (fun hd=>?_)
        · have hR:g.rules[kk]?=some (g.rules[kk]'(by omega)):=List.getElem?_eq_getElem (by omega)
          have htk:g.rules.take (kk+1)=g.rules.take kk ++ [g.rules[kk]'(by omega)]:=by rw[List.take_add_one,hR]; rfl
          have hmr:=List.mem_of_getElem? hR
          generalize g.rules[kk]'(by omega)=R at hR htk hmr
          simp (disch:=omega) only [↓wr,↓reduceIte,wq,aa,Nat.reduceEqDiff,Nat.reduceAdd,Nat.reduceLT,Nat.reduceLeDiff,Int.reduceToNat,t4,t24,t26,aK,List.getElem?_map,hR]
          intro b hb
          have hib:¬ b=id:=by rintro rfl; rw[hid] at hb; simp at hb
          have hib':¬ id=b:=fun e=>hib e.symm
          simp (disch:=omega) only [↓wr,↓reduceIte,wq,ag,Nat.reduceEqDiff,Nat.reduceLT,hib',hid,hes]
          refine ⟨rfl,by omega,hof,?_⟩
          have hsn:eN x.bW 0 (g.rules.take (kk+1)) (c8 g i)=jy x.bW kk R F:=by
            rw[htk,sF,← hF]; simp[show min kk g.rules.length=kk by omega]
          rw[set_set]
          have ht':=ht.fresh hb (o:=.arr 3 [[gi R.left,encI R.right,gi R.prec]])
          have hM':=hM.fresh hb (o:=.arr 3 [[gi R.left,encI R.right,gi R.prec]])
          have hqb:q≠b:=by rintro rfl; rw[hq'] at hb; simp at hb
          have hq2:(H2.set b (.arr 3 [[gi R.left,encI R.right,gi R.prec]])) q=.map (c4 (Value.int .i64) m) c:=by simp[View.set,hqb,hq']
          refine ar.ne (fun hne=>?_) (fun hne=>?_)
          · simp (disch:=omega) only [↓wr,↓reduceIte,wq,ag,Nat.reduceEqDiff,reduceCtorEq,t3,t4,t26]
            exact aJ hk2 (by omega) ⟨_,F,m,c,by rw[hsn,jy,if_neg hne],hok,hFx,by rw[hFk]; exact ht',hq2,hM',t1,t3,t4,t24,t25,rfl⟩
          · have hr6:=hf.right R hmr
            have hHb:(H2.set b (.arr 3 [[gi R.left,encI R.right,gi R.prec]])) b=.arr 3 [[gi R.left,encI R.right,gi R.prec]]:=by simp[View.set]
            generalize hH5:H2.set b (.arr 3 [[gi R.left,encI R.right,gi R.prec]])=H5 at ht' hM' hq2 hHb
            simp (disch:=omega) only [↓wr,↓reduceIte,wq,aj,Nat.reduceEqDiff,Nat.reduceAdd,Nat.reduceLT,hHb,encI]
            refine bc.up R.right.length (fun j T H'=>∃ u F2 m c,F2=gZ kk 0 (R.right.take j) F∧c5 g F2∧F2[i]?=some x∧fu H' u ((bu F2).drop i)∧H' q=.map (c4 (Value.int .i64) m) c∧ff H' F2 m ∧
              T 1=.aS (al g) 0∧T 3=.mp q∧T 4=u∧T 24=.aY (g.rules.map aK)∧T 25=gi g.rules.length∧T 26=gi kk∧T 5=gi kk∧T 38=encI R.right∧T 39=gi R.right.length∧T 40=gi j) ?_ ?_
            · exact ⟨_,F,m,c,rfl,hok,hFx,by rw[hFk]; exact ht',hq2,hM',t1,t3,t4,t24,t25,t26,rfl,rfl,rfl,rfl⟩
            · rintro j k3 T3 H3 hk3 ⟨u,F2,m,c,hF2,hok2,hFx2,ht2,hq3,hM2,t1,t3,t4,t24,t25,t26,t5,t38,t39,t40⟩
              simp (disch:=omega) only [↓wr,↓reduceIte,wq,ag,Int.reduceNeg,tI,t39,t40,encI]
              refine ar.dec (fun he=>?_) (fun he=>?_)
              · have hS:R.right[j]?=some (R.right[j]'(by omega)):=List.getElem?_eq_getElem (by omega)
                have htj:R.right.take (j+1)=R.right.take j ++ [R.right[j]'(by omega)]:=by rw[List.take_add_one,hS]; rfl
                have hms:=List.mem_of_getElem? hS
                generalize R.right[j]'(by omega)=s at hS htj hms
                have hss:gZ kk 0 (R.right.take (j+1)) F=gO kk j s F2:=by
                  rw[htj,vA,← hF2]; simp[show min j R.right.length=j by omega]
                have h64:=(hg.ba R hmr).2.2.2 s hms
                unfold bM at h64
                have hnx:=BF (k:=kk) (j:=j) hok2 hR hS hFx2 (Eq.symm hne)
                have hlen:=hok2.le hf
                simp (disch:=omega) only [↓wr,↓reduceIte,wq,ag,Nat.reduceEqDiff,Nat.reduceLT,Int.reduceNeg,t3,t38,t40,encI,List.getElem?_map,hS]
                refine Mj (kt:=3) (et:=177) (z:=.val (.pointer none)) (by kernel_rfl) (by kernel_rfl) (ia .i64 Tryz.underlying3) (id:=q) (c:=c) (m:=m) (k:=-1 - s) (by simp (disch:=omega) only [↓wr,↓reduceIte,Nat.reduceEqDiff]) (by simp (disch:=omega) only [↓wr,↓reduceIte,Int.reduceNeg]) hq3 ?_
                rw[hM2.has]
                simp (disch:=omega) only [↓wr,↓reduceIte,wq,ag,Nat.reduceEqDiff,Nat.reduceAdd,Nat.reduceLT,Int.reduceNeg]
                refine ar.dec (fun hs=>?_) (fun hs=>?_)
                · simp (disch:=omega) only [↓wr,↓reduceIte,wq,Nat.reduceEqDiff,Int.reduceNeg]
                  refine ar.dec (fun hmem=>?_) (fun hmem=>?_)
                  · simp (disch:=omega) only [↓wr,↓reduceIte,wq,ag,Nat.reduceEqDiff,Int.reduceNeg,reduceCtorEq,t3,t4,t26,t40]
                    exact aJ hk3 (by omega) ⟨u,F2,m,c,by rw[hss,gO,if_neg (by rintro ⟨_,h⟩; exact h hmem)],hok2,hFx2,ht2,hq3,hM2,t1,t3,t4,t24,t25,t26,t5,t38,t39,rfl⟩
                  · have hsym:gO kk j s F2=F2 ++ [⟨-1 - s,kk,j⟩]:=by rw[gO,if_pos ⟨by omega,hmem⟩]
                    simp (disch:=omega) only [↓wr,↓reduceIte,wq,ag,aa,ab,Nat.reduceEqDiff,Nat.reduceAdd,Nat.reduceLeDiff,Int.reduceNeg,t3,t5]
                    intro p hp
                    have hpq:¬ p=q:=by rintro rfl; rw[hq3] at hp; simp at hp
                    have hqp:¬ q=p:=fun e=>hpq e.symm
                    have M1:=hM2.fresh hp (o:=.arr 2 [[gi kk,gi j]])
                    have T1:=ht2.fresh hp (o:=.arr 2 [[gi kk,gi j]])
                    have q1:(H3.set p (.arr 2 [[gi kk,gi j]])) q=.map (c4 (Value.int .i64) m) c:=by simp[View.set,hqp,hq3]
                    have P1:(H3.set p (.arr 2 [[gi kk,gi j]])) p=.arr 2 [[gi kk,gi j]]:=by simp[View.set]
                    refine xJ (kt:=3) (et:=177) (by kernel_rfl) (ia .i64 Tryz.underlying3) (id:=q) (c:=c) (m:=m) (k:=-1 - s) (v:=.ptr p 0 0) (by simp (disch:=omega) only [↓wr,↓reduceIte,Nat.reduceEqDiff]) (by simp (disch:=omega) only [↓wr,↓reduceIte,Nat.reduceEqDiff,Int.reduceNeg]) (by simp (disch:=omega) only [↓wr,↓reduceIte]) q1 ?_
                    intro c2
                    have M2:=(M1.put (c:=c) hmem P1).wP q1 (o:=.map (c4 (Value.int .i64) (cT (-1 - s) (.ptr p 0 0) c m)) c2)
                    have T2':=T1.wP q1 (o:=.map (c4 (Value.int .i64) (cT (-1 - s) (.ptr p 0 0) c m)) c2)
                    have q2:((H3.set p (.arr 2 [[gi kk,gi j]])).set q (.map (c4 (Value.int .i64) (cT (-1 - s) (.ptr p 0 0) c m)) c2)) q=.map (c4 (Value.int .i64) (cT (-1 - s) (.ptr p 0 0) c m)) c2:=by simp[View.set]
                    generalize hH6:(H3.set p (.arr 2 [[gi kk,gi j]])).set q (.map (c4 (Value.int .i64) (cT (-1 - s) (.ptr p 0 0) c m)) c2)=H6 at M2 T2' q2
                    simp (disch:=omega) only [↓wr,↓reduceIte,wq,ag,af,Nat.reduceEqDiff,Nat.reduceLT,Int.reduceNeg,t4]
                    intro n2 hn2
                    simp (disch:=omega) only [↓wr,↓reduceIte,wq,Nat.reduceEqDiff,Int.reduceNeg,bQ]
                    have T3':=T2'.fresh hn2 (o:=.arr 1 [[gi (-1 - s)]])
                    have M3:=M2.fresh hn2 (o:=.arr 1 [[gi (-1 - s)]])
                    have q3:(H6.set n2 (.arr 1 [[gi (-1 - s)]])) q=.map (c4 (Value.int .i64) (cT (-1 - s) (.ptr p 0 0) c m)) c2:=by
                      have:q≠n2:=by rintro rfl; rw[q2] at hn2; simp at hn2
                      simp[View.set,this,q2]
                    have hfl:(bu F2).length≤16:=by simp[bu]; omega
                    have hil2:i < (bu F2).length:=by simp[bu]; exact (List.getElem?_eq_some_iff.1 hFx2).1
                    refine G1 (xs:=[-1 - s]) T3' (by simp) (by unfold aG; simp; omega) (by unfold aG; simp; omega) ?_
                    intro u2 H7 o2 hl2
                    simp (disch:=omega) only [↓wr,↓reduceIte,wq,ag,Nat.reduceEqDiff,Int.reduceNeg,reduceCtorEq,t3,t26,t40]
                    refine aJ hk3 (by omega) ⟨u2,gO kk j s F2,_,c2,hss.symm,hnx,by rw[hsym]; exact tR hFx2,?_,L7 T3' hl2 q3,?_,t1,t3,rfl,t24,t25,t26,t5,t38,t39,rfl⟩
                    · rw[hsym,bu,List.map_append,List.drop_append_of_le_length (by simpa [bu] using Nat.le_of_lt hil2)]
                      exact fu.own o2 (by simp)
                    · rw[hsym]; exact M3.left T3' hl2
                · simp (disch:=omega) only [↓wr,↓reduceIte,wq,ag,Nat.reduceEqDiff,Int.reduceNeg,reduceCtorEq,t3,t4,t26,t40]
                  exact aJ hk3 (by omega) ⟨u,F2,m,c,by rw[hss,gO,if_neg (by omega)],hok2,hFx2,ht2,hq3,hM2,t1,t3,t4,t24,t25,t26,t5,t38,t39,rfl⟩
              · simp (disch:=omega) only [↓wr,↓reduceIte,wq,Nat.reduceEqDiff,reduceCtorEq,t3,t4,t26]
                rw[List.take_of_length_le (by omega)] at hF2
                exact aJ hk2 (by omega) ⟨u,F2,m,c,by rw[hsn,jy,if_pos hne,hF2],hok2,hFx2,ht2,hq3,hM2,t1,t3,t4,t24,t25,rfl⟩
        · simp (disch:=omega) only [↓wr,↓reduceIte,wq,Nat.reduceEqDiff,reduceCtorEq,t3,t4,Gq]
          rw[List.take_of_length_le (by omega)] at hF
          refine aJ hk (by omega) ⟨_,m,c,?_,hq',?_,t1,t3,rfl⟩
          · rw[hst,← hF]
            exact ht.next
          · rw[hst,← hF]; exact hM
    · simp (disch:=omega) only [↓wr,↓reduceIte,wq,Nat.reduceEqDiff,reduceCtorEq,t3]
      refine ⟨q,c,m,rfl,hq',?_⟩
      rw[FB (i:=i) (by omega) (by omega)]
      exact hM
def qb:SC :=
  .seq (.seq (.region false [⟨none,[ae 28 8,ae 29 28]⟩,⟨(some (29,true)),[ae 30 9,((some 31),.op (.nil false 1 (.tmp 30) (.val (.val (.pointer none)))))]⟩,⟨none,[bN 32 29 31]⟩]) <|
  .cond (.tmp 32) (.skip) (.exit 0)) <|
  .seq (.block 1 (ak [aT 45 4 2,ae 46 9,bJ 47 46,aq 48 0 47,an 49 48,ae 50 9,bJ 51 50,aq 52 1 51,an 53 52,ae 54 7,aL 55 110 [45,49,53,54],ae 44 55,bU 56 0 44,bU 57 1 44,ae 7 56,ae 8 57])) <|
  ak [ae 33 6,aq 34 2 2,an 35 34,ae 36 9,bJ 37 36,aq 38 0 37,an 39 38,aQ 40 3 35 39,aq 41 0 40,an 42 41,((some 43),.op (.old (.lookup 175 (.tmp 33) (.tmp 42) false) 177)),ae 9 43]
def rI:SF:=⟨.seq (ak [cx 2 0,((some 4),.op (.aZ (.val (.emp 1)))),aH 5 0]) <|
  .seq (ak [aT 12 4 2,aL 13 109 [12],ae 6 13]) <|
  .seq (ak [aT 15 4 2,ae 16 1,cL 17 110 [(.tmp 15),(.tmp 16),(.val (.val (.int .i64 (-1)))),(.val (.emp 1))],ae 14 17,bU 18 0 14,bU 19 1 14,ae 7 18,ae 8 19]) <|
  .seq (.seq (ak [ae 20 6,aq 21 2 2,an 22 21,ae 23 1,aQ 24 3 22 23,aq 25 0 24,an 26 25,((some 27),.op (.old (.lookup 175 (.tmp 20) (.tmp 26) false) 177)),ae 9 27]) <|
  .block 0 (.loop qb)) <|
  .seq (.seq (ak [ae 58 8,cd 59 58]) <|
  .cond (.tmp 59) (.seq (ak [((some 4),.op (.aZ (.val (.emp 1)))),aH 5 13]) <|
  .ret) (.skip)) <|
  .seq (.seq (ak [aT 61 4 2,ae 62 7,aL 63 111 [61,62],ae 60 63,bU 64 0 60,bU 65 1 60,ae 10 64,ae 11 65]) <|
  .seq (.region false [⟨none,[ae 66 11,ax 67 .neq 66 0,ae 68 67]⟩,⟨(some (68,false)),[ae 69 10,aP 70 69,ax 71 .gtr 70 60]⟩,⟨none,[bH 72 68 71]⟩]) <|
  .cond (.tmp 72) (.seq (ak [((some 4),.op (.aZ (.val (.emp 1)))),aH 5 13]) <|
  .ret) (.skip)) <|
  .seq (ak [ae 73 7,ae 4 73,aH 5 0]) <|
  .ret,
  [.tmp 4,.tmp 5],74⟩
theorem xe:aU Tryz.prog 61 [2]=some rI:=by kernel_rfl
def rN:SF:=⟨.seq (ak [cx 2 0,((some 4),.op (.aZ (.val (.emp 1)))),aH 5 0]) <|
  .seq (.seq (.region false [⟨none,[aT 6 4 2,aL 7 60 [6],cd 8 7,ae 9 8]⟩,⟨(some (9,false)),[ae 10 1,ax 11 .lss 10 0]⟩,⟨none,[bH 12 9 11,ae 13 12]⟩,⟨(some (13,false)),[ae 14 1,aq 15 2 2,an 16 15,aP 17 16,aR 18 .geq 14 17]⟩,⟨none,[bH 19 13 18]⟩]) <|
  .cond (.tmp 19) (.seq (ak [((some 4),.op (.aZ (.val (.emp 1)))),aH 5 1]) <|
  .ret) (.skip)) <|
  .seq (ak [aT 20 4 2,ae 21 1,aL 22 61 [20,21],bU 23 0 22,bU 24 1 22,ae 4 23,ae 5 24]) <|
  .ret,
  [.tmp 4,.tmp 5],25⟩
theorem w9:aU Tryz.prog 28 [2]=some rN:=by kernel_rfl
set_option maxHeartbeats 8000000 in
theorem yY (g:ao) (hg:g.Ok) (hsm:g.Small) (hr:isRed g=true) (r:Nat) (hkr:r < g.rules.length):aF Tryz.prog 61 [.agg (al g),gi r] (gV (dt g r)):=by
  refine aF.of (yg g r) ?_
  have hrl:=hg.rules
  unfold aN at hrl
  refine az.of mixed xe ?_
  obtain ⟨hri,hW,hall⟩:=iJ hr
  have hf:=aX hri
  have p2:=E3 g hg hsm hf r hkr (-1) (by unfold bM; omega) [] (by simp)
  have hR:g.rules[r]?=some (g.rules[r]'hkr):=List.getElem?_eq_getElem hkr
  have hlf:=(ja hR).2
  have hmr:=List.mem_of_getElem? hR
  generalize g.rules[r]'hkr=R at hR hlf hmr
  have hleft:=hf.left R hmr
  have hin:=hall R.left.toNat (by omega)
  rw[show ((R.left.toNat:Nat):Int)=R.left by omega] at hin
  have ht0:dO g r=cm g (dB g) (dg (dB g) R.left) R.left (dP g r (-1) []):=by rw[dO,hlf]
  have p1:=Nt g hg hf
  simp only[al,encS] at p1 p2
  simp (disch:=omega) only [↓wr,↓reduceIte,wq,ah,Nat.reduceEqDiff,Nat.reduceAdd,Nat.reduceLeDiff,Int.reduceNeg,rI,al,encS]
  refine aC.gA ((p1 _).mono ?_)
  rintro _ H1 ⟨q,c,m,rfl,hq,hM⟩
  simp (disch:=omega) only [↓wr,↓reduceIte,wq,Nat.reduceEqDiff,Nat.reduceAdd,Nat.reduceLeDiff,Int.reduceNeg]
  refine aC.qq p2 (by kernel_rfl) ⟨.tree (cg _ (cO g)),.tree (.val _),.tree (.val _),fun _ _=>.emp 1,trivial⟩ ?_
  simp (disch:=omega) only [↓wr,↓reduceIte,wq,Nat.reduceEqDiff,Nat.reduceAdd,Nat.reduceLT,Int.reduceNeg,aK,List.getElem?_map,hR]
  refine yz (kt:=3) (et:=177) (z:=.val (.pointer none)) (by kernel_rfl) (by kernel_rfl) (ia .i64 Tryz.underlying3) (id:=q) (c:=c) (m:=m) (k:=R.left) (by simp (disch:=omega) only [↓wr,↓reduceIte,Nat.reduceEqDiff]) (by simp (disch:=omega) only [↓wr,↓reduceIte]) hq ?_
  simp (disch:=omega) only [↓wr,↓reduceIte,wq,Int.reduceNeg]
  refine bc.up (dg (dB g) R.left) (fun d T H'=>∃ (n:Int) (x:List Int × Bool),n∈bu (dB g)∧dg (dB g) n+d≤dg (dB g) R.left∧(x.2=true→x.1.length≤300)∧cm g (dB g) (dg (dB g) n) n x=dO g r ∧
    H1=H'∧T 1=gi r∧T 2=.aS (al g) 0∧T 6=.mp q∧T 7=encI x.1∧T 8=gb x.2∧T 9=(getM m n).getD (.val (.pointer none))) ?_ ?_
  · exact ⟨R.left,dP g r (-1) [],hin,by omega,vI,ht0.symm,rfl,rfl,rfl,rfl,rfl,rfl,rfl⟩
  rintro d k T _ hk ⟨n,x,hn,hd,hx3,hcl,rfl,t1,t2,t6,t7,t8,t9⟩
  have hMn:=hM n
  simp (disch:=omega) only [↓wr,↓reduceIte,wq,qb,t8,encI,al,encS]
  refine ar.split (fun hx=>?_) (fun hx=>?_)
  · by_cases hs:n=g.start
    · have hst:x=dO g r:=by rw[← hcl]; exact (qn hW (.inr hs)).symm
      have hls:=kb hW
      rw[← hs] at hls
      rw[hls] at hMn
      obtain ⟨_,hv⟩:(-1:Int) = -1∧getM m n=some (.val (.pointer none)):=by
        rcases hMn with h | ⟨h,_⟩
        · exact h
        · exact absurd h (by simp)
      rw[hv] at t9
      simp (disch:=omega) only [↓wr,↓reduceIte,wq,ai,isNil,Nat.reduceEqDiff,reduceCtorEq,t8,t9,Option.getD_some]
      have h300:=hx3 hx
      have p4:=(LG g hg hsm x.1 (by unfold aN; omega)).pure
      simp only[al,encS,encI,gV] at p4
      have eu:dt g r=if 60 < (iI g x.1).1.length then ([],13) else (x.1,0):=by rw[dt,← hst,if_neg (by rw[hx]; simp)]
      have hw0:=(IS hr hkr (by rw[← hst]; exact hx)).1
      rw[← hst] at hw0
      rw[hw0] at p4
      try simp (disch:=omega) only [↓wr,↓reduceIte,wq,ah,ag,aj,aa,ab,af,ai,isNil,Nat.reduceEqDiff,Nat.reduceAdd,Nat.reduceLT,Nat.reduceLeDiff,Int.reduceNeg,Int.reduceToNat,reduceCtorEq,t1,t2,t6,t7,t8,t9]
      refine ar.split (fun _=>?_) (fun h=>by rw[hx] at h; simp at h)
      simp (disch:=omega) only [↓wr,↓reduceIte,wq,Nat.reduceEqDiff,Nat.reduceAdd,Nat.reduceLeDiff,t2,t7,t8,encI,al,encS]
      refine aC.pure p4 (by kernel_rfl) ?_
      simp (disch:=omega) only [↓wr,↓reduceIte,wq,ag,Nat.reduceEqDiff,Nat.reduceAdd,Nat.reduceLT]
      refine ar.ne (fun h=>absurd rfl h) (fun _=>?_)
      simp (disch:=omega) only [↓wr,↓reduceIte,wq,ag,aj,Nat.reduceEqDiff]
      refine ar.dec (fun hl=>?_) (fun hl=>?_)
      · simp (disch:=omega) only [↓wr,↓reduceIte,wq,Nat.reduceEqDiff,reduceCtorEq]
        intro h' _
        rw[eu,if_pos (by omega)]
        exact (cW (x:=([],13)) (.emp _)).jH
      · simp (disch:=omega) only [↓wr,↓reduceIte,wq,Nat.reduceEqDiff,reduceCtorEq,t7]
        intro h' _
        rw[eu,if_neg (by omega)]
        exact .tree _ (BL (x.1,0))
    · obtain ⟨k2,j,R2,h1,h2,h3,h4,h5,h6,h7⟩:=A8 (x:=x) hW hn hs hx
      rw[h1] at hMn
      obtain ⟨p,hv,hp⟩:∃ p,getM m n=some (.ptr p 0 0)∧H1 p=.arr 2 [[gi k2,gi j]]:=by
        rcases hMn with ⟨h,_⟩ | ⟨_,p,h⟩
        · simp at h
        · exact ⟨p,h⟩
      rw[hv] at t9
      simp (disch:=omega) only [↓wr,↓reduceIte,wq,ai,isNil,Nat.reduceEqDiff,t2,t9,Option.getD_some]
      have hk2:k2 < g.rules.length:=(List.getElem?_eq_some_iff.1 h2).1
      have hj6:=hf.right R2 (List.mem_of_getElem? h2)
      have hjl:=(List.getElem?_eq_some_iff.1 h3).1
      have p3:=(E3 g hg hsm hf k2 hk2 j (by unfold bM; omega) x.1 (hx3 hx)).pure
      have hl2:=hf.left R2 (List.mem_of_getElem? h2)
      simp only[al,encS,encI] at p3
      simp (disch:=omega) only [↓wr,↓reduceIte,wq,Nat.reduceEqDiff,Nat.reduceAdd,Nat.reduceLT,Nat.reduceLeDiff,t7,t9,hp,encI,al,encS,Option.getD_some]
      try simp (disch:=omega) only [↓wr,↓reduceIte,wq,ah,ag,aj,aa,ab,af,ai,isNil,Nat.reduceEqDiff,Nat.reduceAdd,Nat.reduceLT,Nat.reduceLeDiff,Int.reduceNeg,Int.reduceToNat,reduceCtorEq,t1,t2,t6,t7,t8,t9,hp,encI,al,encS,Option.getD_some]
      refine aC.pure p3 (by kernel_rfl) ?_
      simp (disch:=omega) only [↓wr,↓reduceIte,wq,Nat.reduceEqDiff,Nat.reduceAdd,Nat.reduceLT,reduceCtorEq,t2,t6,t9,hp,encI,al,encS,aK,List.getElem?_map,h2,Option.getD_some]
      refine yz (kt:=3) (et:=177) (z:=.val (.pointer none)) (by kernel_rfl) (by kernel_rfl) (ia .i64 Tryz.underlying3) (id:=q) (c:=c) (m:=m) (k:=R2.left) (by simp (disch:=omega) only [↓wr,↓reduceIte,Nat.reduceEqDiff]) (by simp (disch:=omega) only [↓wr,↓reduceIte]) hq ?_
      simp (disch:=omega) only [↓wr,↓reduceIte,wq]
      refine aJ hk (by omega) ⟨R2.left,dP g k2 j x.1,h5,by omega,vI,by rw[← h7]; exact hcl,rfl,t1,t2,t6,rfl,rfl,rfl⟩
  · have hst:x=dO g r:=by rw[← hcl]; exact (qn hW (.inl hx)).symm
    simp (disch:=omega) only [↓wr,↓reduceIte,wq,Nat.reduceEqDiff,reduceCtorEq,t8]
    refine ar.split (fun h=>by rw[hx] at h; simp at h) (fun _=>?_)
    simp (disch:=omega) only [↓wr,↓reduceIte,wq,Nat.reduceEqDiff,reduceCtorEq]
    intro h' _
    rw[dt,← hst,if_pos hx]
    exact (cW (x:=([],13)) (.emp _)).jH
set_option maxHeartbeats 4000000 in
theorem sP (g:ao) (hg:g.Ok) (hsm:g.Small) (i:Int) (hi:bM i):aF Tryz.prog 28 [.agg (al g),gi i] (gV (gu g i)):=by
  refine aF.of (yg g i) ?_
  have hc:=Jj g hg hsm
  have hrl:=hg.rules
  unfold aN at hrl
  unfold bM at hi
  refine az.of mixed w9 ?_
  simp only[al,encS] at hc
  simp (disch:=omega) only [↓wr,↓reduceIte,wq,ah,Nat.reduceEqDiff,Nat.reduceAdd,Nat.reduceLeDiff,rN,al,encS]
  refine aC.pure hc (by kernel_rfl) ?_
  have hno:(isRed g && decide (0≤i) && decide (i < g.rules.length))=false→gu g i=([],1):=fun h=>by rw[gu,if_neg (by rw[h]; simp)]
  simp (disch:=omega) only [↓wr,↓reduceIte,wq]
  refine ar.split (fun hr=>?_) (fun hr=>?_)
  rotate_left
  · simp (disch:=omega) only [↓wr,↓reduceIte,wq,Nat.reduceEqDiff,reduceCtorEq]
    intro h' _
    rw[hno (by rw[hr]; rfl)]
    exact (cW (x:=([],1)) (.emp _)).jH
  simp (disch:=omega) only [↓wr,↓reduceIte,wq,ag,Nat.reduceEqDiff]
  refine ar.dec (fun h0=>?_) (fun h0=>?_)
  · simp (disch:=omega) only [↓wr,↓reduceIte,wq,Nat.reduceEqDiff,reduceCtorEq]
    intro h' _
    rw[hno (by rw[hr]; simp; omega)]
    exact (cW (x:=([],1)) (.emp _)).jH
  simp (disch:=omega) only [↓wr,↓reduceIte,wq,ag,aj,Nat.reduceEqDiff,Nat.reduceAdd,Nat.reduceLT]
  refine ar.dec (fun h1=>?_) (fun h1=>?_)
  · simp (disch:=omega) only [↓wr,↓reduceIte,wq,Nat.reduceEqDiff,reduceCtorEq]
    intro h' _
    rw[hno (by rw[hr]; simp; omega)]
    exact (cW (x:=([],1)) (.emp _)).jH
  obtain ⟨r,rfl⟩:∃ r:Nat,i=(r:Int):=⟨i.toNat,by omega⟩
  have e0:gu g r=dt g r:=by rw[gu,if_pos (by rw[hr]; simp; omega)]
  have p1:=yY g hg hsm hr r (by omega)
  rw[← e0] at p1
  simp only[al,encS,gV] at p1
  simp (disch:=omega) only [↓wr,↓reduceIte,wq,Nat.reduceEqDiff,Nat.reduceAdd,Nat.reduceLeDiff]
  refine aC.pure p1 (by kernel_rfl) ?_
  simp (disch:=omega) only [↓wr,↓reduceIte,wq,Nat.reduceEqDiff,Nat.reduceAdd,Nat.reduceLT,reduceCtorEq]
  intro h' _
  exact .tree _ (BL (gu g r))
def ix:SC :=
  .seq (ak [aR 9 .lss 8 7]) <|
  .seq (.cond (.tmp 9) (.skip) (.exit 0)) <|
  .seq (.block 1 (.seq (ak [ae 10 8,ae 5 10]) <|
  .seq (ak [ae 11 1,ae 12 0,ae 13 5,aQ 14 1 12 13,an 15 14,aR 16 .eql 11 15]) <|
  .cond (.tmp 16) (.seq (ak [ae 17 5,ae 4 17]) <|
  .ret) (.skip))) <|
  ak [ax 18 .add 8 1,ae 8 18]
def jl:SF:=⟨.seq (ak [aH 4 0]) <|
  .seq (.seq (ak [ae 6 0,aP 7 6,aH 8 0]) <|
  .block 0 (.loop ix)) <|
  .seq (ak [aH 4 (-1)]) <|
  .ret,
  [.tmp 4],19⟩
theorem nX:aU Tryz.prog 114 []=some jl:=by kernel_rfl
def iq:SF:=⟨.seq (ak [bg 4 false]) <|
  .seq (ak [ae 5 0,ae 6 1,aL 7 114 [5,6],ax 8 .geq 7 0,ae 4 8]) <|
  .ret,
  [.tmp 4],9⟩
theorem l8:aU Tryz.prog 66 []=some iq:=by kernel_rfl
def sq:SF:=⟨.seq (ak [bg 3 false]) <|
  .seq (ak [ae 4 0,an 5 1,aL 6 66 [4,5],ae 3 6]) <|
  .ret,
  [.tmp 3],7⟩
theorem xG:aU Tryz.prog 65 []=some sq:=by kernel_rfl
def fE:SC :=
  .seq (ak [aR 9 .lss 8 7]) <|
  .seq (.cond (.tmp 9) (.skip) (.exit 0)) <|
  .seq (.block 1 (.seq (ak [ae 10 8,ae 5 10]) <|
  .seq (ak [ae 11 1,ae 12 0,ae 13 5,aQ 14 1 12 13,an 15 14,((some 16),.call (.tmp 11) [(.tmp 15)])]) <|
  .cond (.tmp 16) (.seq (ak [ae 17 5,ae 4 17]) <|
  .ret) (.skip))) <|
  ak [ax 18 .add 8 1,ae 8 18]
def ga:SF:=⟨.seq (ak [aH 4 0]) <|
  .seq (.seq (ak [ae 6 0,aP 7 6,aH 8 0]) <|
  .block 0 (.loop fE)) <|
  .seq (ak [aH 4 (-1)]) <|
  .ret,
  [.tmp 4],19⟩
theorem jK:aU Tryz.prog 113 []=some ga:=by kernel_rfl
def fk:SF:=⟨.seq (ak [bg 4 false]) <|
  .seq (ak [ae 5 0,ae 6 1,aL 7 113 [5,6],ax 8 .geq 7 0,ae 4 8]) <|
  .ret,
  [.tmp 4],9⟩
theorem iM:aU Tryz.prog 64 []=some fk:=by kernel_rfl
def r5:SC :=
  .seq (ak [aR 15 .lss 14 13]) <|
  .seq (.cond (.tmp 15) (.skip) (.exit 0)) <|
  .seq (.block 1 (.seq (ak [ae 16 14,((some 5),.op (.alloc [(.val (.int .i64 0))])),(none,.op (.store 1 (.tmp 5) (.tmp 16)))]) <|
  .seq (.seq (ak [ae 17 4,((some 18),.op (.uV 65 [] [(.tmp 5)])),aL 19 64 [17,18]]) <|
  .cond (.tmp 19) (.exit 1) (.skip)) <|
  .seq (ak [aT 21 4 1,an 22 5,aL 23 61 [21,22],ae 20 23,bU 24 0 20,bU 25 1 20,ae 6 24,ae 7 25]) <|
  .seq (.seq (ak [ae 26 7,ax 27 .neq 26 0]) <|
  .cond (.tmp 27) (.seq (ak [ae 28 7,((some 2),.op (.aZ (.val (.emp 1)))),ae 3 28]) <|
  .ret) (.skip)) <|
  ak [ae 29 4,ae 30 6,((some 31),.op (.bA 1 1 [(.emp 1)] [(0,(.tmp 30))])),((some 32),.op (.app 1 24 (.tmp 29) (.tmp 31))),ae 4 32])) <|
  ak [ax 33 .add 14 1,ae 14 33]
def wh:SF:=⟨.seq (ak [cx 1 0,((some 2),.op (.aZ (.val (.emp 1)))),aH 3 0]) <|
  .seq (.seq (ak [aT 8 4 1,aL 9 60 [8],cd 10 9]) <|
  .cond (.tmp 10) (.seq (ak [((some 2),.op (.aZ (.val (.emp 1)))),aH 3 1]) <|
  .ret) (.skip)) <|
  .seq (ak [((some 4),.op (.aZ (.val (.emp 1))))]) <|
  .seq (.seq (ak [aq 11 2 1,an 12 11,aP 13 12,aH 14 0]) <|
  .block 0 (.loop r5)) <|
  .seq (ak [ae 34 4,ae 2 34,aH 3 0]) <|
  .ret,
  [.tmp 2,.tmp 3],35⟩
theorem zb:aU Tryz.prog 31 [1]=some wh:=by kernel_rfl
theorem Gd (l:List Int) (x:Int):∀ v∈[encI l,gi x],Tree v:=by
  intro v hv; simp at hv
  rcases hv with rfl | rfl
  · exact bX l
  · exact .val _
theorem JM (l:List Int) (hl:aN l) (x:Int):aF Tryz.prog 114 [encI l,gi x] (gi (cI (fun y=>x == y) l 0)):=by
  refine aF.val (Gd l x) fun H=>?_
  refine az.of mixed nX ?_
  unfold aN at hl
  simp (disch:=omega) only [↓wr,↓reduceIte,wq,ah,aj,Nat.reduceAdd,Nat.reduceLeDiff,Int.reduceNeg,reduceCtorEq,jl,encI]
  refine bc.up l.length (fun i T _=>cI (fun y=>x == y) (l.drop i) i=cI (fun y=>x == y) l 0∧T 0=encI l∧T 1=gi x∧T 7=gi l.length∧T 8=gi i) ⟨rfl,rfl,rfl,rfl,rfl⟩ ?_
  rintro i k T H hk ⟨hi,h0,h1,h7,h8⟩
  simp (disch:=omega) only [↓wr,↓reduceIte,wq,ag,Int.reduceNeg,reduceCtorEq,ix,h7,h8,encI]
  refine ar.dec (fun hc=>?_) (fun hc=>?_)
  · have hg:l[i]?=some (l[i]'(by omega)):=List.getElem?_eq_getElem (by omega)
    rw[c9 (show i < l.length by omega)] at hi
    generalize l[i]'(by omega)=y at hg hi
    simp (disch:=omega) only [↓wr,↓reduceIte,wq,ag,Nat.reduceEqDiff,Nat.reduceLT,Int.reduceNeg,reduceCtorEq,h0,h1,h8,encI,List.getElem?_map,hg]
    simp only[cI] at hi
    refine ar.eq (fun e=>?_) (fun e=>?_)
    · simp (disch:=omega) only [↓wr,↓reduceIte,wq,ag,Nat.reduceEqDiff,Int.reduceNeg,reduceCtorEq]
      rw[← hi,if_pos (by simpa using e)]
    · simp (disch:=omega) only [↓wr,↓reduceIte,wq,ag,Nat.reduceEqDiff,Int.reduceNeg,reduceCtorEq,h8]
      refine aJ hk (by omega) ⟨?_,h0,h1,h7,rfl⟩
      rw[if_neg (by simpa using e)] at hi
      push_cast; exact hi
  · rw[List.drop_eq_nil_of_le (by omega)] at hi
    simp (disch:=omega) only [↓wr,↓reduceIte,wq,Nat.reduceEqDiff,Int.reduceNeg,reduceCtorEq]
    rw[← hi]; rfl
theorem Nd (l:List Int) (x:Int):(l.any fun y=>x == y)=decide (x∈l):=by
  rw[Bool.eq_iff_iff,List.any_eq_true,decide_eq_true_eq]
  constructor
  · rintro ⟨y,hy,e⟩
    rw[show x=y by simpa using e]; exact hy
  · exact fun h=>⟨x,h,by simp⟩
theorem Ef (l:List Int) (hl:aN l) (x:Int):aF Tryz.prog 66 [encI l,gi x] (gb (decide (x∈l))):=by
  refine aF.val (Gd l x) fun H=>?_
  refine az.of mixed l8 ?_
  simp (disch:=omega) only [↓wr,↓reduceIte,wq,ah,Nat.reduceEqDiff,Nat.reduceAdd,Nat.reduceLeDiff,reduceCtorEq,iq]
  refine aC.pure (JM l hl x) (by kernel_rfl) ?_
  simp (disch:=omega) only [↓wr,↓reduceIte,wq,ag,reduceCtorEq]
  rw[← Nd,← nM _ l 0 (by omega)]
theorem H9 (w:List Int) (hw:aN w) (b:Nat) (i:Int) (H:View) (hb:H b=.arr 1 [[gi i]]):az Tryz.prog 65 [encI w,.ptr b 0 0] H fun r H'=>r=gb (decide (i∈w))∧H'=H:=by
  refine az.of mixed xG ?_
  simp (disch:=omega) only [↓wr,↓reduceIte,wq,ah,Nat.reduceEqDiff,Nat.reduceAdd,Nat.reduceLT,Nat.reduceLeDiff,reduceCtorEq,sq,hb]
  refine aC.pure (Ef w hw i) (by kernel_rfl) ?_
  simp (disch:=omega) only [↓wr,↓reduceIte,wq,reduceCtorEq]
set_option maxHeartbeats 4000000 in
theorem GD (l:List (List Int)) (hl:l.length≤100000) (hs:∀ w∈l,aN w) (u:V) (b:Nat) (x:Int) (H:View) (hb:H b=.arr 1 [[gi x]]) (ho:aV H u 1 (DI l)) :
    az Tryz.prog 113 [u,.fn 65 [] [.ptr b 0 0]] H fun r H'=>r=gi (cI (fun w=>decide (x∈w)) l 0)∧H'=H:=by
  refine az.of mixed jK ?_
  simp (disch:=omega) only [↓wr,↓reduceIte,wq,ah,aj,Nat.reduceAdd,Nat.reduceLeDiff,Int.reduceNeg,reduceCtorEq,ga,ho.len]
  refine bc.up l.length (fun i T H'=>H=H'∧cI (fun w=>decide (x∈w)) (l.drop i) i=cI (fun w=>decide (x∈w)) l 0∧T 0=u∧T 1=.fn 65 [] [.ptr b 0 0]∧T 7=gi l.length∧T 8=gi i) ⟨rfl,rfl,rfl,rfl,rfl,rfl⟩ ?_
  rintro i k T _ hk ⟨rfl,hi,h0,h1,h7,h8⟩
  simp (disch:=omega) only [↓wr,↓reduceIte,wq,ag,Int.reduceNeg,reduceCtorEq,fE,h7,h8]
  refine ar.dec (fun hc=>?_) (fun hc=>?_)
  · obtain ⟨m,hsv,hm⟩:=ho.sl (by simp; omega)
    have hg:l[i]?=some (l[i]'(by omega)):=List.getElem?_eq_getElem (by omega)
    have hmem:l[i]'(by omega)∈l:=List.getElem_mem _
    rw[c9 (show i < l.length by omega)] at hi
    generalize l[i]'(by omega)=w at hg hi hmem
    have hgw:(DI l).getD i []=[encI w]:=by simp[List.getD_eq_getElem?_getD,hg]
    simp (disch:=omega) only [↓wr,↓reduceIte,wq,Nat.reduceEqDiff,Nat.reduceLT,Int.reduceNeg,reduceCtorEq,h0,h1,h8,hsv,hm,hgw]
    refine ⟨by omega,by omega,?_⟩
    refine aC.gA ((H9 w (hs w hmem) b x H hb).mono ?_)
    rintro r H2 ⟨rfl,rfl⟩
    simp only[cI] at hi
    simp (disch:=omega) only [↓wr,↓reduceIte,wq,Int.reduceNeg]
    refine ar.dec (fun e=>?_) (fun e=>?_)
    · simp (disch:=omega) only [↓wr,↓reduceIte,wq,ag,Nat.reduceEqDiff,Int.reduceNeg,reduceCtorEq,h8]
      rw[← hi,if_pos (by simpa using e)]
    · simp (disch:=omega) only [↓wr,↓reduceIte,wq,ag,Nat.reduceEqDiff,Int.reduceNeg,reduceCtorEq,h8]
      refine aJ hk (by omega) ⟨rfl,?_,h0.trans rfl,h1,h7,rfl⟩
      rw[if_neg (by simpa using e)] at hi
      push_cast; exact hi
  · rw[List.drop_eq_nil_of_le (by omega)] at hi
    simp (disch:=omega) only [↓wr,↓reduceIte,wq,Nat.reduceEqDiff,Int.reduceNeg,reduceCtorEq]
    rw[← hi]; rfl
theorem Dg (l:List (List Int)) (hl:l.length≤100000) (hs:∀ w∈l,aN w) (u:V) (b:Nat) (x:Int) (H:View) (hb:H b=.arr 1 [[gi x]]) (ho:aV H u 1 (DI l)) :
    az Tryz.prog 64 [u,.fn 65 [] [.ptr b 0 0]] H fun r H'=>r=gb (l.any fun w=>decide (x∈w))∧H'=H:=by
  refine az.of mixed iM ?_
  simp (disch:=omega) only [↓wr,↓reduceIte,wq,ah,Nat.reduceEqDiff,Nat.reduceAdd,Nat.reduceLeDiff,reduceCtorEq,fk]
  refine aC.gA ((GD l hl hs u b x H hb ho).mono ?_)
  rintro r H2 ⟨rfl,rfl⟩
  simp (disch:=omega) only [↓wr,↓reduceIte,wq,ag,reduceCtorEq]
  rw[← nM _ l 0 (by omega)]
set_option maxHeartbeats 8000000 in
theorem CS (g:ao) (hg:g.Ok) (hsm:g.Small):aF Tryz.prog 31 [.agg (al g)] (Dx (pr g)):=by
  refine aF.of (dM g) ?_
  have hc:=Jj g hg hsm
  have hrl:=hg.rules
  unfold aN at hrl
  refine az.of mixed zb ?_
  simp only[al,encS] at hc
  simp (disch:=omega) only [↓wr,↓reduceIte,wq,ah,Nat.reduceEqDiff,Nat.reduceAdd,Nat.reduceLeDiff,wh,al,encS]
  refine aC.pure hc (by kernel_rfl) ?_
  simp (disch:=omega) only [↓wr,↓reduceIte,wq]
  refine ar.split (fun hr=>?_) (fun hr=>?_)
  rotate_left
  · simp (disch:=omega) only [↓wr,↓reduceIte,wq,Nat.reduceEqDiff,reduceCtorEq]
    intro h' _
    rw[pr,if_neg (by rw[hr]; simp)]
    exact y7 (x:=([],1)) .nil
  have hri:=(iJ hr).1
  have hf:=aX hri
  have e0:pr g=bS g g.rules.length:=by rw[pr,if_pos hr]
  have h40:=hf.rules
  simp (disch:=omega) only [↓wr,↓reduceIte,wq,aj,Nat.reduceEqDiff,Nat.reduceAdd,Nat.reduceLT]
  refine bc.up g.rules.length (fun i T H'=>∃ u,(bS g i).2=0∧aV H' u 1 (DI (bS g i).1)∧T 1=.aS (al g) 0∧T 4=u∧T 13=gi g.rules.length∧T 14=gi i) ?_ ?_
  · exact ⟨_,rfl,.nil,rfl,rfl,rfl,rfl⟩
  rintro i k T H' hk ⟨u,hz,ho,t1,t4,t13,t14⟩
  simp (disch:=omega) only [↓wr,↓reduceIte,wq,ag,Nat.reduceEqDiff,reduceCtorEq,r5,t13,t14,al,encS]
  refine ar.dec (fun hd=>?_) (fun hd=>?_)
  · obtain ⟨a1,a2,a3,a4⟩:=C6 hr i (by omega)
    have hw:∀ t∈(bS g i).1,t.length≤300:=fun t ht=>by obtain ⟨_,_,h,_⟩:=a2 t ht; exact h
    simp (disch:=omega) only [↓wr,↓reduceIte,wq,aa,Nat.reduceEqDiff,Nat.reduceLT,Nat.reduceLeDiff,t4,t14]
    intro b hb
    have ho':=ho.fresh hb (o:=.arr 1 [[gi i]])
    have hbb:(H'.set b (.arr 1 [[gi i]])) b=.arr 1 [[gi i]]:=by simp[View.set]
    refine aC.gA (P:=Tryz.prog) ((Dg (bS g i).1 (by omega) (fun w h=>by unfold aN; have:=hw w h; omega) u b i _ (by simp[View.set]) (by rw[set_set]; exact ho')).mono ?_)
    rintro r H2 ⟨rfl,rfl⟩
    rw[set_set]
    simp (disch:=omega) only [↓wr,↓reduceIte,wq]
    refine ar.split (fun hany=>?_) (fun hany=>?_)
    · simp (disch:=omega) only [↓wr,↓reduceIte,wq,ag,Nat.reduceEqDiff,reduceCtorEq,t4,t14]
      have en:bS g (i+1)=bS g i:=by rw[bS,if_neg (by rw[hz]; simp),if_pos hany]
      exact aJ hk (by omega) ⟨u,by rw[en]; exact hz,by rw[en]; exact ho',t1,t4,t13,rfl⟩
    · have p2:=yY g hg hsm hr i (by omega)
      simp only[al,encS,gV] at p2
      generalize H'.set b (.arr 1 [[gi i]])=H5 at ho' hbb
      simp (disch:=omega) only [↓wr,↓reduceIte,wq,Nat.reduceEqDiff,Nat.reduceAdd,Nat.reduceLT,Nat.reduceLeDiff,t1,al,encS,hbb]
      refine aC.pure p2 (by kernel_rfl) ?_
      simp (disch:=omega) only [↓wr,↓reduceIte,wq,ag,Nat.reduceEqDiff,Nat.reduceAdd,Nat.reduceLT]
      refine ar.ne (fun hne=>?_) (fun hne=>?_)
      · simp (disch:=omega) only [↓wr,↓reduceIte,wq,ag,Nat.reduceEqDiff,reduceCtorEq,t4,t14]
        have en:bS g (i+1)=([],(dt g i).2):=by rw[bS,if_neg (by rw[hz]; simp),if_neg (by rw[hany]; simp),if_neg hne]
        intro h' _
        rw[e0,GQ (i:=i+1) (by rw[en]; exact hne) (by omega),en]
        exact y7 (x:=([],(dt g i).2)) .nil
      · have en:bS g (i+1)=((bS g i).1 ++ [(dt g i).1],0):=by rw[bS,if_neg (by rw[hz]; simp),if_neg (by rw[hany]; simp),if_pos hne]
        simp (disch:=omega) only [↓wr,↓reduceIte,wq,af,Nat.reduceEqDiff,Nat.reduceLT,t4,encI]
        intro q hq
        simp (disch:=omega) only [↓wr,↓reduceIte,wq,Nat.reduceEqDiff,bQ]
        refine rO (ho'.fresh hq) (by simp) (P0 _) (by unfold aG; simp; omega) (by unfold aG; simp; omega) ?_
        intro u2 H2 o2 _
        simp (disch:=omega) only [↓wr,↓reduceIte,wq,ag,Nat.reduceEqDiff,reduceCtorEq,t14]
        exact aJ hk (by omega) ⟨u2,by rw[en],by rw[en,DI,List.map_append]; exact o2,t1,rfl,t13,rfl⟩
  · simp (disch:=omega) only [↓wr,↓reduceIte,wq,Nat.reduceEqDiff,reduceCtorEq,t4]
    rintro h' rfl
    rw[e0,show g.rules.length=i by omega]
    have:=y7 (x:=bS g i) ho
    rwa [hz] at this
def lK:SC :=
  .seq (.seq (ak [ae 11 5,ae 12 0,aP 13 12,aR 14 .lss 11 13]) <|
  .cond (.tmp 14) (.skip) (.exit 0)) <|
  .seq (.block 1 (.seq (ak [ae 17 0,ae 18 5,aQ 19 1 17 18,an 20 19,ae 21 1,ae 22 5,aQ 23 1 21 22,an 24 23,aL 25 17 [20,24],cd 26 25]) <|
  .cond (.tmp 26) (.seq (ak [bg 4 false]) <|
  .ret) (.skip))) <|
  ak [ae 15 5,ax 16 .add 15 1,ae 5 16]
def nA:SF:=⟨.seq (ak [bg 4 false]) <|
  .seq (.seq (ak [ae 6 0,aP 7 6,ae 8 1,aP 9 8,aR 10 .neq 7 9]) <|
  .cond (.tmp 10) (.seq (ak [bg 4 false]) <|
  .ret) (.skip)) <|
  .seq (.seq (ak [aH 5 0]) <|
  .block 0 (.loop lK)) <|
  .seq (ak [bg 4 true]) <|
  .ret,
  [.tmp 4],27⟩
theorem sR:aU Tryz.prog 33 []=some nA:=by kernel_rfl
theorem LM (a b:List (List Int)) (ha:aN a) (hs:∀ w∈a,aN w):aF Tryz.prog 33 [dY a,dY b] (gb (a == b)):=by
  refine aF.val (by intro v hv; simp at hv; rcases hv with rfl | rfl <;> exact AN _) fun H=>?_
  refine az.of mixed sR ?_
  unfold aN at ha
  simp (disch:=omega) only [↓wr,↓reduceIte,wq,ah,ag,aj,Nat.reduceEqDiff,Nat.reduceAdd,Nat.reduceLeDiff,reduceCtorEq,nA,dY]
  refine ar.ne (fun h=>?_) (fun h=>?_)
  · simp (disch:=omega) only [↓wr,↓reduceIte,wq,reduceCtorEq]
    rw[BE (by omega)]
  · simp (disch:=omega) only [↓wr,wq]
    refine bc.up a.length (fun i T H'=>a.take i=b.take i∧T 0=dY a∧T 1=dY b∧T 5=gi i) ⟨by simp,rfl,rfl,rfl⟩ ?_
    rintro i k T H' hk ⟨hi,h0,h1,h5⟩
    simp (disch:=omega) only [↓wr,↓reduceIte,wq,ag,aj,Nat.reduceEqDiff,reduceCtorEq,lK,h0,h5,dY]
    refine ar.dec (fun hc=>?_) (fun hc=>?_)
    · have h2:a[i]?=some (a[i]'(by omega)):=List.getElem?_eq_getElem (by omega)
      have h3:b[i]?=some (b[i]'(by omega)):=List.getElem?_eq_getElem (by omega)
      have hm:=List.mem_of_getElem? h2
      have hp:=yl (a[i]'(by omega)) (b[i]'(by omega)) (hs _ hm)
      simp (disch:=omega) only [↓wr,↓reduceIte,wq,Nat.reduceEqDiff,Nat.reduceLT,reduceCtorEq,h0,h1,h5,dY,List.getElem?_map,h2,h3]
      refine aC.pure hp (by kernel_rfl) ?_
      simp (disch:=omega) only [↓wr,↓reduceIte,wq]
      refine ar.split (fun hd=>?_) (fun hd=>?_)
      · simp (disch:=omega) only [↓wr,↓reduceIte,wq,ag,Nat.reduceEqDiff,reduceCtorEq,h5]
        refine aJ hk (by omega) ⟨?_,h0,h1,rfl⟩
        have hd:=eq_of_beq hd
        rw[List.take_add_one,List.take_add_one,hi,h2,h3,hd]
      · simp (disch:=omega) only [↓wr,↓reduceIte,wq,ag,Nat.reduceEqDiff,reduceCtorEq]
        have:(a == b)=false:=by
          simp only[beq_eq_false_iff_ne]
          rintro rfl
          simp at hd
        rw[this]
    · simp (disch:=omega) only [↓wr,↓reduceIte,wq,Nat.reduceEqDiff,reduceCtorEq]
      rw[List.take_of_length_le (by omega),List.take_of_length_le (by omega)] at hi
      rw[hi]; simp
def GK:Value→Value→Bool
  | .int k a,.int k' b=>decide (k=k') && decide (a=b)
  | .bool a,.bool b=>a == b
  | .string a,.string b=>gK a b
  | .pointer none,.pointer none=>true
  | _,_=>false
theorem La:∀ (a b:Value),GK a b=true→a=b:=by
  intro a b h
  unfold GK at h
  split at h
  · simp only[Bool.and_eq_true,decide_eq_true_eq] at h
    rw[h.1,h.2]
  · rename_i a b
    rw[show a=b by simpa using h]
  · rename_i a b
    obtain ⟨a⟩:=a
    obtain ⟨b⟩:=b
    simp only[gK,beq_iff_eq] at h
    rw[show a=b from Array.toList_inj.1 h]
  · rfl
  · simp at h
def yF (q:V→V→Bool):List V→List V→Bool
  | [],[]=>true
  | a :: l,b :: m=>q a b && yF q l m
  | _,_=>false
def FQ (q:V→V→Bool):List (List V)→List (List V)→Bool
  | [],[]=>true
  | a :: l,b :: m=>yF q a b && FQ q l m
  | _,_=>false
def CY:Nat→V→V→Bool
  | 0,_,_=>false
  | k+1,a,b=>match a,b with
    | .val x,.val y=>GK x y
    | .aY x,.aY y=>FQ (CY k) x y
    | .agg x,.agg y=>yF (CY k) x y
    | .bt x,.bt y=>yF (CY k) x y
    | _,_=>false
theorem uf {q:V→V→Bool} (hq:∀ a b,q a b=true→a=b):∀ (l m:List V),yF q l m=true→l=m
  | [],[],_=>rfl
  | a :: l,b :: m,h=>by
    simp only[yF,Bool.and_eq_true] at h
    rw[hq a b h.1,uf hq l m h.2]
  | [],_ :: _,h=>by simp[yF] at h
  | _ :: _,[],h=>by simp[yF] at h
theorem Jf {q:V→V→Bool} (hq:∀ a b,q a b=true→a=b):∀ (l m:List (List V)),FQ q l m=true→l=m
  | [],[],_=>rfl
  | a :: l,b :: m,h=>by
    simp only[FQ,Bool.and_eq_true] at h
    rw[uf hq a b h.1,Jf hq l m h.2]
  | [],_ :: _,h=>by simp[FQ] at h
  | _ :: _,[],h=>by simp[FQ] at h
theorem EK:∀ (k:Nat) (a b:V),CY k a b=true→a=b
  | 0,_,_,h=>by simp[CY] at h
  | k+1,a,b,h=>by
    have ih:=EK k
    unfold CY at h
    split at h
    · rw[La _ _ h]
    · rw[Jf ih _ _ h]
    · rw[uf ih _ _ h]
    · rw[uf ih _ _ h]
    · simp at h
def rM:Nat→V→Bool
  | 0,_=>false
  | k+1,v=>match v with
    | .val _=>true
    | .emp _=>true
    | .dI=>true
    | .aY es=>es.all fun e=>e.all (rM k)
    | .agg cs=>cs.all (rM k)
    | .bt cs=>cs.all (rM k)
    | _=>false
theorem uP {q:V→Bool} {l:List V} (h:l.all q=true) {i:Nat} (hi:i < l.length):q (l.getD i .any)=true:=by
  have e:l.getD i .any=l[i]:=by simp[List.getD_eq_getElem?_getD,hi]
  rw[e]
  exact List.all_eq_true.1 h _ (List.getElem_mem _)
theorem y9:∀ (k:Nat) (v:V),rM k v=true→Tree v
  | 0,_,h=>by simp[rM] at h
  | k+1,v,h=>by
    have ih:=y9 k
    unfold rM at h
    split at h
    · exact .val _
    · exact .emp _
    · exact .dI
    · rename_i es
      refine .aY _ fun i j hi hj=>ih _ ?_
      have e:es.getD i []=es[i]:=by simp[List.getD_eq_getElem?_getD,hi]
      have h1:=List.all_eq_true.1 h _ (List.getElem_mem hi)
      rw[e] at hj ⊢
      exact uP h1 hj
    · exact .agg _ fun i hi=>ih _ (uP h hi)
    · exact .bt _ fun i hi=>ih _ (uP h hi)
    · simp at h
noncomputable def uG (H:View):Nat→V→Option V
  | 0,_=>none
  | k+1,v=>match v with
    | .val x=>some (.val x)
    | .emp _=>some (.aY [])
    | .aY es=>match rM 60 (.aY es) with
      | true=>some (.aY es)
      | false=>none
    | .sl id off len _=>match H id with
      | .arr _ es=>match Nat.ble (off+len) es.length with
        | true=>(BV (uG H k) ((es.drop off).take len)).map .aY
        | false=>none
      | _=>none
    | .agg cs=>(mG (uG H k) cs).map .agg
    | .bt cs=>(mG (uG H k) cs).map .bt
    | _=>none
theorem Bj (h:aE):∀ (k:Nat) (v t:V),uG h.view k v=some t→Fr h v t
  | 0,v,t,hf=>by simp[uG] at hf
  | k+1,v,t,hf=>by
    have ih:=Bj h k
    simp only[uG] at hf
    split at hf
    · simp only[Option.some.injEq] at hf; subst hf; exact .tree _ (.val _)
    · simp only[Option.some.injEq] at hf; subst hf; exact .emp _
    · split at hf
      · rename_i ht
        simp only[Option.some.injEq] at hf; subst hf; exact .tree _ (y9 _ _ ht)
      · simp at hf
    · rename_i id off len esz
      split at hf
      · rename_i z es hH
        split at hf
        · rename_i hle
          have hle:=Nat.le_of_ble_eq_true hle
          simp only[Option.map_eq_some_iff] at hf
          obtain ⟨es',he,rfl⟩:=hf
          obtain ⟨g1,g2⟩:=Bq _ _ he
          have hlen:es'.length=len:=by rw[g1]; simp; omega
          have hg:∀ i,i < len→((es.drop off).take len).getD i []=es.getD (off+i) []:=fun i hi=>by
            simp[List.getD_eq_getElem?_getD,hi]
          have g3:∀ i,i < len→mG (uG h.view k) (es.getD (off+i) [])=some (es'.getD i []):=fun i hi=>by
            rw[← hg i hi]; exact g2 i (by rw[← g1,hlen]; exact hi)
          exact .sl id off len esz z es es' hH hle hlen (fun i hi=>(gf _ _ (g3 i hi)).1) (fun i j hi hj=>ih _ _ ((gf _ _ (g3 i hi)).2 j (by rw[← (gf _ _ (g3 i hi)).1]; exact hj)))
        · simp at hf
      · simp at hf
    · simp only[Option.map_eq_some_iff] at hf
      obtain ⟨l,hl,rfl⟩:=hf
      obtain ⟨g1,g2⟩:=gf _ _ hl
      exact .agg _ _ g1 (fun i hi=>ih _ _ (g2 i hi))
    · simp only[Option.map_eq_some_iff] at hf
      obtain ⟨l,hl,rfl⟩:=hf
      obtain ⟨g1,g2⟩:=gf _ _ hl
      exact .bt _ _ g1 (fun i hi=>ih _ _ (g2 i hi))
    · simp at hf
theorem aF.seen {P:Program} {f:FuncId} {vs ts:List V} {t:V} (hc:aF P f ts t) (ht:∀ i,i < vs.length→Tree (vs.getD i .any)) (hl:ts.length=vs.length) (hfr:∀ i,i < vs.length→Fr [] (vs.getD i .any) (ts.getD i .any)):aF P f vs t:=by
  intro Z μ w xs hrel hz
  have hr0:gj Z (fun _=>none) w.heap (cat [] fun _=>.dead):=by
    rw[Bz]
    exact ⟨fun _=>trivial,fun i j b o s o' s' _ h=>by simp at h,fun id b o s h=>by simp at h,hz,fun id b o s h=>by simp at h⟩
  have hno:∀ b,¬ g9 (fun _=>none) b:=fun b ⟨_,_,_,h⟩=>by simp at h
  have hts:eo (fun b=>Z b∨g9 (fun _=>none) b) μ w.heap ts xs:=⟨by rw[hl,hrel.1],fun i hi=>AA hr0 (hfr i (by omega)) (vF (hrel.2 i (by omega)) (ht i (by omega)))⟩
  refine (hc _ μ w xs hts (fun b hb=>hb.elim (hz b) (fun h=>absurd h (hno b)))).mono ?_
  rintro e w' ⟨x,Z',rfl,hv,hs,h1,h2,ho⟩
  exact ⟨x,Z',rfl,hv,hs,fun b hb=>h1 b (.inl hb),fun b hb=>(h2 b hb).elim (fun h=>h.elim .inl (fun h=>absurd h (hno b))) .inr,ho⟩
abbrev BT:=FuncId × List V × V × Bool
def BT.Ok (P:Program) (x:BT):Prop:=cX P x.1=true∧if x.2.2.2=true then aF P x.1 x.2.1 x.2.2.1 else (bP P x.1 x.2.1 x.2.2.1∨(aF P x.1 x.2.1 x.2.2.1∧zB x.2.2.1))
noncomputable def Md (g:FuncId) (vs:List V) (H:View) (x:BT):Bool:=Nat.beq x.1 g && (match x.2.2.2 with
  | true=>vs.all (rM 60) && (match mG (uG (fun _=>.dead) 60) vs with
    | some ts=>yF (CY 60) ts x.2.1
    | none=>false)
  | false=>match mG (uG H 60) vs with
    | some ts=>yF (CY 60) ts x.2.1
    | none=>false)
noncomputable def Mk (l:List BT):x8:=fun g vs H=>(l.find? (Md g vs H)).map fun x=>x.2.2.1
theorem KI {P:Program} {l:List BT} (hl:∀ x∈l,x.Ok P):q4 P (Mk l):=by
  intro g vs H t h
  unfold Mk at h
  simp only[Option.map_eq_some_iff] at h
  obtain ⟨⟨f,ts,r,b⟩,hx,rfl⟩:=h
  obtain ⟨h1,h2⟩:=hl _ (List.mem_of_find?_eq_some hx)
  have hq:=List.find?_some hx
  simp only[Md,Bool.and_eq_true] at hq
  obtain ⟨hg,hq⟩:=hq
  have hg:=Nat.eq_of_beq_eq_true hg
  simp only at hg h1 h2 hq
  subst hg
  refine ⟨h1,?_⟩
  rintro h rfl
  cases b with
  | true =>
    simp only[Bool.and_eq_true] at hq
    obtain ⟨hq1,hq2⟩:=hq
    split at hq2
    · rename_i us hus
      obtain ⟨g1,g2⟩:=gf _ _ hus
      have:=uf (EK 60) _ _ hq2
      subst this
      simp only[if_true] at h2
      exact bY.gD (h2.seen (fun i hi=>y9 _ _ (uP hq1 hi)) g1 fun i hi=>Bj [] 60 _ _ (g2 i hi)) h
    · simp at hq2
  | false =>
    simp only at hq
    split at hq
    · rename_i us hus
      obtain ⟨g1,g2⟩:=gf _ _ hus
      have:=uf (EK 60) _ _ hq
      subst this
      have hfr:=fun i hi=>Bj h 60 _ _ (g2 i hi)
      simp only[Bool.false_eq_true,if_false] at h2
      rcases h2 with h2 | ⟨h2,h3⟩
      · exact bY.tC h2 g1 hfr
      · exact bY.borrow h2 h3 g1 hfr
    · simp at hq
def sk (x:Int):Bool:=decide (-9223372036854775808≤x) && decide (x≤9223372036854775807)
theorem oC {x:Int} (h:sk x=true):bM x:=by
  unfold sk at h
  simp only[Bool.and_eq_true,decide_eq_true_eq] at h
  exact h
def okB (g:ao):Bool:=decide (g.ay.length≤900) && decide (g.au.length≤100) && decide (g.rules.length≤900) && sk g.start && g.ay.all (fun t=>sk t.level && sk t.assoc) && g.rules.all fun r=>sk r.left && sk r.prec && decide (r.right.length≤900) && r.right.all sk
theorem Iw {g:ao} (h:okB g=true):g.Ok∧g.Small:=by
  unfold okB at h
  simp only[Bool.and_eq_true,decide_eq_true_eq,List.all_eq_true] at h
  obtain ⟨⟨⟨⟨⟨h1,h2⟩,h3⟩,h4⟩,h5⟩,h6⟩:=h
  refine ⟨⟨by unfold aN; omega,by unfold aN; omega,by unfold aN; omega,oC h4,fun t ht=>⟨oC (h5 t ht).1,oC (h5 t ht).2⟩,fun r hr=>?_⟩,⟨by omega⟩⟩
  have:=h6 r hr
  exact ⟨oC this.1.1.1,oC this.1.1.2,by unfold aN; have:=this.1.2; omega,fun x hx=>oC (this.2 x hx)⟩
def Ma:List Int:=[37,37,32,115,32,58,32,39,120,39,32,116,32,117,32,124,32,39,113,39,32,59,32,116,32,58,32,39,97,39,32,124,32,39,116,39,32,118,32,59,32,117,32,58,32,39,117,39,32,59,32,118,32,58,32,39,118,39,32,124,32,39,119,39,32,59]
def iH:ao:=⟨[⟨⟨#[39,120,39]⟩,0,0⟩,⟨⟨#[39,113,39]⟩,0,0⟩,⟨⟨#[39,97,39]⟩,0,0⟩,⟨⟨#[39,116,39]⟩,0,0⟩,⟨⟨#[39,117,39]⟩,0,0⟩,⟨⟨#[39,118,39]⟩,0,0⟩,⟨⟨#[39,119,39]⟩,0,0⟩],[⟨#[115]⟩,⟨#[116]⟩,⟨#[117]⟩,⟨#[118]⟩],[⟨0,[0,-2,-3],0⟩,⟨0,[1],1⟩,⟨1,[2],2⟩,⟨1,[3,-4],3⟩,⟨2,[4],4⟩,⟨3,[5],5⟩,⟨3,[6],6⟩],0⟩
theorem PK:bP Tryz.prog 41 [zO Ma] (qI iH):=FO (by kernel_rfl)
theorem oq:iH.Ok∧iH.Small:=Iw (by kernel_rfl)
theorem Cf:qy.Ok∧qy.Small:=Iw (by kernel_rfl)
theorem Ir {g:ao} (hg:∀ r∈g.rules,r.right.length≤6) (t:List Int):(iI g t).1.length≤1+6 * t.length:=by
  unfold iI eO
  split
  · rename_i x h
    split at h
    · cases hx:bI g t.length [-1 - g.start] t with
      | none=>rw[hx] at h; simp at h
      | some y =>
        rw[hx] at h
        simp only at h
        split at h
        · simp only[Option.some.injEq] at h
          subst h
          have:=(qj hg _ _ _ _ hx).2.2.1
          simp at this ⊢; omega
        · simp at h
    · simp at h
  · simp
theorem yD {g:ao} (hr:bm g=true) {i:Int} {t:List Int} (h:dO g i=(t,true)) (ht:t.length≤9):dt g i=(t,0):=by
  have:=Ir (aX hr).right t
  rw[dt,h]
  simp only[Bool.true_eq_false,if_false]
  rw[if_neg (by omega)]
theorem OK:pr qy=([[0,1]],0):=by
  have h0:dt qy 0=([0,1],0):=yD (by kernel_rfl) (by kernel_rfl) (by decide)
  rw[pr,if_pos (by kernel_rfl),show qy.rules.length=2 from rfl,bS,bS,bS]
  simp[h0]
theorem PY:gu iH 6=([0,3,6,4],0):=by
  rw[gu,if_pos (by kernel_rfl)]
  exact yD (by kernel_rfl) (by kernel_rfl) (by decide)
theorem Pl:gu iH 7=([],1):=by rw[gu,if_neg (by rw[show (isRed iH && decide (0≤(7:Int)) && decide ((7:Int) < iH.rules.length))=false by kernel_rfl]; simp)]
theorem Pj:pr q8=([],1):=by rw[pr,if_neg (by rw[show isRed q8=false by kernel_rfl]; simp)]
def nt:DF:=⟨.seq (aw [bg 0 false]) <|
  .seq (aw [((some 16),.op (.bA 16 1 [(.val (.int .u8 0))] [(0,(.val (.val (.int .u8 37)))),(1,(.val (.val (.int .u8 37)))),(2,(.val (.val (.int .u8 32)))),(3,(.val (.val (.int .u8 115)))),(4,(.val (.val (.int .u8 32)))),(5,(.val (.val (.int .u8 58)))),(6,(.val (.val (.int .u8 32)))),(7,(.val (.val (.int .u8 39)))),(8,(.val (.val (.int .u8 97)))),(9,(.val (.val (.int .u8 39)))),(10,(.val (.val (.int .u8 32)))),(11,(.val (.val (.int .u8 115)))),(12,(.val (.val (.int .u8 32)))),(13,(.val (.val (.int .u8 124)))),(14,(.val (.val (.int .u8 32)))),(15,(.val (.val (.int .u8 59))))])),((some 17),.op (.old (.convert 73 73 (.tmp 16)) 73)),aL 18 41 [17],ae 15 18,bU 19 0 15,bU 20 1 15,bU 21 2 15,((some 1),.op (.alloc [(.emp 1),(.emp 1),(.emp 1),(.val (.int .i64 0))])),(none,.op (.store 4 (.tmp 1) (.tmp 19))),ae 2 20,ae 3 21]) <|
  .seq (aw [((some 23),.op (.bA 66 1 [(.val (.int .u8 0))] [(0,(.val (.val (.int .u8 37)))),(1,(.val (.val (.int .u8 37)))),(2,(.val (.val (.int .u8 32)))),(3,(.val (.val (.int .u8 115)))),(4,(.val (.val (.int .u8 32)))),(5,(.val (.val (.int .u8 58)))),(6,(.val (.val (.int .u8 32)))),(7,(.val (.val (.int .u8 39)))),(8,(.val (.val (.int .u8 120)))),(9,(.val (.val (.int .u8 39)))),(10,(.val (.val (.int .u8 32)))),(11,(.val (.val (.int .u8 116)))),(12,(.val (.val (.int .u8 32)))),(13,(.val (.val (.int .u8 117)))),(14,(.val (.val (.int .u8 32)))),(15,(.val (.val (.int .u8 124)))),(16,(.val (.val (.int .u8 32)))),(17,(.val (.val (.int .u8 39)))),(18,(.val (.val (.int .u8 113)))),(19,(.val (.val (.int .u8 39)))),(20,(.val (.val (.int .u8 32)))),(21,(.val (.val (.int .u8 59)))),(22,(.val (.val (.int .u8 32)))),(23,(.val (.val (.int .u8 116)))),(24,(.val (.val (.int .u8 32)))),(25,(.val (.val (.int .u8 58)))),(26,(.val (.val (.int .u8 32)))),(27,(.val (.val (.int .u8 39)))),(28,(.val (.val (.int .u8 97)))),(29,(.val (.val (.int .u8 39)))),(30,(.val (.val (.int .u8 32)))),(31,(.val (.val (.int .u8 124)))),(32,(.val (.val (.int .u8 32)))),(33,(.val (.val (.int .u8 39)))),(34,(.val (.val (.int .u8 116)))),(35,(.val (.val (.int .u8 39)))),(36,(.val (.val (.int .u8 32)))),(37,(.val (.val (.int .u8 118)))),(38,(.val (.val (.int .u8 32)))),(39,(.val (.val (.int .u8 59)))),(40,(.val (.val (.int .u8 32)))),(41,(.val (.val (.int .u8 117)))),(42,(.val (.val (.int .u8 32)))),(43,(.val (.val (.int .u8 58)))),(44,(.val (.val (.int .u8 32)))),(45,(.val (.val (.int .u8 39)))),(46,(.val (.val (.int .u8 117)))),(47,(.val (.val (.int .u8 39)))),(48,(.val (.val (.int .u8 32)))),(49,(.val (.val (.int .u8 59)))),(50,(.val (.val (.int .u8 32)))),(51,(.val (.val (.int .u8 118)))),(52,(.val (.val (.int .u8 32)))),(53,(.val (.val (.int .u8 58)))),(54,(.val (.val (.int .u8 32)))),(55,(.val (.val (.int .u8 39)))),(56,(.val (.val (.int .u8 118)))),(57,(.val (.val (.int .u8 39)))),(58,(.val (.val (.int .u8 32)))),(59,(.val (.val (.int .u8 124)))),(60,(.val (.val (.int .u8 32)))),(61,(.val (.val (.int .u8 39)))),(62,(.val (.val (.int .u8 119)))),(63,(.val (.val (.int .u8 39)))),(64,(.val (.val (.int .u8 32)))),(65,(.val (.val (.int .u8 59))))])),((some 24),.op (.old (.convert 73 73 (.tmp 23)) 73)),aL 25 41 [24],ae 22 25,bU 26 0 22,bU 27 1 22,bU 28 2 22,((some 4),.op (.alloc [(.emp 1),(.emp 1),(.emp 1),(.val (.int .i64 0))])),(none,.op (.store 4 (.tmp 4) (.tmp 26))),ae 5 27,ae 6 28]) <|
  .seq (aw [aT 30 4 1,aL 31 31 [30],ae 29 31,bU 32 0 29,bU 33 1 29,ae 7 32,ae 8 33]) <|
  .seq (aw [aT 35 4 4,cL 36 28 [(.tmp 35),(.val (.val (.int .i64 6)))],ae 34 36,bU 37 0 34,bU 38 1 34,ae 9 37,ae 10 38]) <|
  .seq (aw [aT 40 4 4,cL 41 28 [(.tmp 40),(.val (.val (.int .i64 7)))],ae 39 41,bU 42 0 39,bU 43 1 39,ae 11 42,ae 12 43]) <|
  .seq (aw [((some 45),.op (.build [(.emp 1),(.emp 1),(.emp 1),(.val (.int .i64 0))] [])),aL 46 31 [45],ae 44 46,bU 47 0 44,bU 48 1 44,ae 13 47,ae 14 48]) <|
  .seq (.region [] [⟨none,[ae 49 8,ax 50 .eql 49 0,ae 51 50]⟩,⟨(some (51,true)),[ae 52 10,ax 53 .eql 52 0]⟩,⟨none,[bN 54 51 53,ae 55 54]⟩,⟨(some (55,true)),[ae 56 12,ax 57 .eql 56 1]⟩,⟨none,[bN 58 55 57,ae 59 58]⟩,⟨(some (59,true)),[ae 60 14,ax 61 .eql 60 1]⟩,⟨none,[bN 62 59 61,ae 63 62]⟩,⟨(some (63,true)),[ae 64 7,((some 65),.op (.bA 2 1 [(.val (.int .i64 0))] [(0,(.val (.val (.int .i64 0)))),(1,(.val (.val (.int .i64 1))))])),((some 66),.op (.bA 1 1 [(.emp 1)] [(0,(.tmp 65))])),aL 67 33 [64,66]]⟩,⟨none,[bN 68 63 67,ae 69 68]⟩,⟨(some (69,true)),[ae 70 9,((some 71),.op (.bA 4 1 [(.val (.int .i64 0))] [(0,(.val (.val (.int .i64 0)))),(1,(.val (.val (.int .i64 3)))),(2,(.val (.val (.int .i64 6)))),(3,(.val (.val (.int .i64 4))))])),aL 72 17 [70,71]]⟩,⟨none,[bN 73 69 72,ae 74 73]⟩,⟨(some (74,true)),[aT 75 4 4,ae 76 9,((some 77),.op (.bA 1 1 [(.val (.int .i64 0))] [(0,(.val (.val (.int .i64 9))))])),((some 78),.op (.bA 2 1 [(.emp 1)] [(0,(.tmp 76)),(1,(.tmp 77))])),aL 79 36 [75,78],((some 80),.op (.bA 7 1 [(.val (.bool false))] [(0,(.val (.val (.bool true)))),(1,(.val (.val (.bool false)))),(2,(.val (.val (.bool false)))),(3,(.val (.val (.bool true)))),(4,(.val (.val (.bool true)))),(5,(.val (.val (.bool false)))),(6,(.val (.val (.bool true))))])),aL 81 35 [79,80]]⟩,⟨none,[bN 82 74 81,ae 0 82]⟩]) <|
  .ret,
  [.tmp 0],83⟩
theorem s8:bK Tryz.prog 27 []=some nt:=by kernel_rfl
def FP:List (FuncId × DF):=[(27,nt)]
theorem Gt:rL Tryz.prog FP:=by
  intro p hp
  simp only[FP,List.mem_cons,List.not_mem_nil,or_false] at hp
  rcases hp with rfl
  · exact ⟨_,s8⟩
def Mq:List BT:=[(41,[zO Mc],qI qy,false),(41,[zO Ma],qI iH,false),
  (31,[.agg (al qy)],Dx ([[0,1]],0),true),(28,[.agg (al iH),gi 6],gV ([0,3,6,4],0),true),(28,[.agg (al iH),gi 7],gV ([],1),true),(31,[.agg (al q8)],Dx ([],1),true),
  (33,[dY [[0,1]],dY [[0,1]]],gb true,false),(17,[encI [0,3,6,4],encI [0,3,6,4]],gb true,false),
  (36,[.agg (al iH),dY [[0,3,6,4],[9]]],bF [true,false,false,true,true,false,true],false),(35,[bF [true,false,false,true,true,false,true],bF [true,false,false,true,true,false,true]],gb true,false)]
theorem KG:∀ x∈Mq,x.Ok Tryz.prog:=by
  intro x hx
  simp only[Mq,List.mem_cons,List.not_mem_nil,or_false] at hx
  have sl:∀ l:List Int,l.length≤100→aN l:=fun l h=>by unfold aN; omega
  rcases hx with rfl | rfl | rfl | rfl | rfl | rfl | rfl | rfl | rfl | rfl
  · exact ⟨by kernel_rfl,.inl PJ⟩
  · exact ⟨by kernel_rfl,.inl PK⟩
  · exact ⟨by kernel_rfl,OK ▸ CS qy Cf.1 Cf.2⟩
  · exact ⟨by kernel_rfl,PY ▸ sP iH oq.1 oq.2 6 (by unfold bM; omega)⟩
  · exact ⟨by kernel_rfl,Pl ▸ sP iH oq.1 oq.2 7 (by unfold bM; omega)⟩
  · exact ⟨by kernel_rfl,Pj ▸ CS q8 OF ⟨by decide⟩⟩
  · exact ⟨by kernel_rfl,.inr ⟨LM [[0,1]] [[0,1]] (by unfold aN; decide) (by intro w hw; simp at hw; subst hw; exact sl _ (by decide)),.val _⟩⟩
  · exact ⟨by kernel_rfl,.inr ⟨yl [0,3,6,4] [0,3,6,4] (sl _ (by decide)),.val _⟩⟩
  · exact ⟨by kernel_rfl,.inl ((show A1 iH [[0,3,6,4],[9]]=[true,false,false,true,true,false,true] by kernel_rfl) ▸ J8 iH oq.1 oq.2 [[0,3,6,4],[9]] (by unfold aN; decide) (by intro w hw; simp at hw; rcases hw with rfl | rfl <;> exact sl _ (by decide)))⟩
  · exact ⟨by kernel_rfl,.inr ⟨Lx [true,false,false,true,true,false,true] [true,false,false,true,true,false,true] (by unfold aN; decide),.val _⟩⟩
theorem HD:aF Tryz.prog 27 [] (gb true) :=
  (qB mixed Gt (KI KG) (by simp) (by kernel_rfl)).pure
def iU:SF:=⟨.seq (ak [cx 2 0,bg 4 false]) <|
  .seq (.seq (ak [aL 9 27 [],cd 10 9]) <|
  .cond (.tmp 10) (.seq (ak [bg 4 false]) <|
  .ret) (.skip)) <|
  .seq (.seq (ak [aT 11 4 2,aL 12 12 [11]]) <|
  .cond (.tmp 12) (.seq (ak [bg 4 true]) <|
  .ret) (.skip)) <|
  .seq (ak [aT 14 4 2,ae 15 1,aL 16 28 [14,15],ae 13 16,bU 17 0 13,bU 18 1 13,ae 5 17,ae 6 18]) <|
  .seq (ak [aT 20 4 2,ae 21 1,aL 22 29 [20,21],ae 19 22,bU 23 0 19,bU 24 1 19,ae 7 23,ae 8 24]) <|
  .seq (.region false [⟨none,[ae 25 5,ae 26 7,aL 27 17 [25,26],ae 28 27]⟩,⟨(some (28,true)),[ae 29 6,ae 30 8,aR 31 .eql 29 30]⟩,⟨none,[bN 32 28 31,ae 4 32]⟩]) <|
  .ret,
  [.tmp 4],33⟩
theorem na:aU Tryz.prog 7 [2]=some iU:=by kernel_rfl
theorem Fu {g:ao} (i:Int):aN (gu g i).1:=by
  unfold gu
  split
  · rename_i h
    simp only[Bool.and_eq_true,decide_eq_true_eq] at h
    obtain ⟨n,rfl⟩:∃ n:Nat,i=(n:Int):=⟨i.toNat,by omega⟩
    by_cases e:(dt g n).2=0
    · obtain ⟨⟨w,_,h3,_⟩,_⟩:=A9 h.1.1 (by omega) e
      unfold aN; omega
    · rw[(Cn e).2]; unfold aN; simp
  · unfold aN; simp
set_option maxHeartbeats 4000000 in
theorem Ah (g:ao) (hg:g.Ok) (i:Int) (hi:bM i):aF Tryz.prog 7 [.agg (al g),gi i] (gb true):=by
  refine aF.val (yg g i) fun H=>?_
  refine az.of mixed na ?_
  simp (disch:=omega) only [↓wr,wq,ah,Nat.reduceAdd,Nat.reduceLeDiff,iU,al,encS]
  refine aC.pure HD (by kernel_rfl) ?_
  simp (disch:=omega) only [↓wr,↓reduceIte,wq,Nat.reduceEqDiff,Nat.reduceAdd,Nat.reduceLeDiff]
  refine aC.pure (LP g) (by kernel_rfl) ?_
  simp (disch:=omega) only [↓wr,↓reduceIte,wq]
  refine ar.split (fun e=>?_) (fun e=>?_)
  · simp (disch:=omega) only [↓wr,↓reduceIte,wq,reduceCtorEq]
  · have hs:g.Small:=Fx e
    have h1:=sP g hg hs i hi
    have h2:=D6 g hg i hi
    have h3:=Fu (g:=g) i
    generalize gu g i=y at h1 h2 h3
    obtain ⟨y1,y2⟩:=y
    simp (disch:=omega) only [↓wr,↓reduceIte,wq,Nat.reduceEqDiff,Nat.reduceAdd,Nat.reduceLeDiff]
    refine aC.pure h1 (by kernel_rfl) ?_
    simp (disch:=omega) only [↓wr,↓reduceIte,wq,Nat.reduceEqDiff,Nat.reduceAdd,Nat.reduceLT,Nat.reduceLeDiff,gV]
    refine aC.pure h2 (by kernel_rfl) ?_
    simp (disch:=omega) only [↓wr,↓reduceIte,wq,Nat.reduceEqDiff,Nat.reduceAdd,Nat.reduceLT,gV]
    refine aC.pure (yl y1 y1 h3) (by kernel_rfl) ?_
    simp (disch:=omega) only [↓wr,↓reduceIte,wq]
    refine ar.split (fun _=>?_) (fun e=>absurd e (by simp))
    simp (disch:=omega) only [↓wr,↓reduceIte,wq,ag,Nat.reduceEqDiff,reduceCtorEq]
    simp
end Gv
