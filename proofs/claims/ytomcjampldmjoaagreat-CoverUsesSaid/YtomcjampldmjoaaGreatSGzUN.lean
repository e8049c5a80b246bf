/-
  Part 14 of the proof: what the machine does and what the functions answer.
  Conditions: those that each lemma names.
-/
import Derived.Test.YtomcjampldmjoaaGreatSGzUM
set_option linter.unusedSimpArgs false
set_option linter.unusedVariables false
set_option linter.unusedSimpArgs false
set_option maxRecDepth 100000
namespace Gv
open Go Go.Proofs
theorem xx {g:al} {p:Int} {inn:List Int} : ∀ (l m:List Int) (i:Int),cb g p inn i (l ++ m)=match cb g p inn i l with
    | some a=>(cb g p inn (i+l.length) m).map (a ++ ·)
    | none=>none:=by
  intro l
  induction l with
  | nil=>intro m i; simp[cb]
  | cons s l ih =>
    intro m i
    have e:i+((s :: l).length:Nat)=i+1+(l.length:Nat):=by simp; omega
    rw[List.cons_append,cb,cb,e,ih]
    split
    · rfl
    · split
      · cases cb g p inn (i+1) l with
        | none=>rfl
        | some a=>cases cb g p inn (i+1+(l.length:Nat)) m <;> simp
      · split
        · cases cb g p inn (i+1) l with
          | none=>rfl
          | some a=>cases cb g p inn (i+1+(l.length:Nat)) m <;> simp
        · rfl
theorem BG (g:al) (n:Int):(fS g n).1.length≤300:=by
  unfold fS
  split
  · rename_i hc
    simp only[Bool.and_eq_true,decide_eq_true_eq] at hc
    split
    · simp
    · rename_i hk
      split
      · simp
      · rename_i hz
        have hkn:bj (ar g) n.toNat:=by unfold bj; omega
        have hall:=(Kb hc.1.2 hkn).2
        have hso:=yK hc.1.2 hkn
        have htl:=zx hall (by rw[hso.1]; omega)
        rw[hso.1] at htl
        simp only
        omega
  · simp
theorem FL {g:al} {p:Int} {inn:List Int} (hi:inn.length≤300):∀ (l:List Int) (i:Int) (a:List Int),cb g p inn i l=some a→a.length≤300 * l.length:=by
  intro l
  induction l with
  | nil=>intro i a h; simp[cb] at h; subst h; simp
  | cons s l ih =>
    intro i a h
    rw[cb] at h
    have ht:=BG g (-1 - s)
    simp only[List.length_cons]
    split at h
    · have:=ih _ _ h; omega
    · split at h
      · simp only[Option.map_eq_some_iff] at h
        obtain ⟨b,h1,rfl⟩:=h
        have:=ih _ _ h1
        simp; omega
      · split at h
        · simp only[Option.map_eq_some_iff] at h
          obtain ⟨b,h1,rfl⟩:=h
          have:=ih _ _ h1
          simp; omega
        · simp at h
theorem BJ {h:aC} {u:V} {x:List Int × Bool} (hu:cX h u (encI x.1)):cX h (.bg [u,gb x.2]) (.bg [encI x.1,gb x.2]):=w5 hu (.val _)
end Gv
set_option linter.unusedSimpArgs false
set_option maxRecDepth 100000
namespace Gv
open Go Go.Proofs
section
variable {P:Program} {T:Env} {H:View} {K:V→View→Prop} {w:cm (T,H,K)} {t t1 e ty:TypeId}
theorem IC {x:Operand} {k:Nat} (he:b7 P t=some e) (hx:ev T x=.emp k) (hk:K (aj 0) H):mz P (.call { callee:=.builtin .cap,args:=#[x],argTypes:=#[t] }) ty T H K w:=by
  intro n _
  refine ⟨aj 0,.none,[],?_,hk⟩
  simp[sI,bM,oper,zn,he,hx]
theorem KI {s x:Operand} {k l sz bytes:Nat} {z:List V} (he:p9 P t=some (sz,bytes,z)) (hd:k5 P t1=false) (hi:isInt P t1=true) (hs:ev T s=.emp k) (hx:ev T x=aj l) (h0:l≠0)
    (h1:l * bytes < aL) (h2:l < aL) (hk:∀ n,H n=.dead→K (.sl n 0 l sz) (H.set n (.arr sz (List.replicate l z)))) :
    mz P (.call { callee:=.builtin .append,args:=#[s,x],argTypes:=#[t,t1] }) ty T H K w:=by
  obtain ⟨e,ti,hse,_,hti,hz,hzl,hzok,hs0,rfl,rfl⟩:=mf he
  intro n hn
  refine ⟨.sl n 0 l ti.size,.new (.arr ti.size (List.replicate l z)),[],?_,hk n hn⟩
  have ha:asNat (aj l)=some l:=by simp[asNat,aj]
  have key:oo P t (.emp k) (aj l) n=some (.sl n 0 l ti.size,.new (.arr ti.size (List.replicate l z)),[]):=by
    unfold oo
    rw[hse,ha]
    simp only[hti,hz,if_neg h0]
    rw[if_pos ⟨hzl,hzok,hs0,h1,h2⟩]
  simp[sI,bM,oper,hd,hi,hs,hx,key]
end
def iD:SF:=⟨.seq (ak [((some 4),.op (.bd (.val (.emp 1))))]) <|
  .seq (.seq (ak [aa 5 1,aA 6 .lss 5 0]) <|
  .cond (.tmp 6) (.region false [⟨none,[((some 7),.op (.old (.makeInterface 9 (.const (.string ⟨#[99,97,110,110,111,116,32,98,101,32,110,101,103,97,116,105,118,101]⟩))) 20)),(none,.op (.old (.panic (.tmp 7)) 0))]⟩]) (.skip)) <|
  .seq (.seq (ak [aa 8 1,aa 9 0,((some 10),.op (.old (.call { callee:=.builtin .cap,args:=#[(.tmp 9)],argTypes:=#[31] }) 3)),aa 11 0,aQ 12 11,aS 13 .sub 10 12,aS 14 .sub 8 13,aa 1 14]) <|
  .seq (ak [aa 15 1,aA 16 .gtr 15 0]) <|
  .cond (.tmp 16) (ak [aa 17 0,aa 18 0,((some 19),.op (.old (.call { callee:=.builtin .cap,args:=#[(.tmp 18)],argTypes:=#[31] }) 3)),((some 20),.op (.slice 1 (.tmp 17) none (some (.tmp 19)))),aa 21 1,((some 22),.op (.old (.call { callee:=.builtin .append,args:=#[(.tmp 20),(.tmp 21)],argTypes:=#[31,3] }) 31)),aa 23 0,aQ 24 23,((some 25),.op (.slice 1 (.tmp 22) none (some (.tmp 24)))),aa 0 25]) (.skip)) <|
  .seq (ak [aa 26 0,aa 4 26]) <|
  .ret,
  [.tmp 4],27⟩
theorem mP:aV Tryz.prog 128 []=some iD:=by kernel_rfl
def gj:SC :=
  .seq (ak [aS 12 .lss 11 10]) <|
  .seq (.cond (.tmp 12) (.skip) (.exit 0)) <|
  .seq (.block 1 (.seq (ak [bo 13 1 9 11,aq 14 13,aa 5 14]) <|
  .seq (ak [aa 15 3,aa 16 5,aQ 17 16,aS 18 .add 15 17,aa 3 18]) <|
  .seq (ak [aa 19 3,aA 20 .lss 19 0]) <|
  .cond (.tmp 20) (.region false [⟨none,[((some 21),.op (.old (.makeInterface 9 (.const (.string ⟨#[108,101,110,32,111,117,116,32,111,102,32,114,97,110,103,101]⟩))) 20)),(none,.op (.old (.panic (.tmp 21)) 0))]⟩]) (.skip))) <|
  ak [aA 22 .add 11 1,aa 11 22]
def fY:SC :=
  .seq (ak [aS 28 .lss 27 26]) <|
  .seq (.cond (.tmp 28) (.skip) (.exit 2)) <|
  .seq (.block 3 (.seq (ak [bo 29 1 25 27,aq 30 29,aa 8 30]) <|
  ak [aa 31 6,aa 32 8,((some 33),.op (.app 1 8 (.tmp 31) (.tmp 32))),aa 6 33])) <|
  ak [aA 34 .add 27 1,aa 27 34]
def gU:SF:=⟨.seq (ak [((some 2),.op (.bd (.val (.emp 1))))]) <|
  .seq (ak [aI 3 0]) <|
  .seq (.seq (ak [aa 9 0,aQ 10 9,aI 11 0]) <|
  .block 0 (.loop gj)) <|
  .seq (ak [aa 23 3,cH 24 128 [(.val (.emp 1)),(.tmp 23)],aa 6 24]) <|
  .seq (.seq (ak [aa 25 0,aQ 26 25,aI 27 0]) <|
  .block 2 (.loop fY)) <|
  .seq (ak [aa 35 6,aa 2 35]) <|
  .ret,
  [.tmp 2],36⟩
theorem ly:aV Tryz.prog 76 []=some gU:=by kernel_rfl
theorem Fl (n:Nat) (hn:n≤100000) (H:View):aB Tryz.prog 128 [.emp 1,gi n] H fun r H'=>(n=0∧r=.emp 1∧H'=H)∨(0 < n∧∃ m es,H m=.dead∧r=.sl m 0 0 1∧H'=H.set m (.arr 1 es)):=by
  refine aB.of mixed mP ?_
  simp (disch:=omega) only [↓wr,↓reduceIte,wq,ah,ag,aj,ab,ae,af,ai,isNil,Nat.reduceEqDiff,Nat.reduceAdd,Nat.reduceLT,Nat.reduceLeDiff,Int.reduceNeg,Int.reduceToNat,reduceCtorEq,iD]
  refine an.dec (fun h=>absurd h (by omega)) (fun _=>?_)
  simp (disch:=omega) only [↓wr,↓reduceIte,wq,ah,ag,aj,ab,ae,af,ai,isNil,Nat.reduceEqDiff,Nat.reduceAdd,Nat.reduceLT,Nat.reduceLeDiff,Int.reduceNeg,Int.reduceToNat,reduceCtorEq]
  refine IC (k:=1) (e:=3) (by kernel_rfl) (by simp (disch:=omega) only [↓wr,↓reduceIte,wq,ah,ag,aj,ab,ae,af,ai,isNil,Nat.reduceEqDiff,Nat.reduceAdd,Nat.reduceLT,Nat.reduceLeDiff,Int.reduceNeg,Int.reduceToNat,reduceCtorEq]) ?_
  simp (disch:=omega) only [↓wr,↓reduceIte,wq,ah,ag,aj,ab,ae,af,ai,isNil,Nat.reduceEqDiff,Nat.reduceAdd,Nat.reduceLT,Nat.reduceLeDiff,Int.reduceNeg,Int.reduceToNat,reduceCtorEq]
  refine an.dec (fun h=>?_) (fun h=>?_)
  · simp (disch:=omega) only [↓wr,↓reduceIte,wq,ah,ag,aj,ab,ae,af,ai,isNil,Nat.reduceEqDiff,Nat.reduceAdd,Nat.reduceLT,Nat.reduceLeDiff,Int.reduceNeg,Int.reduceToNat,reduceCtorEq]
    refine IC (k:=1) (e:=3) (by kernel_rfl) (by simp (disch:=omega) only [↓wr,↓reduceIte,wq,ah,ag,aj,ab,ae,af,ai,isNil,Nat.reduceEqDiff,Nat.reduceAdd,Nat.reduceLT,Nat.reduceLeDiff,Int.reduceNeg,Int.reduceToNat,reduceCtorEq]) ?_
    simp (disch:=omega) only [↓wr,↓reduceIte,wq,ah,ag,aj,ab,ae,af,ai,isNil,Nat.reduceEqDiff,Nat.reduceAdd,Nat.reduceLT,Nat.reduceLeDiff,Int.reduceNeg,Int.reduceToNat,reduceCtorEq]
    rw[show fX 1 (.emp 1) none (some (.val (.int .i64 ((0:Nat):Int))))=some (.emp 1,.none,[]) from rfl]
    simp (disch:=omega) only [↓wr,↓reduceIte,wq,ah,ag,aj,ab,ae,af,ai,isNil,Nat.reduceEqDiff,Nat.reduceAdd,Nat.reduceLT,Nat.reduceLeDiff,Int.reduceNeg,Int.reduceToNat,reduceCtorEq]
    refine KI (k:=1) (l:=n) (sz:=1) (bytes:=8) (z:=[gi 0]) (by kernel_rfl) (by kernel_rfl) (by kernel_rfl) (by simp (disch:=omega) only [↓wr,↓reduceIte,wq,ah,ag,aj,ab,ae,af,ai,isNil,Nat.reduceEqDiff,Nat.reduceAdd,Nat.reduceLT,Nat.reduceLeDiff,Int.reduceNeg,Int.reduceToNat,reduceCtorEq]) (by simp (disch:=omega) only [↓wr,↓reduceIte,wq,ah,ag,aj,ab,ae,af,ai,isNil,Nat.reduceEqDiff,Nat.reduceAdd,Nat.reduceLT,Nat.reduceLeDiff,Int.reduceNeg,Int.reduceToNat,reduceCtorEq]; simp) (by omega) (by unfold aL; omega) (by unfold aL; omega) ?_
    intro m hm
    simp (disch:=omega) only [↓wr,↓reduceIte,wq,ah,ag,aj,ab,ae,af,ai,isNil,Nat.reduceEqDiff,Nat.reduceAdd,Nat.reduceLT,Nat.reduceLeDiff,Int.reduceNeg,Int.reduceToNat,reduceCtorEq]
    rw[show fX 1 (.sl m 0 n 1) none (some (.val (.int .i64 ((0:Nat):Int))))=some (.sl m 0 0 1,.none,[]) by simp[fX,bound,asNat]]
    simp (disch:=omega) only [↓wr,↓reduceIte,wq,ah,ag,aj,ab,ae,af,ai,isNil,Nat.reduceEqDiff,Nat.reduceAdd,Nat.reduceLT,Nat.reduceLeDiff,Int.reduceNeg,Int.reduceToNat,reduceCtorEq]
    exact .inr ⟨by omega,m,_,hm,rfl,rfl⟩
  · simp (disch:=omega) only [↓wr,↓reduceIte,wq,ah,ag,aj,ab,ae,af,ai,isNil,Nat.reduceEqDiff,Nat.reduceAdd,Nat.reduceLT,Nat.reduceLeDiff,Int.reduceNeg,Int.reduceToNat,reduceCtorEq]
    exact .inl (by omega)
def tx (H:View) (u:V) (l:List Int):Prop:=u=encI l∨aO H u 1 (bY l)
theorem tx.elems {H:View} {u:V} {l:List Int} (h:tx H u l):∃ rd,bO H u=some (bY l,rd):=by
  rcases h with rfl | h
  · exact ⟨[],qn _ _⟩
  generalize bY l=es0 at h
  rcases h with ⟨rfl,k,rfl⟩ | ⟨n,rfl,hn⟩
  · exact ⟨_,qo _ k⟩
  · cases es0 with
    | nil=>exact ⟨[],by simp[bO]⟩
    | cons e es =>
      exact ⟨_,by rw[show (e :: es).length=es.length+1 from rfl,sn _ n 0 es.length 1 1 _ hn (by simp),List.drop_zero,List.take_of_length_le (by simp)]⟩
theorem tx.len {H:View} {u:V} {l:List Int} (h:tx H u l):dB u=some l.length:=by
  rcases h with rfl | h
  · simp[encI,dB]
  · rw[h.len]; simp
theorem tx.keep {H H':View} {u:V} {l:List Int} (h:tx H u l) (hk:∀ id,H id≠.dead→H' id=H id):tx H' u l:=by
  rcases h with rfl | h
  · exact .inl rfl
  · exact .inr (h.keep fun id hid=>hk id (by rw[(h.live hid).1]; simp))
def vf (H:View) (u:V) (l:List Int):Prop:=aO H u 1 (bY l)∨(l=[]∧∃ m es,u=.sl m 0 0 1∧H m=.arr 1 es)
theorem vf.live {H:View} {u:V} {l:List Int} (h:vf H u l) {id:Nat} (hid:owner u=some id):∃ es,H id=.arr 1 es:=by
  rcases h with h | ⟨_,m,es,rfl,hm⟩
  · exact ⟨_,(h.live hid).1⟩
  · simp[owner] at hid; subst hid; exact ⟨es,hm⟩
theorem FQ {bytes:Nat} {u:V} {l xs:List Int} {H:View} {K:V→View→Prop} {w:cm (H,K)} (ho:vf H u l) (hl:(l.length+xs.length) * bytes < aL) (hl2:l.length+xs.length < aL) (hb:bytes=8)
    (hk:∀ u' H',vf H' u' (l ++ xs)→(aO H u 1 (bY l)→aO H' u' 1 (bY (l ++ xs)))→Left H H' u u'→K u' H'):k9 1 bytes u (bY xs) H K w:=by
  rcases ho with ho | ⟨rfl,m,es,rfl,hm⟩
  · exact AM ho (by simp[List.all_map,aM]) (by simpa using hl) (by simpa using hl2) fun u' H' h1 h2=>hk u' H' (.inl (by simpa using h1)) (fun _=>by simpa using h1) h2
  · cases xs with
    | nil=>exact hk _ _ (.inr ⟨rfl,m,es,rfl,hm⟩) (fun h=>by simpa using h) .refl
    | cons x xs =>
      rw[oz _ _ _ _ _ _ _ _ _ _ (by simp),hm]
      refine ⟨by simp[List.all_map,aM],⟨by simp,rfl,by simpa using hl,by simpa using hl2⟩,fun n hn=>hk _ _ (.inl (.inr ⟨n,by simp,by simp[View.set]⟩)) (fun _=>.inr ⟨n,by simp,by simp[View.set]⟩) fun id hid ho=>?_⟩
      have e:id≠n:=by rintro rfl; exact hid hn
      have e2:id≠m:=by rintro rfl; exact ho rfl
      exact ⟨by simp[View.set,e,e2],by simp[owner,Ne.symm e]⟩
set_option maxHeartbeats 4000000 in
theorem zt (us:List (V × List Int)) (q:Nat) (H:View) (hq:H q=.arr 1 (us.map fun x=>[x.1])) (ha:∀ x∈us,tx H x.1 x.2) (hl:(us.map (·.2)).flatten.length≤100000) (hu:us.length≤1000) :
    aB Tryz.prog 76 [.sl q 0 us.length 1] H fun r H'=>aO H' r 1 (bY (us.map (·.2)).flatten)∧c6 H H' r:=by
  have hsum:∀ i,((us.take i).map (·.2)).flatten.length≤100000:=fun i=>by
    have:=List.take_append_drop i us
    have h2:(us.map (·.2)).flatten=((us.take i).map (·.2)).flatten ++ ((us.drop i).map (·.2)).flatten:=by rw[← List.flatten_append,← List.map_append,this]
    rw[h2,List.length_append] at hl; omega
  refine aB.of mixed ly ?_
  simp (disch:=omega) only [↓wr,↓reduceIte,wq,ah,ag,aj,ab,ae,af,ai,isNil,Nat.reduceEqDiff,Nat.reduceAdd,Nat.reduceLT,Nat.reduceLeDiff,Int.reduceNeg,Int.reduceToNat,reduceCtorEq,gU]
  refine bw.up us.length (fun i T H'=>H'=H∧T 0=.sl q 0 us.length 1∧T 3=gi ((us.take i).map (·.2)).flatten.length∧T 9=.sl q 0 us.length 1∧T 10=gi us.length∧T 11=gi i) ⟨rfl,rfl,rfl,rfl,rfl,rfl⟩ ?_
  rintro i k T H1 hk ⟨rfl,t0,t3,t9,t10,t11⟩
  simp (disch:=omega) only [↓wr,↓reduceIte,wq,ah,ag,aj,ab,ae,af,ai,isNil,Nat.reduceEqDiff,Nat.reduceAdd,Nat.reduceLT,Nat.reduceLeDiff,Int.reduceNeg,Int.reduceToNat,reduceCtorEq,gj,t0,t3,t9,t10,t11]
  refine an.dec (fun hi=>?_) (fun hi=>?_)
  · have h2:us[i]?=some (us[i]'(by omega)):=List.getElem?_eq_getElem (by omega)
    have hm:=List.mem_of_getElem? h2
    have htk:us.take (i+1)=us.take i ++ [us[i]'(by omega)]:=by rw[List.take_add_one,h2]; rfl
    have hs1:=hsum (i+1)
    have hgd:(us.map fun x=>[x.1]).getD i []=[(us[i]'(by omega)).1]:=by simp[List.getD_eq_getElem?_getD,h2]
    generalize us[i]'(by omega)=x at h2 hm htk hgd
    have hx:=(ha x hm).len
    rw[htk] at hs1
    simp only[List.map_append,List.map_cons,List.map_nil,List.flatten_append,List.flatten_cons,List.flatten_nil,List.append_nil,List.length_append] at hs1
    simp (disch:=omega) only [↓wr,↓reduceIte,wq,ah,ag,aj,ab,ae,af,ai,isNil,Nat.reduceEqDiff,Nat.reduceAdd,Nat.reduceLT,Nat.reduceLeDiff,Int.reduceNeg,Int.reduceToNat,reduceCtorEq,t0,t3,t9,t10,t11,hq,hgd,hx]
    refine ⟨by omega,by omega,?_⟩
    refine an.dec (fun h=>absurd h (by omega)) (fun _=>?_)
    simp (disch:=omega) only [↓wr,↓reduceIte,wq,ah,ag,aj,ab,ae,af,ai,isNil,Nat.reduceEqDiff,Nat.reduceAdd,Nat.reduceLT,Nat.reduceLeDiff,Int.reduceNeg,Int.reduceToNat,reduceCtorEq,t0,t3,t9,t10,t11]
    refine aT hk (by omega) ⟨rfl,t0,?_,t9,t10,rfl⟩
    rw[htk,List.map_append,List.flatten_append,List.length_append,List.map_cons,List.map_nil,List.flatten_cons,List.flatten_nil,List.append_nil]
    push_cast
    rfl
  · simp (disch:=omega) only [↓wr,↓reduceIte,wq,ah,ag,aj,ab,ae,af,ai,isNil,Nat.reduceEqDiff,Nat.reduceAdd,Nat.reduceLT,Nat.reduceLeDiff,Int.reduceNeg,Int.reduceToNat,reduceCtorEq,t0,t3,t9,t10,t11]
    have e:us.take i=us:=List.take_of_length_le (by omega)
    rw[e]
    refine aF.gH ((Fl _ hl H1).mono ?_)
    intro r H2 hr
    have hro:vf H2 r []∧c6 H1 H2 r:=by
      rcases hr with ⟨_,rfl,rfl⟩ | ⟨_,m,es,hm,rfl,rfl⟩
      · exact ⟨.inl .nil,.emp⟩
      · exact ⟨.inr ⟨rfl,m,es,rfl,by simp[View.set]⟩,.new hm⟩
    have hlast:(us.map (·.2)).flatten.length=0→aO H2 r 1 (bY []):=fun h0=>by
      rcases hr with ⟨_,rfl,_⟩ | ⟨h1,_⟩
      · exact .nil
      · omega
    obtain ⟨hroom,hfr⟩:=hro
    simp (disch:=omega) only [↓wr,↓reduceIte,wq,ah,ag,aj,ab,ae,af,ai,isNil,Nat.reduceEqDiff,Nat.reduceAdd,Nat.reduceLT,Nat.reduceLeDiff,Int.reduceNeg,Int.reduceToNat,reduceCtorEq,t0,t3,t9,t10,t11]
    refine bw.up us.length (fun i T H'=>∃ u,T 6=u∧vf H' u ((us.take i).map (·.2)).flatten∧((us.map (·.2)).flatten.length=0→aO H' u 1 (bY ((us.take i).map (·.2)).flatten))∧c6 H1 H' u∧T 25=.sl q 0 us.length 1∧T 26=gi us.length∧T 27=gi i) ⟨r,rfl,hroom,hlast,hfr,rfl,rfl,rfl⟩ ?_
    rintro i k T H3 hk ⟨u,t6,ho,hz,hf,t25,t26,t27⟩
    simp (disch:=omega) only [↓wr,↓reduceIte,wq,ah,ag,aj,ab,ae,af,ai,isNil,Nat.reduceEqDiff,Nat.reduceAdd,Nat.reduceLT,Nat.reduceLeDiff,Int.reduceNeg,Int.reduceToNat,reduceCtorEq,fY,t6,t25,t26,t27]
    refine an.dec (fun hi=>?_) (fun hi=>?_)
    · have h2:us[i]?=some (us[i]'(by omega)):=List.getElem?_eq_getElem (by omega)
      have hm:=List.mem_of_getElem? h2
      have htk:us.take (i+1)=us.take i ++ [us[i]'(by omega)]:=by rw[List.take_add_one,h2]; rfl
      have hs1:=hsum (i+1)
      have hgd:(us.map fun x=>[x.1]).getD i []=[(us[i]'(by omega)).1]:=by simp[List.getD_eq_getElem?_getD,h2]
      generalize us[i]'(by omega)=x at h2 hm htk hgd
      rw[htk,List.map_append,List.flatten_append,List.length_append,List.map_cons,List.map_nil,List.flatten_cons,List.flatten_nil,List.append_nil] at hs1
      have hq3:H3 q=.arr 1 (us.map fun x=>[x.1]):=by rw[(hf q (by rw[hq]; simp)).1,hq]
      obtain ⟨rd,he⟩:=((ha x hm).keep fun id hid=>(hf id hid).1).elems
      simp (disch:=omega) only [↓wr,↓reduceIte,wq,ah,ag,aj,ab,ae,af,ai,isNil,Nat.reduceEqDiff,Nat.reduceAdd,Nat.reduceLT,Nat.reduceLeDiff,Int.reduceNeg,Int.reduceToNat,reduceCtorEq,t6,t25,t26,t27,hq3,hgd,he]
      refine ⟨by omega,by omega,?_⟩
      refine FQ ho (by unfold aL; omega) (by unfold aL; omega) rfl ?_
      intro u' H4 ho4 hz4 l4
      simp (disch:=omega) only [↓wr,↓reduceIte,wq,ah,ag,aj,ab,ae,af,ai,isNil,Nat.reduceEqDiff,Nat.reduceAdd,Nat.reduceLT,Nat.reduceLeDiff,Int.reduceNeg,Int.reduceToNat,reduceCtorEq,t6,t25,t26,t27]
      refine aT hk (by omega) ⟨u',rfl,?_,fun h0=>?_,fun id hid=>?_,t25,t26,rfl⟩
      · rw[htk]; simpa using ho4
      · rw[htk]; simpa using hz4 (hz h0)
      · obtain ⟨a,b⟩:=hf id hid
        obtain ⟨c,d⟩:=l4 id (by rw[a]; exact hid) b
        exact ⟨c.trans a,d⟩
    · simp (disch:=omega) only [↓wr,↓reduceIte,wq,ah,ag,aj,ab,ae,af,ai,isNil,Nat.reduceEqDiff,Nat.reduceAdd,Nat.reduceLT,Nat.reduceLeDiff,Int.reduceNeg,Int.reduceToNat,reduceCtorEq,t6,t25,t26,t27]
      have e:us.take i=us:=List.take_of_length_le (by omega)
      rw[e] at ho hz
      refine ⟨?_,hf⟩
      rcases ho with ho | ⟨h0,m,es,rfl,hm⟩
      · exact ho
      · exact hz (by rw[h0]; rfl)
end Gv
set_option linter.unusedSimpArgs false
set_option maxRecDepth 100000
namespace Gv
open Go Go.Proofs
def ee:SC :=
  .seq (ak [aS 10 .lss 9 8]) <|
  .seq (.cond (.tmp 10) (.skip) (.exit 0)) <|
  .seq (.block 1 (.seq (ak [bo 11 1 7 9,aq 12 11,aa 5 12]) <|
  .seq (.seq (ak [aa 13 5,aA 14 .geq 13 0]) <|
  .cond (.tmp 14) (.seq (ak [aa 15 0,aa 16 0,br 17 16,ao 18 6 17,aq 19 18,aa 20 5,((some 21),.op (.bE 1 1 [(.val (.int .i64 0))] [(0,(.tmp 20))])),((some 22),.op (.app 1 8 (.tmp 19) (.tmp 21))),br 23 15,ao 24 6 23,(none,.op (.store 1 (.tmp 24) (.tmp 22)))]) <|
  .exit 1) (.skip)) <|
  .seq (ak [aa 25 0,br 26 25,ao 27 4 26,aq 28 27,aa 29 5,((some 30),.op (.arith .sub (.val (.val (.int .i64 (-1)))) (.tmp 29))),bo 31 4 28 30,ao 32 0 31,aq 33 32,aa 6 33]) <|
  .seq (ak [aa 34 0,aa 35 0,br 36 35,ao 37 5 36,aq 38 37,aa 39 6,((some 40),.op (.bE 1 1 [(.val (.int .i64 0))] [(0,(.tmp 39))])),((some 41),.op (.app 1 8 (.tmp 38) (.tmp 40))),br 42 34,ao 43 5 42,(none,.op (.store 1 (.tmp 43) (.tmp 41)))]) <|
  ak [aa 44 0,aa 45 0,br 46 45,ao 47 0 46,ao 48 2 47,aq 49 48,aa 50 6,bo 51 3 49 50,ao 52 1 51,aq 53 52,aK 54 233 [44,53]])) <|
  ak [aA 55 .add 9 1,aa 9 55]
def gG:SF:=⟨.seq (ak [aa 7 1,aQ 8 7,aI 9 0]) <|
  .block 0 (.loop ee),
  [],56⟩
theorem jq:aV Tryz.prog 233 []=some gG:=by kernel_rfl
def fJ (g:al) (r w:V):List V:=[.aN (g.ay.map cz),.aN (g.ax.map fun s=>[gs s]),.aN (g.rules.map bf),gi g.start,fD (ar g),r,w]
def C1 (g:al) (b:Nat) (R W:List Int) (H:View):Prop:=∃ ur uw,bD H [(.sl b 0 1 7,7,[fJ g ur uw]),(ur,1,bY R),(uw,1,bY W)]
set_option maxHeartbeats 4000000 in
theorem C4 (g:al) (hg:g.Ok) (hf:g.iJ) (b:Nat):∀ (f:Nat) (l:List Int),aH l→(∀ x∈l,bT x∧(x < 0→-1 - x < g.ax.length))→yi (ar g) f l→∀ (R W:List Int) (H:View),(R ++ cK g (ar g) f l).length≤100000→(W ++ c7 g (ar g) f l).length≤100000 →
    C1 g b R W H→aB Tryz.prog 233 [.ptr b 0 0,encI l] H fun _ H'=>C1 g b (R ++ cK g (ar g) f l) (W ++ c7 g (ar g) f l) H':=by
  intro f
  induction f using Nat.strongRecOn with
  | _ f ih =>
    intro l hl hn hu R W H0 hbR hbW ho0
    refine aB.of mixed jq ?_
    unfold aH at hl
    simp (disch:=omega) only [↓wr,↓reduceIte,wq,ah,ag,aj,ab,ae,af,ai,isNil,Nat.reduceEqDiff,Nat.reduceAdd,Nat.reduceLT,Nat.reduceLeDiff,Int.reduceNeg,Int.reduceToNat,reduceCtorEq,gG,encI]
    refine bw.up l.length (fun i T H'=>C1 g b (R ++ cK g (ar g) f (l.take i)) (W ++ c7 g (ar g) f (l.take i)) H'∧T 0=.ptr b 0 0∧T 7=encI l∧T 8=gi l.length∧T 9=gi i) ⟨by rw[List.take_zero,pP,m6,List.append_nil,List.append_nil]; exact ho0,rfl,rfl,rfl,rfl⟩ ?_
    rintro i k T H hk ⟨⟨ur,uw,ho⟩,t0,t7,t8,t9⟩
    simp (disch:=omega) only [↓wr,↓reduceIte,wq,ah,ag,aj,ab,ae,af,ai,isNil,Nat.reduceEqDiff,Nat.reduceAdd,Nat.reduceLT,Nat.reduceLeDiff,Int.reduceNeg,Int.reduceToNat,reduceCtorEq,ee,t0,t7,t8,t9,encI]
    refine an.dec (fun hc=>?_) (fun hc=>?_)
    · have hg1:l[i]?=some (l[i]'(by omega)):=List.getElem?_eq_getElem (by omega)
      have hmem:l[i]'(by omega)∈l:=List.getElem_mem _
      have htk:l.take (i+1)=l.take i ++ [l[i]'(by omega)]:=by rw[List.take_add_one,hg1]; rfl
      have hbt:=Gy g f l (i+1)
      have hbw:=ID g f l (i+1)
      generalize l[i]'(by omega)=x at hg1 hmem htk
      obtain ⟨⟨hx1,hx2⟩,hx3⟩:=hn x hmem
      rw[htk,gC] at hbt
      rw[htk,gE] at hbw
      simp only[List.length_append] at hbR hbW hbt hbw
      have hb:=ho.is 0 rfl (by simp)
      simp (disch:=omega) only [↓wr,↓reduceIte,wq,ah,ag,aj,ab,ae,af,ai,isNil,Nat.reduceEqDiff,Nat.reduceAdd,Nat.reduceLT,Nat.reduceLeDiff,Int.reduceNeg,Int.reduceToNat,reduceCtorEq,t0,t7,t8,t9,encI,List.getElem?_map,hg1]
      refine an.dec (fun hx=>?_) (fun hx=>?_)
      · rw[iT (show 0≤x from hx)] at hbw
        simp only[List.length_cons,List.length_nil] at hbw
        simp (disch:=omega) only [↓wr,↓reduceIte,wq,ah,ag,aj,ab,ae,af,ai,isNil,Nat.reduceEqDiff,Nat.reduceAdd,Nat.reduceLT,Nat.reduceLeDiff,Int.reduceNeg,Int.reduceToNat,reduceCtorEq,t0,t7,t8,t9,hb,fJ]
        intro n hn1
        rw[dg]
        simp (disch:=omega) only [↓wr,↓reduceIte,wq,ah,ag,aj,ab,ae,af,ai,isNil,Nat.reduceEqDiff,Nat.reduceAdd,Nat.reduceLT,Nat.reduceLeDiff,Int.reduceNeg,Int.reduceToNat,reduceCtorEq,t0,t7,t8,t9]
        refine fI ((ho.at 2 (by simp)).fresh hn1) (by simp[aM]) (by unfold aL; simp; omega) (by unfold aL; simp; omega) ?_
        intro u1 H1 o1 _
        simp only[List.eraseIdx_cons_succ,List.eraseIdx_cons_zero] at o1
        have hb1:=o1.is 1 rfl (by simp)
        have c1:=o1.head.cells
        have k1:=o1.head.oQ
        simp (disch:=omega) only [↓wr,↓reduceIte,wq,ah,ag,aj,ab,ae,af,ai,isNil,Nat.reduceEqDiff,Nat.reduceAdd,Nat.reduceLT,Nat.reduceLeDiff,Int.reduceNeg,Int.reduceToNat,reduceCtorEq,t0,t7,t8,t9,hb1,fJ,c1,k1]
        have o2:=(o1.at 1 (by simp)).put (es':=[fJ g ur u1]) rfl rfl
        simp only[List.eraseIdx_cons_succ,List.eraseIdx_cons_zero] at o2
        refine aT hk (by omega) ⟨⟨ur,u1,?_⟩,t0,t7,t8,rfl⟩
        rw[htk,gC,gE,lp (show 0≤x from hx),iT (show 0≤x from hx),List.append_nil]
        have o3:=o2.perm (.cons _ (.swap _ _ _))
        simpa [fJ] using o3
      · obtain ⟨f,rfl⟩:∃ f',f=f'+1:=by
          cases f with
          | zero=>have:=yQ hu x hmem; omega
          | succ f=>exact ⟨f,rfl⟩
        obtain ⟨hkn,hh⟩:=hu x hmem (by omega)
        obtain ⟨ri,r,hi,hr,hra,hur,_⟩:=sk (f:=f) hkn (by push_cast at hh; exact hh)
        have hgp:=um (P:=ar g) (m:=bK x) (by rw[ki]; have:=hx3 (by omega); unfold bK; omega)
        have hmr:=List.mem_of_getElem? hr
        have hrl:ri < g.rules.length:=(List.getElem?_eq_some_iff.1 hr).1
        have hrw:=hg.bb r hmr
        rw[j0 (by omega),hra,hi] at hbt
        rw[kn (by omega),hra] at hbw
        simp only[List.length_cons] at hbt
        generalize hpx:aX (ar g) (bK x)=p at hgp hi hra
        simp (disch:=omega) only [↓wr,↓reduceIte,wq,ah,ag,aj,ab,ae,af,ai,isNil,Nat.reduceEqDiff,Nat.reduceAdd,Nat.reduceLT,Nat.reduceLeDiff,Int.reduceNeg,Int.reduceToNat,reduceCtorEq,t0,t7,t8,t9,hb,fJ]
        simp (disch:=omega) only [↓wr,↓reduceIte,wq,ah,ag,aj,ab,ae,af,ai,isNil,Nat.reduceEqDiff,Nat.reduceAdd,Nat.reduceLT,Nat.reduceLeDiff,Int.reduceNeg,Int.reduceToNat,reduceCtorEq,t0,t7,t8,t9,hb,fJ,hgp,bB,hi]
        intro n hn1
        rw[dg]
        simp (disch:=omega) only [↓wr,↓reduceIte,wq,ah,ag,aj,ab,ae,af,ai,isNil,Nat.reduceEqDiff,Nat.reduceAdd,Nat.reduceLT,Nat.reduceLeDiff,Int.reduceNeg,Int.reduceToNat,reduceCtorEq,t0,t7,t8,t9]
        refine fI ((ho.at 1 (by simp)).fresh hn1) (by simp[aM]) (by unfold aL; simp; omega) (by unfold aL; simp; omega) ?_
        intro u1 H1 o1 _
        simp only[List.eraseIdx_cons_succ,List.eraseIdx_cons_zero] at o1
        have hb1:=o1.is 1 rfl (by simp)
        have c1:=o1.head.cells
        have k1:=o1.head.oQ
        simp (disch:=omega) only [↓wr,↓reduceIte,wq,ah,ag,aj,ab,ae,af,ai,isNil,Nat.reduceEqDiff,Nat.reduceAdd,Nat.reduceLT,Nat.reduceLeDiff,Int.reduceNeg,Int.reduceToNat,reduceCtorEq,t0,t7,t8,t9,hb1,fJ,c1,k1,bf,List.getElem?_map,hr,encI]
        have o2:=(o1.at 1 (by simp)).put (es':=[fJ g u1 uw]) rfl rfl
        simp only[List.eraseIdx_cons_succ,List.eraseIdx_cons_zero] at o2
        have hcall:=ih f (by omega) r.right hrw.2.2.1 (fun y hy=>⟨hrw.2.2.2 y hy,fun hn=>hf.neg hmr hy hn⟩) hur (R ++ cK g (ar g) (f+1) (l.take i) ++ [(ri:Int)]) (W ++ c7 g (ar g) (f+1) (l.take i)) _
          (by simp only[List.length_append,List.length_cons,List.length_nil]; omega) (by simp only[List.length_append]; omega) ⟨u1,uw,by simpa using o2⟩
        simp only[fJ,encI] at hcall
        refine aF.gH (hcall.mono ?_)
        rintro v H2 ⟨ur2,uw2,o3⟩
        simp (disch:=omega) only [↓wr,↓reduceIte,wq,ah,ag,aj,ab,ae,af,ai,isNil,Nat.reduceEqDiff,Nat.reduceAdd,Nat.reduceLT,Nat.reduceLeDiff,Int.reduceNeg,Int.reduceToNat,reduceCtorEq,t0,t7,t8,t9]
        refine aT hk (by omega) ⟨⟨ur2,uw2,?_⟩,t0,t7,t8,rfl⟩
        rw[htk,gC,gE,j0 (by omega),kn (by omega),hpx,hi,← hi,hra,hi]
        simpa using o3
    · rw[List.take_of_length_le (by omega)] at ho
      simp (disch:=omega) only [↓wr,↓reduceIte,wq,ah,ag,aj,ab,ae,af,ai,isNil,Nat.reduceEqDiff,Nat.reduceAdd,Nat.reduceLT,Nat.reduceLeDiff,Int.reduceNeg,Int.reduceToNat,reduceCtorEq,t0,t7,t8,t9]
      exact ⟨ur,uw,ho⟩
def tV (H:View) (u:V) (l:List Int):Prop:=u=encI l∨∃ (m:Nat) (x:Int),l=[x]∧x < 0∧u=.sl m 0 1 1∧H m=.arr 1 [[gi x]]
theorem tV.yY {H:View} {u:V} {l:List Int} (h:tV H u l):dt H u (encI l):=by
  rcases h with rfl | ⟨m,x,rfl,_,rfl,hm⟩
  · exact dt.tree (du l)
  · exact xQ (l:=[x]) hm rfl
theorem tV.keep {H H':View} {u:V} {l:List Int} (h:tV H u l) (hk:∀ id,H id≠.dead→H' id=H id):tV H' u l:=by
  rcases h with rfl | ⟨m,x,rfl,hx,rfl,hm⟩
  · exact .inl rfl
  · exact .inr ⟨m,x,rfl,hx,rfl,by rw[hk m (by rw[hm]; simp)]; exact hm⟩
set_option maxHeartbeats 4000000 in
theorem BT (g:al) (hg:g.Ok) (hf:g.iJ) (b:Nat) (f:Nat) (l:List Int) (hl:aH l) (hn:∀ x∈l,bT x∧(x < 0→-1 - x < g.ax.length)) (hu:yi (ar g) f l) (R W:List Int) (H:View) (hbR:(R ++ cK g (ar g) f l).length≤100000) (hbW:(W ++ c7 g (ar g) f l).length≤100000)
    (hw:C1 g b R W H) (u:V) (hi:tV H u l):aB Tryz.prog 233 [.ptr b 0 0,u] H fun _ H'=>C1 g b (R ++ cK g (ar g) f l) (W ++ c7 g (ar g) f l) H':=by
  rcases hi with rfl | ⟨m,x,rfl,hx0,rfl,hm⟩
  · exact C4 g hg hf b f l hl hn hu R W H hbR hbW hw
  · obtain ⟨⟨hx1,hx2⟩,hx3⟩:=hn x (by simp)
    refine aB.of mixed jq ?_
    simp (disch:=omega) only [↓wr,↓reduceIte,wq,ah,ag,aj,ab,ae,af,ai,isNil,Nat.reduceEqDiff,Nat.reduceAdd,Nat.reduceLT,Nat.reduceLeDiff,Int.reduceNeg,Int.reduceToNat,reduceCtorEq,gG]
    refine bw.up 1 (fun i T H'=>((i=0∧H'=H)∨(i=1∧C1 g b (R ++ cK g (ar g) f [x]) (W ++ c7 g (ar g) f [x]) H'))∧T 0=.ptr b 0 0∧T 7=.sl m 0 1 1∧T 8=gi 1∧T 9=gi i) ⟨.inl ⟨rfl,rfl⟩,rfl,rfl,rfl,rfl⟩ ?_
    rintro i k T H1 hk ⟨h7,t0,t7,t8,t9⟩
    rcases h7 with ⟨rfl,rfl⟩ | ⟨rfl,ho⟩
    · obtain ⟨ur,uw,ho⟩:=hw
      have hb:=ho.is 0 rfl (by simp)
      simp (disch:=omega) only [↓wr,↓reduceIte,wq,ah,ag,aj,ab,ae,af,ai,isNil,Nat.reduceEqDiff,Nat.reduceAdd,Nat.reduceLT,Nat.reduceLeDiff,Int.reduceNeg,Int.reduceToNat,reduceCtorEq,ee,t0,t7,t8,t9,hm]
      refine an.dec (fun _=>?_) (fun hc=>absurd hc (by decide))
      simp (disch:=omega) only [↓wr,↓reduceIte,wq,ah,ag,aj,ab,ae,af,ai,isNil,Nat.reduceEqDiff,Nat.reduceAdd,Nat.reduceLT,Nat.reduceLeDiff,Int.reduceNeg,Int.reduceToNat,reduceCtorEq,t0,t7,t8,t9,hm]
      refine an.dec (fun hc=>absurd hc (by omega)) (fun _=>?_)
      obtain ⟨f,rfl⟩:∃ f',f=f'+1:=by
        cases f with
        | zero=>have:=yQ hu x (by simp); omega
        | succ f=>exact ⟨f,rfl⟩
      obtain ⟨hkn,hh⟩:=hu x (by simp) (by omega)
      obtain ⟨ri,r,hi,hr,hra,hur,_⟩:=sk (f:=f) hkn (by push_cast at hh; exact hh)
      have hgp:=um (P:=ar g) (m:=bK x) (by rw[ki]; have:=hx3 (by omega); unfold bK; omega)
      have hmr:=List.mem_of_getElem? hr
      have hrl:ri < g.rules.length:=(List.getElem?_eq_some_iff.1 hr).1
      have hrw:=hg.bb r hmr
      rw[j0 (by omega),hra,hi] at hbR ⊢
      rw[kn (by omega),hra] at hbW ⊢
      simp only[List.length_append,List.length_cons] at hbR hbW
      generalize hpx:aX (ar g) (bK x)=p at hgp hi hra
      simp (disch:=omega) only [↓wr,↓reduceIte,wq,ah,ag,aj,ab,ae,af,ai,isNil,Nat.reduceEqDiff,Nat.reduceAdd,Nat.reduceLT,Nat.reduceLeDiff,Int.reduceNeg,Int.reduceToNat,reduceCtorEq,t0,t7,t8,t9,hb,fJ]
      simp (disch:=omega) only [↓wr,↓reduceIte,wq,ah,ag,aj,ab,ae,af,ai,isNil,Nat.reduceEqDiff,Nat.reduceAdd,Nat.reduceLT,Nat.reduceLeDiff,Int.reduceNeg,Int.reduceToNat,reduceCtorEq,t0,t7,t8,t9,hb,fJ,hgp,bB,hi]
      intro n hn1
      rw[dg]
      simp (disch:=omega) only [↓wr,↓reduceIte,wq,ah,ag,aj,ab,ae,af,ai,isNil,Nat.reduceEqDiff,Nat.reduceAdd,Nat.reduceLT,Nat.reduceLeDiff,Int.reduceNeg,Int.reduceToNat,reduceCtorEq,t0,t7,t8,t9]
      refine fI ((ho.at 1 (by simp)).fresh hn1) (by simp[aM]) (by unfold aL; simp; omega) (by unfold aL; simp; omega) ?_
      intro u1 H1 o1 _
      simp only[List.eraseIdx_cons_succ,List.eraseIdx_cons_zero] at o1
      have hb1:=o1.is 1 rfl (by simp)
      have c1:=o1.head.cells
      have k1:=o1.head.oQ
      simp (disch:=omega) only [↓wr,↓reduceIte,wq,ah,ag,aj,ab,ae,af,ai,isNil,Nat.reduceEqDiff,Nat.reduceAdd,Nat.reduceLT,Nat.reduceLeDiff,Int.reduceNeg,Int.reduceToNat,reduceCtorEq,t0,t7,t8,t9,hb1,fJ,c1,k1,bf,List.getElem?_map,hr,encI]
      have o2:=(o1.at 1 (by simp)).put (es':=[fJ g u1 uw]) rfl rfl
      simp only[List.eraseIdx_cons_succ,List.eraseIdx_cons_zero] at o2
      have hcall:=C4 g hg hf b f r.right hrw.2.2.1 (fun y hy=>⟨hrw.2.2.2 y hy,fun hn=>hf.neg hmr hy hn⟩) hur (R ++ [(ri:Int)]) W _
        (by simp only[List.length_append,List.length_cons,List.length_nil]; omega) (by simp only[List.length_append]; omega) ⟨u1,uw,by simpa using o2⟩
      simp only[fJ,encI] at hcall
      refine aF.gH (hcall.mono ?_)
      rintro v H2 ⟨ur2,uw2,o3⟩
      simp (disch:=omega) only [↓wr,↓reduceIte,wq,ah,ag,aj,ab,ae,af,ai,isNil,Nat.reduceEqDiff,Nat.reduceAdd,Nat.reduceLT,Nat.reduceLeDiff,Int.reduceNeg,Int.reduceToNat,reduceCtorEq,t0,t7,t8,t9]
      exact ⟨0,by omega,1,by omega,.inr ⟨rfl,ur2,uw2,by simpa using o3⟩,t0,t7,t8,rfl⟩
    · simp (disch:=omega) only [↓wr,↓reduceIte,wq,ah,ag,aj,ab,ae,af,ai,isNil,Nat.reduceEqDiff,Nat.reduceAdd,Nat.reduceLT,Nat.reduceLeDiff,Int.reduceNeg,Int.reduceToNat,reduceCtorEq,ee,t0,t7,t8,t9]
      refine an.dec (fun hc=>absurd hc (by decide)) (fun _=>?_)
      simp (disch:=omega) only [↓wr,↓reduceIte,wq,ah,ag,aj,ab,ae,af,ai,isNil,Nat.reduceEqDiff,Nat.reduceAdd,Nat.reduceLT,Nat.reduceLeDiff,Int.reduceNeg,Int.reduceToNat,reduceCtorEq,t0,t7,t8,t9]
      exact ho
end Gv
set_option linter.unusedSimpArgs false
set_option maxRecDepth 100000
namespace Gv
open Go Go.Proofs
def py:SF:=⟨.seq (ak [c8 3 0,((some 6),.op (.bd (.val (.val (.pointer none))))),aI 7 0]) <|
  .seq (.region true [⟨none,[aZ 11 4 3,aZ 12 4 3,aK 13 231 [12],((some 14),.op (.build [(.emp 1),(.emp 1),(.emp 1),(.val (.int .i64 0)),(.emp 1),(.emp 1),(.emp 1)] [(0,4,(.tmp 11)),(4,1,(.tmp 13))])),((some 15),.op (.box (.tmp 14))),aa 8 15]⟩]) <|
  .seq (ak [aa 17 1,aa 18 8,br 19 18,ao 20 4 19,aq 21 20,aK 22 232 [17,21],aa 16 22,b6 23 0 16,b6 24 1 16,((some 9),.op (.alloc [(.val (.int .i64 0)),(.val (.int .i64 0)),(.val (.int .i64 0)),(.val (.int .i64 0))])),(none,.op (.store 4 (.tmp 9) (.tmp 23))),aa 10 24]) <|
  .seq (.block 0 (.seq (ak [aa 26 10,cn 27 26,aa 25 27]) <|
  .cond (.tmp 25) (.seq (ak [((some 6),.op (.bd (.val (.val (.pointer none))))),aI 7 9]) <|
  .ret) (.seq (.region false [⟨none,[ao 29 2 9,aq 30 29,aA 31 .gtr 30 300,aa 32 31]⟩,⟨(some (32,false)),[ao 33 3 9,aq 34 33,aa 35 2,aS 36 .gtr 34 35]⟩,⟨none,[bC 37 32 36,aa 28 37]⟩]) <|
  .cond (.tmp 28) (.seq (ak [((some 6),.op (.bd (.val (.val (.pointer none))))),aI 7 13]) <|
  .ret) (.skip)))) <|
  .seq (ak [aa 38 8,aa 39 1,aK 40 233 [38,39]]) <|
  .seq (ak [aa 41 8,aa 6 41,aI 7 0]) <|
  .ret,
  [.tmp 6,.tmp 7],42⟩
theorem tF:aV Tryz.prog 209 [3]=some py:=by kernel_rfl
def yH:V:=.val (.pointer none)
def L8 (g:al) (l:List Int) (t:Int) (r:V) (H:View):Prop :=
  ((bA (ar g) l bm).2=false∧r=.bg [yH,gi 9]) ∨
  ((bA (ar g) l bm).2=true∧(300 < (bA (ar g) l bm).1.rules∨t < (bA (ar g) l bm).1.ay)∧r=.bg [yH,gi 13]) ∨
  ((bA (ar g) l bm).2=true∧¬ (300 < (bA (ar g) l bm).1.rules∨t < (bA (ar g) l bm).1.ay)∧∃ b,r=.bg [.ptr b 0 0,gi 0]∧C1 g b (cK g (ar g) g.ax.length l) (c7 g (ar g) g.ax.length l) H)
set_option maxHeartbeats 4000000 in
theorem FR (g:al) (hg:g.Ok) (hf:g.iJ) (l:List Int) (hl:l.length≤50) (hn:∀ x∈l,bT x∧(x < 0→-1 - x < g.ax.length)) (t:Int) (u:V) (H:View) (hi:tV H u l) :
    aB Tryz.prog 209 [.agg (av g),u,gi t] H (L8 g l t):=by
  have hsl:aH l:=by unfold aH; omega
  have z2:=hf.ax
  have z3:=hf.rules
  refine aB.of mixed tF ?_
  simp (disch:=omega) only [↓wr,↓reduceIte,wq,ah,ag,aj,ab,ae,af,ai,isNil,Nat.reduceEqDiff,Nat.reduceAdd,Nat.reduceLT,Nat.reduceLeDiff,Int.reduceNeg,Int.reduceToNat,reduceCtorEq,py,av,encS]
  refine aF.pure (Kc g hg hf).pure (by kernel_rfl) ?_
  simp (disch:=omega) only [↓wr,↓reduceIte,wq,ah,ag,aj,ab,ae,af,ai,isNil,Nat.reduceEqDiff,Nat.reduceAdd,Nat.reduceLT,Nat.reduceLeDiff,Int.reduceNeg,Int.reduceToNat,reduceCtorEq]
  intro b hb
  have hi1:tV (H.set b (.arr 7 [fJ g (.emp 1) (.emp 1)])) u l:=hi.keep fun id hid=>by
    have:id≠b:=by rintro rfl; exact hid hb
    simp[View.set,this]
  try simp (disch:=omega) only [↓wr,↓reduceIte,wq,ah,ag,aj,ab,ae,af,ai,isNil,Nat.reduceEqDiff,Nat.reduceAdd,Nat.reduceLT,Nat.reduceLeDiff,Int.reduceNeg,Int.reduceToNat,reduceCtorEq]
  have hP:∀ m,vT (aX (ar g) m):=fun m=>CK z3 z2 m
  refine aF.xg (Hr (ar g) hP l hsl fun x hx=>⟨(hn x hx).1,fun h=>by rw[ki]; exact (hn x hx).2 h⟩) (by kernel_rfl) ⟨hi1.yY,dt.tree (nZ _),trivial⟩ ?_
  have hsz:=fun (h:ju (ar g) l)=>And.intro (zx h) (uc g g.ax.length l bm (Cg h) lV)
  have hok:=j3 (ar g) l bm
  have hwt:=Am hf.right g.ax.length l
  have hps:=oO (fun m=>(hP m).1) l bm lV
  unfold L8
  generalize hsp:bA (ar g) l bm=sp at hok hps hsz ⊢
  unfold dq at hps
  simp (disch:=omega) only [↓wr,↓reduceIte,wq,ah,ag,aj,ab,ae,af,ai,isNil,Nat.reduceEqDiff,Nat.reduceAdd,Nat.reduceLT,Nat.reduceLeDiff,Int.reduceNeg,Int.reduceToNat,reduceCtorEq,bB]
  intro n hn1
  have hnb:=(dk hn1 dr).1
  have hnH:=(dk hn1 dr).2
  try simp (disch:=omega) only [↓wr,↓reduceIte,wq,ah,ag,aj,ab,ae,af,ai,isNil,Nat.reduceEqDiff,Nat.reduceAdd,Nat.reduceLT,Nat.reduceLeDiff,Int.reduceNeg,Int.reduceToNat,reduceCtorEq,bB]
  refine an.split (fun hs=>?_) (fun hs=>?_)
  · have hak:=hok.1 hs
    simp (disch:=omega) only [↓wr,↓reduceIte,wq,ah,ag,aj,ab,ae,af,ai,isNil,Nat.reduceEqDiff,Nat.reduceAdd,Nat.reduceLT,Nat.reduceLeDiff,Int.reduceNeg,Int.reduceToNat,reduceCtorEq,bB]
    refine an.dec (fun h3=>?_) (fun h3=>?_)
    · simp (disch:=omega) only [↓wr,↓reduceIte,wq,ah,ag,aj,ab,ae,af,ai,isNil,Nat.reduceEqDiff,Nat.reduceAdd,Nat.reduceLT,Nat.reduceLeDiff,Int.reduceNeg,Int.reduceToNat,reduceCtorEq]
      exact .inr (.inl ⟨hs,.inl h3,rfl⟩)
    · simp (disch:=omega) only [↓wr,↓reduceIte,wq,ah,ag,aj,ab,ae,af,ai,isNil,Nat.reduceEqDiff,Nat.reduceAdd,Nat.reduceLT,Nat.reduceLeDiff,Int.reduceNeg,Int.reduceToNat,reduceCtorEq,bB]
      refine an.dec (fun h4=>?_) (fun h4=>?_)
      · simp (disch:=omega) only [↓wr,↓reduceIte,wq,ah,ag,aj,ab,ae,af,ai,isNil,Nat.reduceEqDiff,Nat.reduceAdd,Nat.reduceLT,Nat.reduceLeDiff,Int.reduceNeg,Int.reduceToNat,reduceCtorEq]
        exact .inr (.inl ⟨hs,.inr h4,rfl⟩)
      · simp (disch:=omega) only [↓wr,↓reduceIte,wq,ah,ag,aj,ab,ae,af,ai,isNil,Nat.reduceEqDiff,Nat.reduceAdd,Nat.reduceLT,Nat.reduceLeDiff,Int.reduceNeg,Int.reduceToNat,reduceCtorEq,bB]
        have ho:=(bD.nil (H:=H)).new hb 7 [fJ g (.emp 1) (.emp 1)]
        have hlt:=(hsz hak).1 (by omega)
        have hx:=BT g hg hf b g.ax.length l hsl hn (Cg hak) [] [] (((H.set b (.arr 7 [fJ g (.emp 1) (.emp 1)])).set n (.arr 4 [[gi 0,gi 0,gi 0,gi 0]])).set n (.arr 4 [bB sp.1]))
          (by simp only[List.nil_append]; omega) (by simp only[List.nil_append]; omega)
          ⟨.emp 1,.emp 1,by
            rw[set_set]
            have o2:=ho.fresh (n:=n) (o:=.arr 4 [bB sp.1]) (by simp[View.set,hnb,hnH])
            exact ((o2.emp (k:=1) (sz:=1)).emp (k:=1) (sz:=1)).perm (LM.trans (.swap _ _ _))⟩ u
          (hi1.keep fun id hid=>by
            have:id≠n:=by rintro rfl; simp[View.set,hnb,hnH] at hid
            simp[View.set,this])
        simp only[List.nil_append,fJ,bB] at hx
        refine aF.gH (hx.mono ?_)
        intro v H1 hw
        simp (disch:=omega) only [↓wr,↓reduceIte,wq,ah,ag,aj,ab,ae,af,ai,isNil,Nat.reduceEqDiff,Nat.reduceAdd,Nat.reduceLT,Nat.reduceLeDiff,Int.reduceNeg,Int.reduceToNat,reduceCtorEq]
        exact .inr (.inr ⟨hs,by omega,b,rfl,hw⟩)
  · simp (disch:=omega) only [↓wr,↓reduceIte,wq,ah,ag,aj,ab,ae,af,ai,isNil,Nat.reduceEqDiff,Nat.reduceAdd,Nat.reduceLT,Nat.reduceLeDiff,Int.reduceNeg,Int.reduceToNat,reduceCtorEq]
    exact .inl ⟨hs,rfl⟩
def uW:SF:=⟨.seq (ak [c8 2 0,((some 4),.op (.bd (.val (.emp 1)))),aI 5 0]) <|
  .seq (.seq (.region false [⟨none,[aZ 8 4 2,aK 9 45 [8],cn 10 9,aa 11 10]⟩,⟨(some (11,false)),[aa 12 1,aA 13 .lss 12 0]⟩,⟨none,[bC 14 11 13,aa 15 14]⟩,⟨(some (15,false)),[aa 16 1,ao 17 1 2,aq 18 17,aQ 19 18,aS 20 .geq 16 19]⟩,⟨none,[bC 21 15 20]⟩]) <|
  .cond (.tmp 21) (.seq (ak [((some 4),.op (.bd (.val (.emp 1)))),aI 5 1]) <|
  .ret) (.skip)) <|
  .seq (ak [aZ 23 4 2,aa 24 1,((some 25),.op (.arith .sub (.val (.val (.int .i64 (-1)))) (.tmp 24))),((some 26),.op (.bE 1 1 [(.val (.int .i64 0))] [(0,(.tmp 25))])),cH 27 209 [(.tmp 23),(.tmp 26),(.val (.val (.int .i64 1048576)))],aa 22 27,b6 28 0 22,b6 29 1 22,aa 6 28,aa 7 29]) <|
  .seq (.seq (ak [aa 30 7,aA 31 .neq 30 0]) <|
  .cond (.tmp 31) (.seq (ak [aa 32 7,((some 4),.op (.bd (.val (.emp 1)))),aa 5 32]) <|
  .ret) (.skip)) <|
  .seq (ak [aa 33 6,br 34 33,ao 35 5 34,aq 36 35,aa 4 36,aI 5 0]) <|
  .ret,
  [.tmp 4,.tmp 5],37⟩
theorem xE:aV Tryz.prog 169 [2]=some uW:=by kernel_rfl
set_option maxHeartbeats 4000000 in
theorem JW (g:al) (hg:g.Ok) (hs:g.Small) (n:Int) (hn:bT n):cr Tryz.prog 169 [.agg (av g),gi n] (mh (fS g n)):=by
  have hsh:=hg.ax
  unfold aH at hsh
  unfold bT at hn
  refine cr.of (wQ g n) ?_
  refine aB.of mixed xE ?_
  simp (disch:=omega) only [↓wr,↓reduceIte,wq,ah,ag,aj,ab,ae,af,ai,isNil,Nat.reduceEqDiff,Nat.reduceAdd,Nat.reduceLT,Nat.reduceLeDiff,Int.reduceNeg,Int.reduceToNat,reduceCtorEq,uW,av,encS]
  refine aF.pure (kp g hg hs.names) (by kernel_rfl) ?_
  have bad:∀ h':aC,(bk g && decide (0≤n) && decide (n < g.ax.length))=false→cX h' (.bg [.emp 1,gi 1]) (mh (fS g n)):=fun h' e=>by
    unfold fS; rw[if_neg (by rw[e]; simp)]; exact fi (x:=([],1)) (.emp _)
  repeat' (first | (refine an.dec (fun _=>?_) (fun _=>?_)) | (refine an.eq (fun _=>?_) (fun _=>?_)) | (refine an.ne (fun _=>?_) (fun _=>?_)) | (refine an.split (fun _=>?_) (fun _=>?_)) | (simp (disch:=omega) only [↓wr,↓reduceIte,wq,ah,ag,aj,ab,ae,af,ai,isNil,Nat.reduceEqDiff,Nat.reduceAdd,Nat.reduceLT,Nat.reduceLeDiff,Int.reduceNeg,Int.reduceToNat,reduceCtorEq,av,encS]))
  all_goals first
    | (intro h' _; refine bad h' ?_; simp only[Bool.and_eq_false_iff,decide_eq_false_iff_not]; first | (left; left; assumption) | (left; right; omega) | (right; omega))
    | skip
  have hr:bk g=true:=by assumption
  have h0:0≤n:=by omega
  have h1:n < g.ax.length:=by omega
  have hf:=bc hr
  have hA:fS g n=_:=if_pos (by simp[hr,h0,h1])
  intro m
  try simp (disch:=omega) only [↓wr,↓reduceIte,wq,ah,ag,aj,ab,ae,af,ai,isNil,Nat.reduceEqDiff,Nat.reduceAdd,Nat.reduceLT,Nat.reduceLeDiff,Int.reduceNeg,Int.reduceToNat,reduceCtorEq,av,encS]
  have hw:=FR g hg hf [-1 - n] (by simp) (fun x hx=>by simp at hx; subst hx; exact ⟨by unfold bT; omega,fun _=>by omega⟩) 1048576 (.sl m 0 1 1) (View.set (fun _=>.dead) m (.arr 1 [[gi (-1 - n)]])) (.inr ⟨m,-1 - n,rfl,by omega,rfl,by simp[View.set]⟩)
  simp only[av,encS] at hw
  refine aF.gH (hw.mono ?_)
  have hb:=FF (ar g) [-1 - n] bm
  have e:bK (-1 - n)=n.toNat:=by unfold bK; omega
  simp only[uB,List.any_cons,List.any_nil,Bool.or_false,decide_eq_true (show -1 - n < 0 by omega),Bool.true_and,e] at hb
  have hpos:dq (aX (ar g) n.toNat):=gA g _ _
  unfold dq at hpos
  rintro r H1 (⟨h2,rfl⟩ | ⟨h2,h3,rfl⟩ | ⟨h2,h3,b,rfl,ur,uw,ho⟩)
  · simp (disch:=omega) only [↓wr,↓reduceIte,wq,ah,ag,aj,ab,ae,af,ai,isNil,Nat.reduceEqDiff,Nat.reduceAdd,Nat.reduceLT,Nat.reduceLeDiff,Int.reduceNeg,Int.reduceToNat,reduceCtorEq,yH]
    refine an.ne (fun _=>?_) (fun hc=>absurd hc (by decide))
    simp (disch:=omega) only [↓wr,↓reduceIte,wq,ah,ag,aj,ab,ae,af,ai,isNil,Nat.reduceEqDiff,Nat.reduceAdd,Nat.reduceLT,Nat.reduceLeDiff,Int.reduceNeg,Int.reduceToNat,reduceCtorEq,yH]
    rw[hb] at h2
    rw[if_pos (by simpa using h2)] at hA
    intro h' _
    rw[hA]; exact fi (x:=([],9)) (.emp _)
  · simp (disch:=omega) only [↓wr,↓reduceIte,wq,ah,ag,aj,ab,ae,af,ai,isNil,Nat.reduceEqDiff,Nat.reduceAdd,Nat.reduceLT,Nat.reduceLeDiff,Int.reduceNeg,Int.reduceToNat,reduceCtorEq,yH]
    refine an.ne (fun _=>?_) (fun hc=>absurd hc (by decide))
    simp (disch:=omega) only [↓wr,↓reduceIte,wq,ah,ag,aj,ab,ae,af,ai,isNil,Nat.reduceEqDiff,Nat.reduceAdd,Nat.reduceLT,Nat.reduceLeDiff,Int.reduceNeg,Int.reduceToNat,reduceCtorEq,yH]
    rw[hb] at h2
    have hk:¬ (aX (ar g) n.toNat).bb < 0:=by simpa using h2
    obtain ⟨s1,s2⟩:=yK h0 (show bj (ar g) n.toNat by unfold bj; omega)
    rw[if_neg hk,if_pos (by omega)] at hA
    intro h' _
    rw[hA]; exact fi (x:=([],13)) (.emp _)
  · rw[hb] at h2
    have hk:¬ (aX (ar g) n.toNat).bb < 0:=by simpa using h2
    obtain ⟨s1,s2⟩:=yK h0 (show bj (ar g) n.toNat by unfold bj; omega)
    rw[if_neg hk,if_neg (by omega)] at hA
    have hbo:=ho.is 0 rfl (by simp)
    simp (disch:=omega) only [↓wr,↓reduceIte,wq,ah,ag,aj,ab,ae,af,ai,isNil,Nat.reduceEqDiff,Nat.reduceAdd,Nat.reduceLT,Nat.reduceLeDiff,Int.reduceNeg,Int.reduceToNat,reduceCtorEq,hbo,fJ]
    refine an.ne (fun hc=>absurd rfl hc) (fun _=>?_)
    simp (disch:=omega) only [↓wr,↓reduceIte,wq,ah,ag,aj,ab,ae,af,ai,isNil,Nat.reduceEqDiff,Nat.reduceAdd,Nat.reduceLT,Nat.reduceLeDiff,Int.reduceNeg,Int.reduceToNat,reduceCtorEq,hbo,fJ]
    intro h' hh
    rw[hA]; exact fi (x:=(_,0)) (jX (by rw[hh]; exact ho.own 1 rfl))
end Gv
set_option linter.unusedSimpArgs false
set_option maxRecDepth 100000
namespace Gv
open Go Go.Proofs
def rj:SC :=
  .seq (ak [aS 26 .lss 25 24]) <|
  .seq (.cond (.tmp 26) (.skip) (.exit 0)) <|
  .seq (.block 1 (.seq (ak [aa 27 25,bo 28 1 23 25,aq 29 28,aa 11 27,aa 12 29]) <|
  .seq (.seq (ak [aa 30 12,aA 31 .geq 30 0]) <|
  .cond (.tmp 31) (.exit 1) (.skip)) <|
  .seq (ak [aa 32 3,aa 13 32]) <|
  .seq (.seq (ak [aa 33 11,aa 34 2,aS 35 .neq 33 34]) <|
  .cond (.tmp 35) (.seq (ak [aZ 37 4 4,aa 38 12,((some 39),.op (.arith .sub (.val (.val (.int .i64 (-1)))) (.tmp 38))),aK 40 169 [37,39],aa 36 40,b6 41 0 36,b6 42 1 36,aa 14 41,aa 15 42]) <|
  .seq (.seq (ak [aa 43 15,aA 44 .neq 43 0]) <|
  .cond (.tmp 44) (.seq (ak [((some 8),.op (.bd (.val (.emp 1)))),aW 9 false]) <|
  .ret) (.skip)) <|
  ak [aa 45 14,aa 13 45]) (.skip)) <|
  ak [aa 46 10,aa 47 13,((some 48),.op (.bE 2 1 [(.emp 1)] [(0,(.tmp 46)),(1,(.tmp 47))])),aK 49 76 [48],aa 10 49])) <|
  ak [aA 50 .add 25 1,aa 25 50]
def uR:SF:=⟨.seq (ak [c8 4 0,((some 8),.op (.bd (.val (.emp 1)))),aW 9 false]) <|
  .seq (ak [aa 16 1,((some 17),.op (.bE 1 1 [(.val (.int .i64 0))] [(0,(.tmp 16))])),aa 10 17]) <|
  .seq (.seq (ak [ao 18 2 4,aq 19 18,aa 20 1,bo 21 3 19 20,ao 22 1 21,aq 23 22,aQ 24 23,aI 25 0]) <|
  .block 0 (.loop rj)) <|
  .seq (ak [aa 51 10,aa 52 10,aQ 53 52,aA 54 .leq 53 300,aa 8 51,aa 9 54]) <|
  .ret,
  [.tmp 8,.tmp 9],55⟩
theorem xu:aV Tryz.prog 110 [4]=some uR:=by kernel_rfl
set_option maxHeartbeats 4000000 in
theorem Bc (g:al) (hg:g.Ok) (hsm:g.Small) (hf:g.iJ) (k:Nat) (hk:k < g.rules.length) (p:Int) (hp:bT p) (inn:List Int) (hi:inn.length≤300) :
    cr Tryz.prog 110 [.agg (av g),gi k,gi p,encI inn] (.bg [encI (ef g k p inn).1,gb (ef g k p inn).2]):=by
  refine cr.of (by
    intro v hv; simp at hv
    rcases hv with rfl | rfl | rfl | rfl
    · exact dp _ (dD g)
    · exact .val _
    · exact .val _
    · exact du _) ?_
  refine aB.of mixed xu ?_
  have hR:g.rules[k]?=some (g.rules[k]'(by omega)):=List.getElem?_eq_getElem (by omega)
  have hmr:=List.mem_of_getElem? hR
  have hrt:pQ g k=(g.rules[k]'hk).right:=by simp[pQ,hR]
  generalize g.rules[k]'hk=R at hR hmr hrt
  have hrw:=hg.bb R hmr
  have hr6:=hf.right R hmr
  have hrl:=hf.rules
  unfold ef
  rw[hrt]
  simp (disch:=omega) only [↓wr,↓reduceIte,wq,ah,ag,aj,ab,ae,af,ai,isNil,Nat.reduceEqDiff,Nat.reduceAdd,Nat.reduceLT,Nat.reduceLeDiff,Int.reduceNeg,Int.reduceToNat,reduceCtorEq,uR,av,encS,encI,bf,List.getElem?_map,hR,Option.map_some]
  intro m
  refine bw.up R.right.length (fun i T H'=>∃ u a,cb g p inn 0 (R.right.take i)=some a∧aO H' u 1 (bY (k :: a))∧T 2=gi p∧T 3=encI inn∧T 4=.aR (av g) 0∧T 10=u∧T 23=encI R.right∧T 24=gi R.right.length∧T 25=gi i) ?_ ?_
  · refine ⟨_,[],rfl,?_,rfl,rfl,rfl,rfl,rfl,rfl,rfl⟩
    exact ((bD.nil (H:=fun _=>bN.dead)).new (n:=m) rfl 1 [[gi k]]).head
  · rintro i j T H1 hj ⟨u,a,ha,ho,t2,t3,t4,t10,t23,t24,t25⟩
    simp (disch:=omega) only [↓wr,↓reduceIte,wq,ah,ag,aj,ab,ae,af,ai,isNil,Nat.reduceEqDiff,Nat.reduceAdd,Nat.reduceLT,Nat.reduceLeDiff,Int.reduceNeg,Int.reduceToNat,reduceCtorEq,rj,t2,t3,t4,t10,t23,t24,t25,encI]
    have hal:=FL hi _ _ _ ha
    simp only[List.length_take] at hal
    refine an.dec (fun hc=>?_) (fun hc=>?_)
    · have h2:R.right[i]?=some (R.right[i]'(by omega)):=List.getElem?_eq_getElem (by omega)
      have htk:R.right.take (i+1)=R.right.take i ++ [R.right[i]'(by omega)]:=by rw[List.take_add_one,h2]; rfl
      have hs64:=hrw.2.2.2 _ (List.mem_of_getElem? h2)
      generalize R.right[i]'(by omega)=s at h2 htk hs64
      unfold bT at hs64
      have hap:=xx (g:=g) (p:=p) (inn:=inn) (R.right.take i) [s] 0
      have ei:(0:Int)+((R.right.take i).length:Nat)=i:=by simp; omega
      rw[← htk,ha,ei] at hap
      simp only[cb,Option.map_some,List.append_nil] at hap
      simp (disch:=omega) only [↓wr,↓reduceIte,wq,ah,ag,aj,ab,ae,af,ai,isNil,Nat.reduceEqDiff,Nat.reduceAdd,Nat.reduceLT,Nat.reduceLeDiff,Int.reduceNeg,Int.reduceToNat,reduceCtorEq,t2,t3,t4,t10,t23,t24,t25,encI,List.getElem?_map,h2,Option.map_some]
      refine an.dec (fun hs=>?_) (fun hs=>?_)
      · simp (disch:=omega) only [↓wr,↓reduceIte,wq,ah,ag,aj,ab,ae,af,ai,isNil,Nat.reduceEqDiff,Nat.reduceAdd,Nat.reduceLT,Nat.reduceLeDiff,Int.reduceNeg,Int.reduceToNat,reduceCtorEq,t2,t3,t4,t10,t23,t24,t25]
        rw[if_pos hs] at hap
        exact aT hj (by omega) ⟨u,a,by simpa using hap,ho,t2,t3,t4,t10,t23,t24,rfl⟩
      · rw[if_neg hs] at hap
        simp (disch:=omega) only [↓wr,↓reduceIte,wq,ah,ag,aj,ab,ae,af,ai,isNil,Nat.reduceEqDiff,Nat.reduceAdd,Nat.reduceLT,Nat.reduceLeDiff,Int.reduceNeg,Int.reduceToNat,reduceCtorEq,t2,t3,t4,t10,t23,t24,t25,encI]
        refine an.ne (fun he=>?_) (fun he=>?_)
        rotate_left
        · simp (disch:=omega) only [↓wr,↓reduceIte,wq,ah,ag,aj,ab,ae,af,ai,isNil,Nat.reduceEqDiff,Nat.reduceAdd,Nat.reduceLT,Nat.reduceLeDiff,Int.reduceNeg,Int.reduceToNat,reduceCtorEq,t2,t3,t4,t10,t23,t24,t25,encI]
          rw[if_pos he] at hap
          have cu:=aO.cells ho
          have ck:=aO.oQ ho
          simp (disch:=omega) only [↓wr,↓reduceIte,wq,ah,ag,aj,ab,ae,af,ai,isNil,Nat.reduceEqDiff,Nat.reduceAdd,Nat.reduceLT,Nat.reduceLeDiff,Int.reduceNeg,Int.reduceToNat,reduceCtorEq,t2,t3,t4,t10,t23,t24,t25,cu,ck]
          intro q hq
          have hcc:=zt [(u,(k:Int) :: a),(encI (inn),inn)] q (H1.set q (.arr 1 [[u],[encI (inn)]])) (by simp[View.set]) (by
            intro x hx
            simp only[List.mem_cons,List.not_mem_nil,or_false] at hx
            rcases hx with rfl | rfl
            · exact .inr (ho.other (o:=.arr 1 [[u],[encI (inn)]]) (fun e=>by have e2:=(ho.live e).1; rw[hq] at e2; simp at e2))
            · exact .inl rfl) (by simp; omega) (by simp)
          simp only[encI] at hcc
          refine aF.gH (hcc.mono ?_)
          rintro r H2 ⟨o2,_⟩
          simp (disch:=omega) only [↓wr,↓reduceIte,wq,ah,ag,aj,ab,ae,af,ai,isNil,Nat.reduceEqDiff,Nat.reduceAdd,Nat.reduceLT,Nat.reduceLeDiff,Int.reduceNeg,Int.reduceToNat,reduceCtorEq,t2,t3,t4,t10,t23,t24,t25]
          refine aT hj (by omega) ⟨r,a ++ inn,by simpa using hap,?_,t2,t3,t4,rfl,t23,t24,rfl⟩
          simpa using o2
        · rw[if_neg he] at hap
          simp (disch:=omega) only [↓wr,↓reduceIte,wq,ah,ag,aj,ab,ae,af,ai,isNil,Nat.reduceEqDiff,Nat.reduceAdd,Nat.reduceLT,Nat.reduceLeDiff,Int.reduceNeg,Int.reduceToNat,reduceCtorEq,t2,t3,t4,t10,t23,t24,t25,encI,List.getElem?_map,h2,Option.map_some,av,encS]
          have hcall:=(JW g hg hsm (-1 - s) (by unfold bT; omega)).pure
          have ht:=BG g (-1 - s)
          simp only[av,encS,mh,encI] at hcall
          refine aF.pure hcall (by kernel_rfl) ?_
          simp (disch:=omega) only [↓wr,↓reduceIte,wq,ah,ag,aj,ab,ae,af,ai,isNil,Nat.reduceEqDiff,Nat.reduceAdd,Nat.reduceLT,Nat.reduceLeDiff,Int.reduceNeg,Int.reduceToNat,reduceCtorEq]
          refine an.ne (fun h0=>?_) (fun h0=>?_)
          · simp (disch:=omega) only [↓wr,↓reduceIte,wq,ah,ag,aj,ab,ae,af,ai,isNil,Nat.reduceEqDiff,Nat.reduceAdd,Nat.reduceLT,Nat.reduceLeDiff,Int.reduceNeg,Int.reduceToNat,reduceCtorEq]
            intro h' _
            rw[if_neg h0] at hap
            have e:=xx (g:=g) (p:=p) (inn:=inn) (R.right.take (i+1)) (R.right.drop (i+1)) 0
            rw[List.take_append_drop,hap] at e
            simp only[Option.map_none] at e
            rw[e]
            exact BJ (x:=([],false)) (.emp _)
          · rw[if_pos h0] at hap
            simp (disch:=omega) only [↓wr,↓reduceIte,wq,ah,ag,aj,ab,ae,af,ai,isNil,Nat.reduceEqDiff,Nat.reduceAdd,Nat.reduceLT,Nat.reduceLeDiff,Int.reduceNeg,Int.reduceToNat,reduceCtorEq,t2,t3,t4,t10,t23,t24,t25]
            have cu:=aO.cells ho
            have ck:=aO.oQ ho
            simp (disch:=omega) only [↓wr,↓reduceIte,wq,ah,ag,aj,ab,ae,af,ai,isNil,Nat.reduceEqDiff,Nat.reduceAdd,Nat.reduceLT,Nat.reduceLeDiff,Int.reduceNeg,Int.reduceToNat,reduceCtorEq,t2,t3,t4,t10,t23,t24,t25,cu,ck]
            intro q hq
            have hcc:=zt [(u,(k:Int) :: a),(encI ((fS g (-1 - s)).1),(fS g (-1 - s)).1)] q (H1.set q (.arr 1 [[u],[encI ((fS g (-1 - s)).1)]])) (by simp[View.set]) (by
              intro x hx
              simp only[List.mem_cons,List.not_mem_nil,or_false] at hx
              rcases hx with rfl | rfl
              · exact .inr (ho.other (o:=.arr 1 [[u],[encI ((fS g (-1 - s)).1)]]) (fun e=>by have e2:=(ho.live e).1; rw[hq] at e2; simp at e2))
              · exact .inl rfl) (by simp; omega) (by simp)
            simp only[encI] at hcc
            refine aF.gH (hcc.mono ?_)
            rintro r H2 ⟨o2,_⟩
            simp (disch:=omega) only [↓wr,↓reduceIte,wq,ah,ag,aj,ab,ae,af,ai,isNil,Nat.reduceEqDiff,Nat.reduceAdd,Nat.reduceLT,Nat.reduceLeDiff,Int.reduceNeg,Int.reduceToNat,reduceCtorEq,t2,t3,t4,t10,t23,t24,t25]
            refine aT hj (by omega) ⟨r,a ++ (fS g (-1 - s)).1,by simpa using hap,?_,t2,t3,t4,rfl,t23,t24,rfl⟩
            simpa using o2
    · rw[List.take_of_length_le (by omega)] at ha
      have l2:=aO.len ho
      simp (disch:=omega) only [↓wr,↓reduceIte,wq,ah,ag,aj,ab,ae,af,ai,isNil,Nat.reduceEqDiff,Nat.reduceAdd,Nat.reduceLT,Nat.reduceLeDiff,Int.reduceNeg,Int.reduceToNat,reduceCtorEq,t2,t3,t4,t10,t23,t24,t25,l2]
      rintro h' rfl
      rw[ha]
      have f1:=BJ (h:=h') (u:=u) (x:=((k:Int) :: a,decide (((k:Int) :: a).length≤300))) (jX ho)
      have e:(decide ((((bY ((k:Int) :: a)).length:Nat):Int)≤300))=decide (((k:Int) :: a).length≤300):=by
        apply decide_eq_decide.2; simp; omega
      simp[encI] at f1 e ⊢
      rw[decide_eq_decide.2 e]
      exact f1
end Gv
set_option linter.unusedSimpArgs false
set_option maxRecDepth 100000
namespace Gv
open Go Go.Proofs
theorem HI {F:List Way} {w:Way} {n:Int} : lookW (F ++ [w]) n=match lookW F n with
    | some x=>some x
    | none=>if w.bU=n then some w else none:=by
  unfold lookW
  rw[List.find?_append]
  cases h:F.find? fun x=>x.bU == n with
  | some x=>rfl
  | none =>
    simp only[Option.none_or,List.find?_cons,List.find?_nil]
    by_cases e:w.bU=n
    · simp[e]
    · have:(w.bU == n)=false:=by simpa using e
      rw[this]; simp[e]
theorem Al {F:List Way} {n:Int} (h:n ∉ bF F):lookW F n=none:=by
  rw[lookW,List.find?_eq_none]
  intro x hx e
  exact h (List.mem_map.2 ⟨x,hx,by simpa using e⟩)
end Gv
set_option linter.unusedSimpArgs false
set_option maxRecDepth 100000
namespace Gv
open Go Go.Proofs
theorem KP {g:al} (hf:g.iJ) (i:Nat):c5 g (dT g i)∧(dT g i).length≤g.ax.length:=by
  have h:=(CX g i).1
  exact ⟨h,h.len ⟨hf.gY,hf.start⟩ fun R hR s hs hn=>by
    have:=hf.sym R hR s hs
    unfold iA at this
    rw[if_neg (by omega)] at this
    simpa using this⟩
theorem c5.le {g:al} (hf:g.iJ) {F:List Way} (h:c5 g F):F.length≤g.ax.length :=
  h.len ⟨hf.gY,hf.start⟩ fun R hR s hs hn=>by
    have:=hf.sym R hR s hs
    unfold iA at this
    rw[if_neg (by omega)] at this
    simpa using this
theorem Ln {g:al} {i:Nat} (h:(dT g i).length≤i) (hi:i≤g.ax.length):eR g=dT g i:=by
  have:=CE h (g.ax.length - i)
  rw[show i+(g.ax.length - i)=g.ax.length by omega] at this
  exact this
end Gv
set_option linter.unusedSimpArgs false
set_option maxRecDepth 100000
namespace Gv
open Go Go.Proofs
theorem F8 {g:al} {F:List Way} (hF:c5 g F):∀ (f:Nat) (n:Int) (x:List Int × Bool),n∈bF F→dc F n≤f→bW g F f n x=bW g F (dc F n) n x:=by
  intro f
  induction f using Nat.strongRecOn with
  | _ f ih =>
    intro n x hn hf
    cases f with
    | zero=>rw[show dc F n=0 by omega]
    | succ f =>
      by_cases he:dc F n=f+1
      · rw[he]
      by_cases hx:x.2=true
      · by_cases hs:n=g.start
        · subst hs
          have h1:=kK hF
          have e1:∀ d,bW g F d g.start x=x:=fun d=>by
            cases d with
            | zero=>rw[bW]
            | succ d=>rw[bW,if_pos hx,h1]; simp only; rw[if_neg (by omega)]
          rw[e1,e1]
        · obtain ⟨k,j,R,h1,h2,h3,h4,h5,h6⟩:=ux hF hn hs
          have e1:∀ d,bW g F (d+1) n x=bW g F d R.left (ef g k j x.1):=fun d=>by
            rw[bW,if_pos hx,h1]; simp only; rw[if_pos (by omega),(jd h2).2]
          obtain ⟨m,hm⟩:∃ m,dc F n=m+1:=⟨dc F n - 1,by omega⟩
          rw[e1,hm,e1,ih f (by omega) _ _ h5 (by omega),ih m (by omega) _ _ h5 (by omega)]
      · have e1:∀ d,bW g F d n x=x:=fun d=>by
          cases d with
          | zero=>rw[bW]
          | succ d=>rw[bW,if_neg hx]
        rw[e1,e1]
theorem yr {g:al} {F:List Way} (hF:c5 g F) {n:Int} {x:List Int × Bool} (h:x.2=false∨n=g.start):bW g F (dc F n) n x=x:=by
  cases hd:dc F n with
  | zero=>rw[bW]
  | succ d =>
    rw[bW]
    rcases h with h | h
    · rw[if_neg (by rw[h]; simp)]
    · subst h
      split
      · rw[kK hF]; simp only; rw[if_neg (by omega)]
      · rfl
theorem FJ {g:al} {F:List Way} (hF:c5 g F) {n:Int} {x:List Int × Bool} (hn:n∈bF F) (hs:n≠g.start) (hx:x.2=true) :
    ∃ (k j:Nat) (R:aJ),lookW F n=some ⟨n,k,j⟩∧g.rules[k]?=some R∧R.right[j]?=some (-1 - n)∧0≤n∧R.left∈bF F∧dc F R.left < dc F n∧bW g F (dc F n) n x=bW g F (dc F R.left) R.left (ef g k j x.1):=by
  obtain ⟨k,j,R,h1,h2,h3,h4,h5,h6⟩:=ux hF hn hs
  refine ⟨k,j,R,h1,h2,h3,h4,h5,h6,?_⟩
  obtain ⟨m,hm⟩:∃ m,dc F n=m+1:=⟨dc F n - 1,by omega⟩
  rw[hm,bW,if_pos hx,h1]
  simp only
  rw[if_pos (by omega),(jd h2).2,F8 hF m _ _ h5 (by omega)]
theorem Et (x:List Int × Int):Tree (mh x):=.bg _ fun i hi=>by
  match i,hi with
  | 0,_=>exact du _
  | 1,_=>exact .val _
theorem Gn {g:al} (h:isRed g=true) {i:Nat} (hi:i < g.rules.length) (hc:(dP g i).2=true):(jJ g (dP g i).1).2=0∧(dP g i).1.length≤300:=by
  obtain ⟨w,h1,h2⟩:=Bl h hi hc
  obtain ⟨x,h3,_⟩:=AJ (ja h).1 h1 h2
  exact ⟨by rw[jJ,h3],h2⟩
theorem D9 (g:al) (i:Int):∀ v∈[V.agg (av g),gi i],Tree v:=by
  intro v hv; simp at hv
  rcases hv with rfl | rfl
  · exact dp _ (dD g)
  · exact .val _
end Gv
set_option linter.unusedSimpArgs false
set_option maxRecDepth 100000
namespace Gv
open Go Go.Proofs
def A3 (x:List (List Int) × Int):V:=.bg [bQ x.1,gi x.2]
abbrev Cu (l:List (List Int)):List (List V):=l.map fun w=>[encI w]
theorem vI {g:al} {i:Nat} (h:(bG g i).2≠0):∀ d,bG g (i+d)=bG g i
  | 0=>rfl
  | d+1=>by
    have ih:=vI h d
    rw[← Nat.add_assoc,bG,ih,if_pos h]
theorem Fy {g:al} {i n:Nat} (h:(bG g i).2≠0) (hi:i≤n):bG g n=bG g i:=by
  have:=vI h (n - i)
  rwa [show i+(n - i)=n by omega] at this
theorem La {l:List (List Int)} : ∀ e∈Cu l,∀ v∈e,Tree v:=by
  intro e he v hv
  simp only[List.mem_map] at he
  obtain ⟨w,_,rfl⟩:=he
  simp at hv; subst hv
  exact du w
theorem wZ {h:aC} {u:V} {x:List (List Int) × Int} (ho:aO h.view u 1 (Cu x.1)):Fr h (.bg [u,gi x.2]) (A3 x):=.bg _ _ rfl fun j hj=>match j,hj with
  | 0,_=>dt.own ho La h rfl
  | 1,_=>.tree _ (.val _)
  | n+2,hj=>absurd hj (by simp only[List.length_cons,List.length_nil]; omega)
theorem Mv (t:List Int):(([[encI t]]:List (List V)).all fun e=>e.length == 1 && e.all aM)=true:=by simp[aM,encI]
end Gv
set_option linter.unusedSimpArgs false
set_option maxRecDepth 100000
namespace Gv
open Go Go.Proofs
def eA (H:View) (u:V) (l:List Int):Prop:=∃ (id off:Nat) (es:List (List V)),u=.sl id off l.length 1∧H id=.arr 1 es∧off+l.length≤es.length∧(es.drop off).take l.length=bY l
theorem eA.len {H:View} {u:V} {l:List Int} (h:eA H u l):dB u=some l.length:=by
  obtain ⟨id,off,es,rfl,_⟩:=h; rfl
theorem eA.keep {H H':View} {u:V} {l:List Int} (h:eA H u l) (hk:∀ id es,H id=.arr 1 es→H' id=H id):eA H' u l:=by
  obtain ⟨id,off,es,h1,h2,h3,h4⟩:=h
  exact ⟨id,off,es,h1,by rw[hk id es h2]; exact h2,h3,h4⟩
theorem eA.fresh {H:View} {u:V} {l:List Int} (h:eA H u l) {n:Nat} {o:bN} (hn:H n=.dead):eA (H.set n o) u l :=
  h.keep fun id es hid=>by
    have:id≠n:=by rintro rfl; rw[hn] at hid; simp at hid
    simp[View.set,this]
theorem eA.tJ {H:View} {u:V} {l:List Int} (h:eA H u l) {q c:Nat} {es:List (V × V × Nat)} {o:bN} (hq:H q=.map es c):eA (H.set q o) u l :=
  h.keep fun id es' hid=>by
    have:id≠q:=by rintro rfl; rw[hq] at hid; simp at hid
    simp[View.set,this]
theorem eA.own {H:View} {u:V} {l:List Int} (h:aO H u 1 (bY l)) (hl:l≠[]):eA H u l:=by
  rcases h with ⟨e,_⟩ | ⟨n,rfl,hn⟩
  · rw[List.map_eq_nil_iff] at e; exact absurd e hl
  · exact ⟨n,0,_,by simp,hn,by simp,by rw[List.drop_zero,List.take_of_length_le (by simp)]⟩
theorem eA.at {H:View} {u:V} {x:Int} {l:List Int} (h:eA H u (x :: l)):∃ (id off:Nat) (es:List (List V)),u=.sl id off (l.length+1) 1∧H id=.arr 1 es∧off < es.length∧es.getD off []=[gi x]∧off+(l.length+1)≤es.length:=by
  obtain ⟨id,off,es,h1,h2,h3,h4⟩:=h
  simp only[List.length_cons] at h1 h3 h4
  refine ⟨id,off,es,h1,h2,by omega,?_,h3⟩
  have h5:=congrArg (fun z=>z[0]?) h4
  simp at h5
  have:es[off]?=some (es[off]'(by omega)):=List.getElem?_eq_getElem (by omega)
  rw[this] at h5
  simp at h5
  rw[List.getD_eq_getElem?_getD,this,h5]; rfl
theorem eA.next {H:View} {id off k:Nat} {x:Int} {l:List Int} (h:eA H (.sl id off k 1) (x :: l)):eA H (.sl id (off+1) (k - 1) 1) l:=by
  obtain ⟨id',off',es,h1,h2,h3,h4⟩:=h
  simp only[V.sl.injEq,and_true] at h1
  obtain ⟨rfl,rfl,rfl⟩:=h1
  simp only[List.length_cons] at h3 h4 ⊢
  refine ⟨id,off+1,es,by simp,h2,by omega,?_⟩
  have h5:=congrArg (List.drop 1) h4
  rw[List.drop_take,List.drop_drop] at h5
  simpa using h5
theorem Fs {bytes:Nat} {u:V} {l xs:List Int} {H:View} {K:V→View→Prop} {w:cm (H,K)} (ho:eA H u l) (hx:xs≠[])
    (hl:(l.length+xs.length) * bytes < aL) (hl2:l.length+xs.length < aL) (hk:∀ u' H',aO H' u' 1 (bY (l ++ xs))→Left H H' u u'→K u' H'):k9 1 bytes u (bY xs) H K w:=by
  have he:(bY xs).isEmpty=false:=by cases xs with | nil=>exact absurd rfl hx | cons=>rfl
  obtain ⟨id,off,es,rfl,h2,h3,h4⟩:=ho
  rw[oz _ _ _ _ _ _ _ _ _ _ he,h2]
  refine ⟨by simp[List.all_map,aM],⟨h3,rfl,by simpa using hl,by simpa using hl2⟩,fun m hm=>hk _ _ ?_ ?_⟩
  · refine .inr ⟨m,by simp,?_⟩
    rw[h4]; simp[View.set]
  · intro id' hid ho
    have e:id'≠m:=by rintro rfl; exact hid hm
    have e2:id'≠id:=by rintro rfl; exact ho rfl
    exact ⟨by simp[View.set,e,e2],by simp[owner,Ne.symm e]⟩
def yX (H:View) (w:Option Way) (v:Option V):Prop:=match w with
  | none=>v=none
  | some w=>(w.bb = -1∧v=some (.val (.pointer none)))∨(0≤w.bb∧∃ p,v=some (.ptr p 0 0)∧H p=.arr 2 [[gi w.bb,gi w.place]])
def eh (H:View) (F:List Way) (m:cZ Int):Prop:=∀ n,yX H (lookW F n) (getM m n)
theorem yX.keep {H H':View} {w:Option Way} {v:Option V} (h:yX H w v) (hk:∀ id es,H id=.arr 2 es→H' id=H id):yX H' w v:=by
  cases w with
  | none=>exact h
  | some w =>
    rcases h with h | ⟨h1,p,h2,h3⟩
    · exact .inl h
    · exact .inr ⟨h1,p,h2,by rw[hk p _ h3]; exact h3⟩
theorem eh.keep {H H':View} {F:List Way} {m:cZ Int} (h:eh H F m) (hk:∀ id es,H id=.arr 2 es→H' id=H id):eh H' F m:=fun n=>(h n).keep hk
theorem eh.fresh {H:View} {F:List Way} {m:cZ Int} (h:eh H F m) {n:Nat} {o:bN} (hn:H n=.dead):eh (H.set n o) F m :=
  h.keep fun id es hid=>by
    have:id≠n:=by rintro rfl; rw[hn] at hid; simp at hid
    simp[View.set,this]
theorem eh.tJ {H:View} {F:List Way} {m:cZ Int} (h:eh H F m) {q c:Nat} {es:List (V × V × Nat)} {o:bN} (hq:H q=.map es c):eh (H.set q o) F m :=
  h.keep fun id es' hid=>by
    have:id≠q:=by rintro rfl; rw[hq] at hid; simp at hid
    simp[View.set,this]
theorem x4 {H:View} {u:V} {l:List Int} (h:eA H u l) {id:Nat} (hid:owner u=some id):∃ es,H id=.arr 1 es:=by
  obtain ⟨i,off,es,rfl,h2,_⟩:=h
  simp[owner] at hid; subst hid
  exact ⟨es,h2⟩
theorem eh.left {H H':View} {F:List Way} {m:cZ Int} (h:eh H F m) {u u':V} {l:List Int} (ht:eA H u l) (hl:Left H H' u u'):eh H' F m :=
  h.keep fun id es hid=>(hl id (by rw[hid]; simp) (fun e=>by obtain ⟨es',h2⟩:=x4 ht e; rw[hid] at h2; simp at h2)).1
theorem JN {H H':View} {u u':V} {l:List Int} {q c:Nat} {es:List (V × V × Nat)} (ht:eA H u l) (hl:Left H H' u u') (hq:H q=.map es c):H' q=.map es c:=by
  rw[(hl q (by rw[hq]; simp) (fun e=>by obtain ⟨es',h2⟩:=x4 ht e; rw[hq] at h2; simp at h2)).1]; exact hq
theorem eh.put {H:View} {F:List Way} {m:cZ Int} (h:eh H F m) {p c k j:Nat} {n:Int} (hn:n ∉ bF F) (hp:H p=.arr 2 [[gi k,gi j]]):eh H (F ++ [⟨n,k,j⟩]) (cA n (.ptr p 0 0) c m):=by
  intro n'
  rw[HI,wg]
  by_cases e:n=n'
  · subst e
    rw[Al hn]
    simp only[if_true,beq_self_eq_true]
    exact .inr ⟨by simp only; omega,p,rfl,hp⟩
  · have e2:(n' == n)=false:=by simpa using Ne.symm e
    rw[e2]
    have h1:=h n'
    cases hl:lookW F n' with
    | some w=>rw[hl] at h1; simpa using h1
    | none =>
      rw[hl] at h1
      simp only
      rw[if_neg e]
      simpa using h1
theorem eh.has {H:View} {F:List Way} {m:cZ Int} (h:eh H F m) (n:Int):(getM m n).isSome=decide (n∈bF F):=by
  have h1:=h n
  by_cases e:n∈bF F
  · obtain ⟨x,hx,_⟩:=Em e
    rw[hx] at h1
    rcases h1 with ⟨_,h1⟩ | ⟨_,p,h1,_⟩ <;> rw[h1] <;> simp[e]
  · rw[Al e] at h1
    have h2:getM m n=none:=h1
    rw[h2]; simp[e]
theorem FK {id off k:Nat} : fX 1 (.sl id off (k+1) 1) (some (.val (.int .i64 1))) none=some (.sl id (off+1) k 1,.none,[]):=by
  simp[fX,bound,asNat]
def rb:SC :=
  .seq (ak [aS 41 .lss 40 39]) <|
  .seq (.cond (.tmp 41) (.skip) (.exit 4)) <|
  .seq (.block 5 (.seq (ak [aa 42 40,bo 43 1 38 40,aq 44 43,aa 7 42,aa 8 44]) <|
  .seq (ak [aa 46 3,aa 47 8,((some 48),.op (.arith .sub (.val (.val (.int .i64 (-1)))) (.tmp 47))),((some 49),.op (.old (.lookup 175 (.tmp 46) (.tmp 48) true) 236)),aa 45 49,b6 50 0 45,b6 51 1 45,aa 9 50,aa 10 51]) <|
  .seq (.region false [⟨none,[aa 52 8,aA 53 .lss 52 0,aa 54 53]⟩,⟨(some (54,true)),[aa 55 10,cn 56 55]⟩,⟨none,[bI 57 54 56]⟩]) <|
  .cond (.tmp 57) (.seq (ak [aa 58 3,aa 59 8,((some 60),.op (.arith .sub (.val (.val (.int .i64 (-1)))) (.tmp 59))),aa 61 5,aa 62 7,((some 63),.op (.build [(.val (.int .i64 0)),(.val (.int .i64 0))] [(0,1,(.tmp 61)),(1,1,(.tmp 62))])),((some 64),.op (.box (.tmp 63))),(none,.op (.old (.mapUpdate 175 (.tmp 58) (.tmp 60) (.tmp 64)) 0))]) <|
  ak [aa 65 4,aa 66 8,((some 67),.op (.arith .sub (.val (.val (.int .i64 (-1)))) (.tmp 66))),((some 68),.op (.bE 1 1 [(.val (.int .i64 0))] [(0,(.tmp 67))])),((some 69),.op (.app 1 8 (.tmp 65) (.tmp 68))),aa 4 69]) (.skip))) <|
  ak [aA 70 .add 40 1,aa 40 70]
def qP:SC :=
  .seq (ak [aS 27 .lss 26 25]) <|
  .seq (.cond (.tmp 27) (.skip) (.exit 2)) <|
  .seq (.block 3 (.seq (ak [aa 28 26,bo 29 3 24 26,aZ 30 3 29,((some 6),.op (.alloc [(.val (.int .i64 0)),(.emp 1),(.val (.int .i64 0))])),aa 5 28,(none,.op (.store 3 (.tmp 6) (.tmp 30)))]) <|
  .seq (.seq (ak [ao 31 0 6,aq 32 31,aa 33 4,((some 34),.op (.idx 1 (.tmp 33) (.val (.val (.int .i64 0))))),aq 35 34,aS 36 .neq 32 35]) <|
  .cond (.tmp 36) (.exit 3) (.skip)) <|
  .seq (ak [ao 37 1 6,aq 38 37,aQ 39 38,aI 40 0]) <|
  .block 4 (.loop rb))) <|
  ak [aA 71 .add 26 1,aa 26 71]
def q8:SC :=
  .seq (.seq (ak [aa 18 4,aQ 19 18,aA 20 .gtr 19 0]) <|
  .cond (.tmp 20) (.skip) (.exit 0)) <|
  .seq (.block 1 (.seq (ak [ao 23 2 1,aq 24 23,aQ 25 24,aI 26 0]) <|
  .block 2 (.loop qP))) <|
  ak [aa 21 4,((some 22),.op (.slice 1 (.tmp 21) (some (.val (.val (.int .i64 1)))) none)),aa 4 22]
def uH:SF:=⟨.seq (ak [c8 1 0,((some 2),.op (.bd (.val (.val (.map none)))))]) <|
  .seq (ak [((some 11),.op (.pU)),ao 12 3 1,aq 13 12,(none,.op (.old (.insert 175 (.tmp 11) (.tmp 13) (.const (.pointer none))) 0)),aa 14 11,aa 3 14]) <|
  .seq (.seq (ak [ao 15 3 1,aq 16 15,((some 17),.op (.bE 1 1 [(.val (.int .i64 0))] [(0,(.tmp 16))])),aa 4 17]) <|
  .block 0 (.loop q8)) <|
  .seq (ak [aa 72 3,aa 2 72]) <|
  .ret,
  [.tmp 2],73⟩
theorem xi:aV Tryz.prog 109 [1]=some uH:=by kernel_rfl
set_option maxHeartbeats 8000000 in
theorem KW (g:al) (hg:g.Ok) (hf:g.iJ) (H:View):aB Tryz.prog 109 [.agg (av g)] H fun r H'=>∃ q c m,r=.mp q∧H' q=.map (cE (Value.int .i64) m) c∧eh H' (eR g) m:=by
  refine aB.of mixed xi ?_
  obtain ⟨n1,n2,r1,r2,s1,s2⟩:=And.intro hf.xS (And.intro hf.ax (And.intro hf.CU (And.intro hf.rules (And.intro hf.gY hf.start))))
  simp (disch:=omega) only [↓wr,↓reduceIte,wq,ah,ag,aj,ab,ae,af,ai,isNil,Nat.reduceEqDiff,Nat.reduceAdd,Nat.reduceLT,Nat.reduceLeDiff,Int.reduceNeg,Int.reduceToNat,reduceCtorEq,uH,av,encS]
  intro q hq
  simp (disch:=omega) only [↓wr,↓reduceIte,wq,ah,ag,aj,ab,ae,af,ai,isNil,Nat.reduceEqDiff,Nat.reduceAdd,Nat.reduceLT,Nat.reduceLeDiff,Int.reduceNeg,Int.reduceToNat,reduceCtorEq,Lz]
  refine uV (kt:=3) (et:=177) (by kernel_rfl) (ga .i64 Tryz.underlying3) (id:=q) (c:=0) (m:=[]) (k:=g.start) (v:=.val (.pointer none)) (by simp (disch:=omega) only [↓wr,↓reduceIte,wq,ah,ag,aj,ab,ae,af,ai,isNil,Nat.reduceEqDiff,Nat.reduceAdd,Nat.reduceLT,Nat.reduceLeDiff,Int.reduceNeg,Int.reduceToNat,reduceCtorEq]) (by simp (disch:=omega) only [↓wr,↓reduceIte,wq,ah,ag,aj,ab,ae,af,ai,isNil,Nat.reduceEqDiff,Nat.reduceAdd,Nat.reduceLT,Nat.reduceLeDiff,Int.reduceNeg,Int.reduceToNat,reduceCtorEq]) rfl (by simp[View.set]; rfl) ?_
  intro c'
  simp (disch:=omega) only [↓wr,↓reduceIte,wq,ah,ag,aj,ab,ae,af,ai,isNil,Nat.reduceEqDiff,Nat.reduceAdd,Nat.reduceLT,Nat.reduceLeDiff,Int.reduceNeg,Int.reduceToNat,reduceCtorEq,av,encS]
  intro n hn
  obtain ⟨hnq,_⟩:=dk hn (by simp)
  refine bw.up g.ax.length (fun i T H'=>∃ u m c,eA H' u ((bF (dT g i)).drop i)∧H' q=.map (cE (Value.int .i64) m) c∧eh H' (dT g i) m∧T 1=.aR (av g) 0∧T 3=.mp q∧T 4=u) ?_ ?_
  · refine ⟨.sl n 0 1 1,cA g.start (.val (.pointer none)) 0 [],c',?_,by simp[View.set,Ne.symm hnq],?_,rfl,rfl,rfl⟩
    · exact ⟨n,0,[[gi g.start]],rfl,by simp[View.set],by simp[dT,bF],rfl⟩
    · intro n'
      rw[wg]
      by_cases e:n'=g.start
      · subst e; simp[dT,lookW,yX]
      · simp[dT,lookW,yX,e,Ne.symm e,getM]
  · rintro i k T H' hk ⟨u,m,c,ht,hq',hM,t1,t3,t4⟩
    have lu:=ht.len
    have hW:=KP hf i
    have hkl:(bF (dT g i)).length=(dT g i).length:=by simp[bF]
    simp (disch:=omega) only [↓wr,↓reduceIte,wq,ah,ag,aj,ab,ae,af,ai,isNil,Nat.reduceEqDiff,Nat.reduceAdd,Nat.reduceLT,Nat.reduceLeDiff,Int.reduceNeg,Int.reduceToNat,reduceCtorEq,q8,t1,t3,t4,lu,av,encS,List.length_drop,hkl]
    refine an.dec (fun hc=>?_) (fun hc=>?_)
    · have hil:i < (dT g i).length:=by omega
      have hx:(dT g i)[i]?=some ((dT g i)[i]'hil):=List.getElem?_eq_getElem hil
      generalize (dT g i)[i]'hil=x at hx
      have hst:dT g (i+1)=fj x.bU 0 g.rules (dT g i):=by rw[dT,hx]
      simp (disch:=omega) only [↓wr,↓reduceIte,wq,ah,ag,aj,ab,ae,af,ai,isNil,Nat.reduceEqDiff,Nat.reduceAdd,Nat.reduceLT,Nat.reduceLeDiff,Int.reduceNeg,Int.reduceToNat,reduceCtorEq,t1,t3,t4,av,encS]
      refine bw.up g.rules.length (fun k T H'=>∃ u F m c,F=fj x.bU 0 (g.rules.take k) (dT g i)∧c5 g F∧F[i]?=some x∧eA H' u ((bF F).drop i)∧H' q=.map (cE (Value.int .i64) m) c∧eh H' F m ∧
        T 1=.aR (av g) 0∧T 3=.mp q∧T 4=u∧T 24=.aN (g.rules.map bf)∧T 25=gi g.rules.length∧T 26=gi k) ?_ ?_
      · exact ⟨u,_,m,c,rfl,hW.1,hx,ht,hq',hM,t1,t3,t4,rfl,rfl,rfl⟩
      · rintro kk k2 T2 H2 hk2 ⟨u,F,m,c,hF,hok,hFx,ht,hq',hM,t1,t3,t4,t24,t25,t26⟩
        simp (disch:=omega) only [↓wr,↓reduceIte,wq,ah,ag,aj,ab,ae,af,ai,isNil,Nat.reduceEqDiff,Nat.reduceAdd,Nat.reduceLT,Nat.reduceLeDiff,Int.reduceNeg,Int.reduceToNat,reduceCtorEq,qP,t1,t3,t4,t24,t25,t26,av,encS]
        have hFk:(bF F).drop i=x.bU :: (bF F).drop (i+1):=by
          have hkx:(bF F)[i]?=some x.bU:=by simp[bF,hFx]
          obtain ⟨h1,h2⟩:=List.getElem?_eq_some_iff.1 hkx
          rw[List.drop_eq_getElem_cons h1,h2]
        rw[hFk] at ht
        obtain ⟨id,off,es,hu,hid,hof,hes,hle⟩:=ht.at
        subst hu
        refine an.dec (fun hd=>?_) (fun hd=>?_)
        · have hR:g.rules[kk]?=some (g.rules[kk]'(by omega)):=List.getElem?_eq_getElem (by omega)
          have htk:g.rules.take (kk+1)=g.rules.take kk ++ [g.rules[kk]'(by omega)]:=by rw[List.take_add_one,hR]; rfl
          have hmr:=List.mem_of_getElem? hR
          generalize g.rules[kk]'(by omega)=R at hR htk hmr
          simp (disch:=omega) only [↓wr,↓reduceIte,wq,ah,ag,aj,ab,ae,af,ai,isNil,Nat.reduceEqDiff,Nat.reduceAdd,Nat.reduceLT,Nat.reduceLeDiff,Int.reduceNeg,Int.reduceToNat,reduceCtorEq,t1,t3,t4,t24,t25,t26,bf,List.getElem?_map,hR,Option.map_some]
          intro b hb
          have hib:¬ b=id:=by rintro rfl; rw[hid] at hb; simp at hb
          have hib':¬ id=b:=fun e=>hib e.symm
          simp (disch:=omega) only [↓wr,↓reduceIte,wq,ah,ag,aj,ab,ae,af,ai,isNil,Nat.reduceEqDiff,Nat.reduceAdd,Nat.reduceLT,Nat.reduceLeDiff,Int.reduceNeg,Int.reduceToNat,reduceCtorEq,t1,t3,t4,t24,t25,t26,hib,hib',hid,hes]
          refine ⟨rfl,by omega,hof,?_⟩
          have hsn:fj x.bU 0 (g.rules.take (kk+1)) (dT g i)=kB x.bU kk R F:=by
            rw[htk,vS,← hF]; simp[show min kk g.rules.length=kk by omega]
          rw[set_set]
          have ht':=ht.fresh hb (o:=.arr 3 [[gi R.left,encI R.right,gi R.prec]])
          have hM':=hM.fresh hb (o:=.arr 3 [[gi R.left,encI R.right,gi R.prec]])
          have hqb:q≠b:=by rintro rfl; rw[hq'] at hb; simp at hb
          have hq2:(H2.set b (.arr 3 [[gi R.left,encI R.right,gi R.prec]])) q=.map (cE (Value.int .i64) m) c:=by simp[View.set,hqb,hq']
          refine an.ne (fun hne=>?_) (fun hne=>?_)
          · simp (disch:=omega) only [↓wr,↓reduceIte,wq,ah,ag,aj,ab,ae,af,ai,isNil,Nat.reduceEqDiff,Nat.reduceAdd,Nat.reduceLT,Nat.reduceLeDiff,Int.reduceNeg,Int.reduceToNat,reduceCtorEq,t1,t3,t4,t24,t25,t26]
            exact aT hk2 (by omega) ⟨_,F,m,c,by rw[hsn,kB,if_neg hne],hok,hFx,by rw[hFk]; exact ht',hq2,hM',t1,t3,t4,t24,t25,rfl⟩
          · have hr6:=hf.right R hmr
            have hHb:(H2.set b (.arr 3 [[gi R.left,encI R.right,gi R.prec]])) b=.arr 3 [[gi R.left,encI R.right,gi R.prec]]:=by simp[View.set]
            generalize hH5:H2.set b (.arr 3 [[gi R.left,encI R.right,gi R.prec]])=H5 at ht' hM' hq2 hHb
            simp (disch:=omega) only [↓wr,↓reduceIte,wq,ah,ag,aj,ab,ae,af,ai,isNil,Nat.reduceEqDiff,Nat.reduceAdd,Nat.reduceLT,Nat.reduceLeDiff,Int.reduceNeg,Int.reduceToNat,reduceCtorEq,t1,t3,t4,t24,t25,t26,hHb,encI]
            refine bw.up R.right.length (fun j T H'=>∃ u F2 m c,F2=ic kk 0 (R.right.take j) F∧c5 g F2∧F2[i]?=some x∧eA H' u ((bF F2).drop i)∧H' q=.map (cE (Value.int .i64) m) c∧eh H' F2 m ∧
              T 1=.aR (av g) 0∧T 3=.mp q∧T 4=u∧T 24=.aN (g.rules.map bf)∧T 25=gi g.rules.length∧T 26=gi kk∧T 5=gi kk∧T 38=encI R.right∧T 39=gi R.right.length∧T 40=gi j) ?_ ?_
            · exact ⟨_,F,m,c,rfl,hok,hFx,by rw[hFk]; exact ht',hq2,hM',t1,t3,t4,t24,t25,t26,rfl,rfl,rfl,rfl⟩
            · rintro j k3 T3 H3 hk3 ⟨u,F2,m,c,hF2,hok2,hFx2,ht2,hq3,hM2,t1,t3,t4,t24,t25,t26,t5,t38,t39,t40⟩
              simp (disch:=omega) only [↓wr,↓reduceIte,wq,ah,ag,aj,ab,ae,af,ai,isNil,Nat.reduceEqDiff,Nat.reduceAdd,Nat.reduceLT,Nat.reduceLeDiff,Int.reduceNeg,Int.reduceToNat,reduceCtorEq,rb,t1,t3,t4,t24,t25,t26,t5,t38,t39,t40,encI]
              refine an.dec (fun he=>?_) (fun he=>?_)
              · have hS:R.right[j]?=some (R.right[j]'(by omega)):=List.getElem?_eq_getElem (by omega)
                have htj:R.right.take (j+1)=R.right.take j ++ [R.right[j]'(by omega)]:=by rw[List.take_add_one,hS]; rfl
                have hms:=List.mem_of_getElem? hS
                generalize R.right[j]'(by omega)=s at hS htj hms
                have hss:ic kk 0 (R.right.take (j+1)) F=jx kk j s F2:=by
                  rw[htj,xH,← hF2]; simp[show min j R.right.length=j by omega]
                have h64:=(hg.bb R hmr).2.2.2 s hms
                unfold bT at h64
                have hnx:=DG (k:=kk) (j:=j) hok2 hR hS hFx2 (Eq.symm hne)
                have hlen:=hok2.le hf
                simp (disch:=omega) only [↓wr,↓reduceIte,wq,ah,ag,aj,ab,ae,af,ai,isNil,Nat.reduceEqDiff,Nat.reduceAdd,Nat.reduceLT,Nat.reduceLeDiff,Int.reduceNeg,Int.reduceToNat,reduceCtorEq,t1,t3,t4,t24,t25,t26,t5,t38,t39,t40,encI,List.getElem?_map,hS,Option.map_some]
                refine KC (kt:=3) (et:=177) (z:=.val (.pointer none)) (by kernel_rfl) (by kernel_rfl) (ga .i64 Tryz.underlying3) (id:=q) (c:=c) (m:=m) (k:=-1 - s) (by simp (disch:=omega) only [↓wr,↓reduceIte,wq,ah,ag,aj,ab,ae,af,ai,isNil,Nat.reduceEqDiff,Nat.reduceAdd,Nat.reduceLT,Nat.reduceLeDiff,Int.reduceNeg,Int.reduceToNat,reduceCtorEq,t3]) (by simp (disch:=omega) only [↓wr,↓reduceIte,wq,ah,ag,aj,ab,ae,af,ai,isNil,Nat.reduceEqDiff,Nat.reduceAdd,Nat.reduceLT,Nat.reduceLeDiff,Int.reduceNeg,Int.reduceToNat,reduceCtorEq]) hq3 ?_
                rw[hM2.has]
                simp (disch:=omega) only [↓wr,↓reduceIte,wq,ah,ag,aj,ab,ae,af,ai,isNil,Nat.reduceEqDiff,Nat.reduceAdd,Nat.reduceLT,Nat.reduceLeDiff,Int.reduceNeg,Int.reduceToNat,reduceCtorEq,t1,t3,t4,t24,t25,t26,t5,t38,t39,t40]
                refine an.dec (fun hs=>?_) (fun hs=>?_)
                · simp (disch:=omega) only [↓wr,↓reduceIte,wq,ah,ag,aj,ab,ae,af,ai,isNil,Nat.reduceEqDiff,Nat.reduceAdd,Nat.reduceLT,Nat.reduceLeDiff,Int.reduceNeg,Int.reduceToNat,reduceCtorEq,t1,t3,t4,t24,t25,t26,t5,t38,t39,t40]
                  refine an.dec (fun hmem=>?_) (fun hmem=>?_)
                  · simp (disch:=omega) only [↓wr,↓reduceIte,wq,ah,ag,aj,ab,ae,af,ai,isNil,Nat.reduceEqDiff,Nat.reduceAdd,Nat.reduceLT,Nat.reduceLeDiff,Int.reduceNeg,Int.reduceToNat,reduceCtorEq,t1,t3,t4,t24,t25,t26,t5,t38,t39,t40]
                    exact aT hk3 (by omega) ⟨u,F2,m,c,by rw[hss,jx,if_neg (by rintro ⟨_,h⟩; exact h hmem)],hok2,hFx2,ht2,hq3,hM2,t1,t3,t4,t24,t25,t26,t5,t38,t39,rfl⟩
                  · have hsym:jx kk j s F2=F2 ++ [⟨-1 - s,kk,j⟩]:=by rw[jx,if_pos ⟨by omega,hmem⟩]
                    simp (disch:=omega) only [↓wr,↓reduceIte,wq,ah,ag,aj,ab,ae,af,ai,isNil,Nat.reduceEqDiff,Nat.reduceAdd,Nat.reduceLT,Nat.reduceLeDiff,Int.reduceNeg,Int.reduceToNat,reduceCtorEq,t1,t3,t4,t24,t25,t26,t5,t38,t39,t40]
                    intro p hp
                    have hpq:¬ p=q:=by rintro rfl; rw[hq3] at hp; simp at hp
                    have hqp:¬ q=p:=fun e=>hpq e.symm
                    have M1:=hM2.fresh hp (o:=.arr 2 [[gi kk,gi j]])
                    have T1:=ht2.fresh hp (o:=.arr 2 [[gi kk,gi j]])
                    have q1:(H3.set p (.arr 2 [[gi kk,gi j]])) q=.map (cE (Value.int .i64) m) c:=by simp[View.set,hqp,hq3]
                    have P1:(H3.set p (.arr 2 [[gi kk,gi j]])) p=.arr 2 [[gi kk,gi j]]:=by simp[View.set]
                    refine uV (kt:=3) (et:=177) (by kernel_rfl) (ga .i64 Tryz.underlying3) (id:=q) (c:=c) (m:=m) (k:=-1 - s) (v:=.ptr p 0 0) (by simp (disch:=omega) only [↓wr,↓reduceIte,wq,ah,ag,aj,ab,ae,af,ai,isNil,Nat.reduceEqDiff,Nat.reduceAdd,Nat.reduceLT,Nat.reduceLeDiff,Int.reduceNeg,Int.reduceToNat,reduceCtorEq,t1,t3,t4,t24,t25,t26,t5,t38,t39,t40]) (by simp (disch:=omega) only [↓wr,↓reduceIte,wq,ah,ag,aj,ab,ae,af,ai,isNil,Nat.reduceEqDiff,Nat.reduceAdd,Nat.reduceLT,Nat.reduceLeDiff,Int.reduceNeg,Int.reduceToNat,reduceCtorEq]) (by simp (disch:=omega) only [↓wr,↓reduceIte,wq,ah,ag,aj,ab,ae,af,ai,isNil,Nat.reduceEqDiff,Nat.reduceAdd,Nat.reduceLT,Nat.reduceLeDiff,Int.reduceNeg,Int.reduceToNat,reduceCtorEq]) q1 ?_
                    intro c2
                    have M2:=(M1.put (c:=c) hmem P1).tJ q1 (o:=.map (cE (Value.int .i64) (cA (-1 - s) (.ptr p 0 0) c m)) c2)
                    have T2':=T1.tJ q1 (o:=.map (cE (Value.int .i64) (cA (-1 - s) (.ptr p 0 0) c m)) c2)
                    have q2:((H3.set p (.arr 2 [[gi kk,gi j]])).set q (.map (cE (Value.int .i64) (cA (-1 - s) (.ptr p 0 0) c m)) c2)) q=.map (cE (Value.int .i64) (cA (-1 - s) (.ptr p 0 0) c m)) c2:=by simp[View.set]
                    generalize hH6:(H3.set p (.arr 2 [[gi kk,gi j]])).set q (.map (cE (Value.int .i64) (cA (-1 - s) (.ptr p 0 0) c m)) c2)=H6 at M2 T2' q2
                    simp (disch:=omega) only [↓wr,↓reduceIte,wq,ah,ag,aj,ab,ae,af,ai,isNil,Nat.reduceEqDiff,Nat.reduceAdd,Nat.reduceLT,Nat.reduceLeDiff,Int.reduceNeg,Int.reduceToNat,reduceCtorEq,t1,t3,t4,t24,t25,t26,t5,t38,t39,t40,hH6]
                    intro n2 hn2
                    simp (disch:=omega) only [↓wr,↓reduceIte,wq,ah,ag,aj,ab,ae,af,ai,isNil,Nat.reduceEqDiff,Nat.reduceAdd,Nat.reduceLT,Nat.reduceLeDiff,Int.reduceNeg,Int.reduceToNat,reduceCtorEq,t1,t3,t4,t24,t25,t26,t5,t38,t39,t40,dg]
                    have T3':=T2'.fresh hn2 (o:=.arr 1 [[gi (-1 - s)]])
                    have M3:=M2.fresh hn2 (o:=.arr 1 [[gi (-1 - s)]])
                    have q3:(H6.set n2 (.arr 1 [[gi (-1 - s)]])) q=.map (cE (Value.int .i64) (cA (-1 - s) (.ptr p 0 0) c m)) c2:=by
                      have:q≠n2:=by rintro rfl; rw[q2] at hn2; simp at hn2
                      simp[View.set,this,q2]
                    have hfl:(bF F2).length≤16:=by simp[bF]; omega
                    have hil2:i < (bF F2).length:=by simp[bF]; exact (List.getElem?_eq_some_iff.1 hFx2).1
                    refine Fs (xs:=[-1 - s]) T3' (by simp) (by unfold aL; simp; omega) (by unfold aL; simp; omega) ?_
                    intro u2 H7 o2 hl2
                    simp (disch:=omega) only [↓wr,↓reduceIte,wq,ah,ag,aj,ab,ae,af,ai,isNil,Nat.reduceEqDiff,Nat.reduceAdd,Nat.reduceLT,Nat.reduceLeDiff,Int.reduceNeg,Int.reduceToNat,reduceCtorEq,t1,t3,t4,t24,t25,t26,t5,t38,t39,t40]
                    refine aT hk3 (by omega) ⟨u2,jx kk j s F2,_,c2,hss.symm,hnx,by rw[hsym]; exact vp hFx2,?_,JN T3' hl2 q3,?_,t1,t3,rfl,t24,t25,t26,t5,t38,t39,rfl⟩
                    · rw[hsym,bF,List.map_append,List.drop_append_of_le_length (by simpa [bF] using Nat.le_of_lt hil2)]
                      exact eA.own o2 (by simp)
                    · rw[hsym]; exact M3.left T3' hl2
                · simp (disch:=omega) only [↓wr,↓reduceIte,wq,ah,ag,aj,ab,ae,af,ai,isNil,Nat.reduceEqDiff,Nat.reduceAdd,Nat.reduceLT,Nat.reduceLeDiff,Int.reduceNeg,Int.reduceToNat,reduceCtorEq,t1,t3,t4,t24,t25,t26,t5,t38,t39,t40]
                  exact aT hk3 (by omega) ⟨u,F2,m,c,by rw[hss,jx,if_neg (by omega)],hok2,hFx2,ht2,hq3,hM2,t1,t3,t4,t24,t25,t26,t5,t38,t39,rfl⟩
              · simp (disch:=omega) only [↓wr,↓reduceIte,wq,ah,ag,aj,ab,ae,af,ai,isNil,Nat.reduceEqDiff,Nat.reduceAdd,Nat.reduceLT,Nat.reduceLeDiff,Int.reduceNeg,Int.reduceToNat,reduceCtorEq,t1,t3,t4,t24,t25,t26,t5,t38,t39,t40]
                rw[List.take_of_length_le (by omega)] at hF2
                exact aT hk2 (by omega) ⟨u,F2,m,c,by rw[hsn,kB,if_pos hne,hF2],hok2,hFx2,ht2,hq3,hM2,t1,t3,t4,t24,t25,rfl⟩
        · simp (disch:=omega) only [↓wr,↓reduceIte,wq,ah,ag,aj,ab,ae,af,ai,isNil,Nat.reduceEqDiff,Nat.reduceAdd,Nat.reduceLT,Nat.reduceLeDiff,Int.reduceNeg,Int.reduceToNat,reduceCtorEq,t1,t3,t4,t24,t25,t26,FK]
          rw[List.take_of_length_le (by omega)] at hF
          refine aT hk (by omega) ⟨_,m,c,?_,hq',?_,t1,t3,rfl⟩
          · rw[hst,← hF]
            exact ht.next
          · rw[hst,← hF]; exact hM
    · simp (disch:=omega) only [↓wr,↓reduceIte,wq,ah,ag,aj,ab,ae,af,ai,isNil,Nat.reduceEqDiff,Nat.reduceAdd,Nat.reduceLT,Nat.reduceLeDiff,Int.reduceNeg,Int.reduceToNat,reduceCtorEq,t1,t3,t4]
      refine ⟨q,c,m,rfl,hq',?_⟩
      rw[Ln (i:=i) (by omega) (by omega)]
      exact hM
end Gv
set_option linter.unusedSimpArgs false
set_option maxRecDepth 100000
namespace Gv
open Go Go.Proofs
def nI:SC :=
  .seq (.seq (.region false [⟨none,[aa 28 8,aa 29 28]⟩,⟨(some (29,true)),[aa 30 9,((some 31),.op (.nil false 1 (.tmp 30) (.val (.val (.pointer none)))))]⟩,⟨none,[bI 32 29 31]⟩]) <|
  .cond (.tmp 32) (.skip) (.exit 0)) <|
  .seq (.block 1 (ak [aZ 45 4 2,aa 46 9,br 47 46,ao 48 0 47,aq 49 48,aa 50 9,br 51 50,ao 52 1 51,aq 53 52,aa 54 7,aK 55 110 [45,49,53,54],aa 44 55,b6 56 0 44,b6 57 1 44,aa 7 56,aa 8 57])) <|
  ak [aa 33 6,ao 34 2 2,aq 35 34,aa 36 9,br 37 36,ao 38 0 37,aq 39 38,bo 40 3 35 39,ao 41 0 40,aq 42 41,((some 43),.op (.old (.lookup 175 (.tmp 33) (.tmp 42) false) 177)),aa 9 43]
def pz:SF:=⟨.seq (ak [c8 2 0,((some 4),.op (.bd (.val (.emp 1)))),aI 5 0]) <|
  .seq (ak [aZ 12 4 2,aK 13 109 [12],aa 6 13]) <|
  .seq (ak [aZ 15 4 2,aa 16 1,cH 17 110 [(.tmp 15),(.tmp 16),(.val (.val (.int .i64 (-1)))),(.val (.emp 1))],aa 14 17,b6 18 0 14,b6 19 1 14,aa 7 18,aa 8 19]) <|
  .seq (.seq (ak [aa 20 6,ao 21 2 2,aq 22 21,aa 23 1,bo 24 3 22 23,ao 25 0 24,aq 26 25,((some 27),.op (.old (.lookup 175 (.tmp 20) (.tmp 26) false) 177)),aa 9 27]) <|
  .block 0 (.loop nI)) <|
  .seq (.seq (ak [aa 58 8,cn 59 58]) <|
  .cond (.tmp 59) (.seq (ak [((some 4),.op (.bd (.val (.emp 1)))),aI 5 13]) <|
  .ret) (.skip)) <|
  .seq (.seq (ak [aZ 61 4 2,aa 62 7,aK 63 111 [61,62],aa 60 63,b6 64 0 60,b6 65 1 60,aa 10 64,aa 11 65]) <|
  .seq (.region false [⟨none,[aa 66 11,aA 67 .neq 66 0,aa 68 67]⟩,⟨(some (68,false)),[aa 69 10,aQ 70 69,aA 71 .gtr 70 60]⟩,⟨none,[bC 72 68 71]⟩]) <|
  .cond (.tmp 72) (.seq (ak [((some 4),.op (.bd (.val (.emp 1)))),aI 5 13]) <|
  .ret) (.skip)) <|
  .seq (ak [aa 73 7,aa 4 73,aI 5 0]) <|
  .ret,
  [.tmp 4,.tmp 5],74⟩
theorem tR:aV Tryz.prog 61 [2]=some pz:=by kernel_rfl
def pX:SF:=⟨.seq (ak [c8 2 0,((some 4),.op (.bd (.val (.emp 1)))),aI 5 0]) <|
  .seq (.seq (.region false [⟨none,[aZ 6 4 2,aK 7 60 [6],cn 8 7,aa 9 8]⟩,⟨(some (9,false)),[aa 10 1,aA 11 .lss 10 0]⟩,⟨none,[bC 12 9 11,aa 13 12]⟩,⟨(some (13,false)),[aa 14 1,ao 15 2 2,aq 16 15,aQ 17 16,aS 18 .geq 14 17]⟩,⟨none,[bC 19 13 18]⟩]) <|
  .cond (.tmp 19) (.seq (ak [((some 4),.op (.bd (.val (.emp 1)))),aI 5 1]) <|
  .ret) (.skip)) <|
  .seq (ak [aZ 20 4 2,aa 21 1,aK 22 61 [20,21],b6 23 0 22,b6 24 1 22,aa 4 23,aa 5 24]) <|
  .ret,
  [.tmp 4,.tmp 5],25⟩
theorem uP:aV Tryz.prog 28 [2]=some pX:=by kernel_rfl
set_option maxHeartbeats 8000000 in
theorem vP (g:al) (hg:g.Ok) (hsm:g.Small) (hr:isRed g=true) (r:Nat) (hkr:r < g.rules.length):aE Tryz.prog 61 [.agg (av g),gi r] (mh (dz g r)):=by
  refine aE.of (D9 g r) ?_
  have hrl:=hg.rules
  unfold aH at hrl
  refine aB.of mixed tR ?_
  obtain ⟨hri,hW,hall⟩:=ja hr
  have hf:=bc hri
  have p2:=Bc g hg hsm hf r hkr (-1) (by unfold bT; omega) [] (by simp)
  have hR:g.rules[r]?=some (g.rules[r]'hkr):=List.getElem?_eq_getElem hkr
  have hlf:=(jd hR).2
  have hmr:=List.mem_of_getElem? hR
  generalize g.rules[r]'hkr=R at hR hlf hmr
  have hleft:=hf.left R hmr
  have hin:=hall R.left.toNat (by omega)
  rw[show ((R.left.toNat:Nat):Int)=R.left by omega] at hin
  have ht0:dP g r=bW g (eR g) (dc (eR g) R.left) R.left (ef g r (-1) []):=by rw[dP,hlf]
  have p1:=KW g hg hf
  simp only[av,encS] at p1 p2
  simp (disch:=omega) only [↓wr,↓reduceIte,wq,ah,ag,aj,ab,ae,af,ai,isNil,Nat.reduceEqDiff,Nat.reduceAdd,Nat.reduceLT,Nat.reduceLeDiff,Int.reduceNeg,Int.reduceToNat,reduceCtorEq,pz,av,encS]
  refine aF.gH ((p1 _).mono ?_)
  rintro _ H1 ⟨q,c,m,rfl,hq,hM⟩
  simp (disch:=omega) only [↓wr,↓reduceIte,wq,ah,ag,aj,ab,ae,af,ai,isNil,Nat.reduceEqDiff,Nat.reduceAdd,Nat.reduceLT,Nat.reduceLeDiff,Int.reduceNeg,Int.reduceToNat,reduceCtorEq,av,encS]
  refine aF.xg p2 (by kernel_rfl) ⟨.tree (dp _ (dD g)),.tree (.val _),.tree (.val _),fun _ _=>.emp 1,trivial⟩ ?_
  simp (disch:=omega) only [↓wr,↓reduceIte,wq,ah,ag,aj,ab,ae,af,ai,isNil,Nat.reduceEqDiff,Nat.reduceAdd,Nat.reduceLT,Nat.reduceLeDiff,Int.reduceNeg,Int.reduceToNat,reduceCtorEq,av,encS,bf,List.getElem?_map,hR,Option.map_some]
  refine u7 (kt:=3) (et:=177) (z:=.val (.pointer none)) (by kernel_rfl) (by kernel_rfl) (ga .i64 Tryz.underlying3) (id:=q) (c:=c) (m:=m) (k:=R.left) (by simp (disch:=omega) only [↓wr,↓reduceIte,wq,ah,ag,aj,ab,ae,af,ai,isNil,Nat.reduceEqDiff,Nat.reduceAdd,Nat.reduceLT,Nat.reduceLeDiff,Int.reduceNeg,Int.reduceToNat,reduceCtorEq]) (by simp (disch:=omega) only [↓wr,↓reduceIte,wq,ah,ag,aj,ab,ae,af,ai,isNil,Nat.reduceEqDiff,Nat.reduceAdd,Nat.reduceLT,Nat.reduceLeDiff,Int.reduceNeg,Int.reduceToNat,reduceCtorEq]) hq ?_
  simp (disch:=omega) only [↓wr,↓reduceIte,wq,ah,ag,aj,ab,ae,af,ai,isNil,Nat.reduceEqDiff,Nat.reduceAdd,Nat.reduceLT,Nat.reduceLeDiff,Int.reduceNeg,Int.reduceToNat,reduceCtorEq]
  refine bw.up (dc (eR g) R.left) (fun d T H'=>∃ (n:Int) (x:List Int × Bool),n∈bF (eR g)∧dc (eR g) n+d≤dc (eR g) R.left∧(x.2=true→x.1.length≤300)∧bW g (eR g) (dc (eR g) n) n x=dP g r ∧
    H1=H'∧T 1=gi r∧T 2=.aR (av g) 0∧T 6=.mp q∧T 7=encI x.1∧T 8=gb x.2∧T 9=(getM m n).getD (.val (.pointer none))) ?_ ?_
  · exact ⟨R.left,ef g r (-1) [],hin,by omega,C3,ht0.symm,rfl,rfl,rfl,rfl,rfl,rfl,rfl⟩
  rintro d k T _ hk ⟨n,x,hn,hd,hx3,hcl,rfl,t1,t2,t6,t7,t8,t9⟩
  have hMn:=hM n
  simp (disch:=omega) only [↓wr,↓reduceIte,wq,ah,ag,aj,ab,ae,af,ai,isNil,Nat.reduceEqDiff,Nat.reduceAdd,Nat.reduceLT,Nat.reduceLeDiff,Int.reduceNeg,Int.reduceToNat,reduceCtorEq,nI,t1,t2,t6,t7,t8,t9,encI,av,encS]
  refine an.split (fun hx=>?_) (fun hx=>?_)
  · by_cases hs:n=g.start
    · have hst:x=dP g r:=by rw[← hcl]; exact (yr hW (.inr hs)).symm
      have hls:=kK hW
      rw[← hs] at hls
      rw[hls] at hMn
      obtain ⟨_,hv⟩:(-1:Int) = -1∧getM m n=some (.val (.pointer none)):=by
        rcases hMn with h | ⟨h,_⟩
        · exact h
        · exact absurd h (by simp)
      rw[hv] at t9
      simp (disch:=omega) only [↓wr,↓reduceIte,wq,ah,ag,aj,ab,ae,af,ai,isNil,Nat.reduceEqDiff,Nat.reduceAdd,Nat.reduceLT,Nat.reduceLeDiff,Int.reduceNeg,Int.reduceToNat,reduceCtorEq,t1,t2,t6,t7,t8,t9,Option.getD_some]
      have h300:=hx3 hx
      have p4:=(JO g hg hsm x.1 (by unfold aH; omega)).pure
      simp only[av,encS,encI,mh] at p4
      have eu:dz g r=if 60 < (jJ g x.1).1.length then ([],13) else (x.1,0):=by rw[dz,← hst,if_neg (by rw[hx]; simp)]
      have hw0:=(Gn hr hkr (by rw[← hst]; exact hx)).1
      rw[← hst] at hw0
      rw[hw0] at p4
      try simp (disch:=omega) only [↓wr,↓reduceIte,wq,ah,ag,aj,ab,ae,af,ai,isNil,Nat.reduceEqDiff,Nat.reduceAdd,Nat.reduceLT,Nat.reduceLeDiff,Int.reduceNeg,Int.reduceToNat,reduceCtorEq,t1,t2,t6,t7,t8,t9]
      refine an.split (fun _=>?_) (fun h=>by rw[hx] at h; simp at h)
      simp (disch:=omega) only [↓wr,↓reduceIte,wq,ah,ag,aj,ab,ae,af,ai,isNil,Nat.reduceEqDiff,Nat.reduceAdd,Nat.reduceLT,Nat.reduceLeDiff,Int.reduceNeg,Int.reduceToNat,reduceCtorEq,t1,t2,t6,t7,t8,t9,encI,av,encS]
      refine aF.pure p4 (by kernel_rfl) ?_
      simp (disch:=omega) only [↓wr,↓reduceIte,wq,ah,ag,aj,ab,ae,af,ai,isNil,Nat.reduceEqDiff,Nat.reduceAdd,Nat.reduceLT,Nat.reduceLeDiff,Int.reduceNeg,Int.reduceToNat,reduceCtorEq,t1,t2,t6,t7,t8,t9,encI]
      refine an.ne (fun h=>absurd rfl h) (fun _=>?_)
      simp (disch:=omega) only [↓wr,↓reduceIte,wq,ah,ag,aj,ab,ae,af,ai,isNil,Nat.reduceEqDiff,Nat.reduceAdd,Nat.reduceLT,Nat.reduceLeDiff,Int.reduceNeg,Int.reduceToNat,reduceCtorEq,t1,t2,t6,t7,t8,t9,encI]
      refine an.dec (fun hl=>?_) (fun hl=>?_)
      · simp (disch:=omega) only [↓wr,↓reduceIte,wq,ah,ag,aj,ab,ae,af,ai,isNil,Nat.reduceEqDiff,Nat.reduceAdd,Nat.reduceLT,Nat.reduceLeDiff,Int.reduceNeg,Int.reduceToNat,reduceCtorEq]
        intro h' _
        rw[eu,if_pos (by omega)]
        exact (fi (x:=([],13)) (.emp _)).wC
      · simp (disch:=omega) only [↓wr,↓reduceIte,wq,ah,ag,aj,ab,ae,af,ai,isNil,Nat.reduceEqDiff,Nat.reduceAdd,Nat.reduceLT,Nat.reduceLeDiff,Int.reduceNeg,Int.reduceToNat,reduceCtorEq,t7]
        intro h' _
        rw[eu,if_neg (by omega)]
        exact .tree _ (Et (x.1,0))
    · obtain ⟨k2,j,R2,h1,h2,h3,h4,h5,h6,h7⟩:=FJ (x:=x) hW hn hs hx
      rw[h1] at hMn
      obtain ⟨p,hv,hp⟩:∃ p,getM m n=some (.ptr p 0 0)∧H1 p=.arr 2 [[gi k2,gi j]]:=by
        rcases hMn with ⟨h,_⟩ | ⟨_,p,h⟩
        · simp at h
        · exact ⟨p,h⟩
      rw[hv] at t9
      simp (disch:=omega) only [↓wr,↓reduceIte,wq,ah,ag,aj,ab,ae,af,ai,isNil,Nat.reduceEqDiff,Nat.reduceAdd,Nat.reduceLT,Nat.reduceLeDiff,Int.reduceNeg,Int.reduceToNat,reduceCtorEq,t1,t2,t6,t7,t8,t9,Option.getD_some]
      have hk2:k2 < g.rules.length:=(List.getElem?_eq_some_iff.1 h2).1
      have hj6:=hf.right R2 (List.mem_of_getElem? h2)
      have hjl:=(List.getElem?_eq_some_iff.1 h3).1
      have p3:=(Bc g hg hsm hf k2 hk2 j (by unfold bT; omega) x.1 (hx3 hx)).pure
      have hl2:=hf.left R2 (List.mem_of_getElem? h2)
      simp only[av,encS,encI] at p3
      simp (disch:=omega) only [↓wr,↓reduceIte,wq,ah,ag,aj,ab,ae,af,ai,isNil,Nat.reduceEqDiff,Nat.reduceAdd,Nat.reduceLT,Nat.reduceLeDiff,Int.reduceNeg,Int.reduceToNat,reduceCtorEq,t1,t2,t6,t7,t8,t9,hp,encI,av,encS,Option.getD_some]
      try simp (disch:=omega) only [↓wr,↓reduceIte,wq,ah,ag,aj,ab,ae,af,ai,isNil,Nat.reduceEqDiff,Nat.reduceAdd,Nat.reduceLT,Nat.reduceLeDiff,Int.reduceNeg,Int.reduceToNat,reduceCtorEq,t1,t2,t6,t7,t8,t9,hp,encI,av,encS,Option.getD_some]
      refine aF.pure p3 (by kernel_rfl) ?_
      simp (disch:=omega) only [↓wr,↓reduceIte,wq,ah,ag,aj,ab,ae,af,ai,isNil,Nat.reduceEqDiff,Nat.reduceAdd,Nat.reduceLT,Nat.reduceLeDiff,Int.reduceNeg,Int.reduceToNat,reduceCtorEq,t1,t2,t6,t7,t8,t9,hp,encI,av,encS,bf,List.getElem?_map,h2,Option.map_some,Option.getD_some]
      refine u7 (kt:=3) (et:=177) (z:=.val (.pointer none)) (by kernel_rfl) (by kernel_rfl) (ga .i64 Tryz.underlying3) (id:=q) (c:=c) (m:=m) (k:=R2.left) (by simp (disch:=omega) only [↓wr,↓reduceIte,wq,ah,ag,aj,ab,ae,af,ai,isNil,Nat.reduceEqDiff,Nat.reduceAdd,Nat.reduceLT,Nat.reduceLeDiff,Int.reduceNeg,Int.reduceToNat,reduceCtorEq,t6]) (by simp (disch:=omega) only [↓wr,↓reduceIte,wq,ah,ag,aj,ab,ae,af,ai,isNil,Nat.reduceEqDiff,Nat.reduceAdd,Nat.reduceLT,Nat.reduceLeDiff,Int.reduceNeg,Int.reduceToNat,reduceCtorEq]) hq ?_
      simp (disch:=omega) only [↓wr,↓reduceIte,wq,ah,ag,aj,ab,ae,af,ai,isNil,Nat.reduceEqDiff,Nat.reduceAdd,Nat.reduceLT,Nat.reduceLeDiff,Int.reduceNeg,Int.reduceToNat,reduceCtorEq,t1,t2,t6,t7,t8,t9]
      refine aT hk (by omega) ⟨R2.left,ef g k2 j x.1,h5,by omega,C3,by rw[← h7]; exact hcl,rfl,t1,t2,t6,rfl,rfl,rfl⟩
  · have hst:x=dP g r:=by rw[← hcl]; exact (yr hW (.inl hx)).symm
    simp (disch:=omega) only [↓wr,↓reduceIte,wq,ah,ag,aj,ab,ae,af,ai,isNil,Nat.reduceEqDiff,Nat.reduceAdd,Nat.reduceLT,Nat.reduceLeDiff,Int.reduceNeg,Int.reduceToNat,reduceCtorEq,t1,t2,t6,t7,t8,t9]
    refine an.split (fun h=>by rw[hx] at h; simp at h) (fun _=>?_)
    simp (disch:=omega) only [↓wr,↓reduceIte,wq,ah,ag,aj,ab,ae,af,ai,isNil,Nat.reduceEqDiff,Nat.reduceAdd,Nat.reduceLT,Nat.reduceLeDiff,Int.reduceNeg,Int.reduceToNat,reduceCtorEq]
    intro h' _
    rw[dz,← hst,if_pos hx]
    exact (fi (x:=([],13)) (.emp _)).wC
set_option maxHeartbeats 4000000 in
theorem vC (g:al) (hg:g.Ok) (hsm:g.Small) (i:Int) (hi:bT i):aE Tryz.prog 28 [.agg (av g),gi i] (mh (mH g i)):=by
  refine aE.of (D9 g i) ?_
  have hc:=HW g hg hsm
  have hrl:=hg.rules
  unfold aH at hrl
  unfold bT at hi
  refine aB.of mixed uP ?_
  simp only[av,encS] at hc
  simp (disch:=omega) only [↓wr,↓reduceIte,wq,ah,ag,aj,ab,ae,af,ai,isNil,Nat.reduceEqDiff,Nat.reduceAdd,Nat.reduceLT,Nat.reduceLeDiff,Int.reduceNeg,Int.reduceToNat,reduceCtorEq,pX,av,encS]
  refine aF.pure hc (by kernel_rfl) ?_
  have hno:(isRed g && decide (0≤i) && decide (i < g.rules.length))=false→mH g i=([],1):=fun h=>by rw[mH,if_neg (by rw[h]; simp)]
  simp (disch:=omega) only [↓wr,↓reduceIte,wq,ah,ag,aj,ab,ae,af,ai,isNil,Nat.reduceEqDiff,Nat.reduceAdd,Nat.reduceLT,Nat.reduceLeDiff,Int.reduceNeg,Int.reduceToNat,reduceCtorEq]
  refine an.split (fun hr=>?_) (fun hr=>?_)
  rotate_left
  · simp (disch:=omega) only [↓wr,↓reduceIte,wq,ah,ag,aj,ab,ae,af,ai,isNil,Nat.reduceEqDiff,Nat.reduceAdd,Nat.reduceLT,Nat.reduceLeDiff,Int.reduceNeg,Int.reduceToNat,reduceCtorEq]
    intro h' _
    rw[hno (by rw[hr]; rfl)]
    exact (fi (x:=([],1)) (.emp _)).wC
  simp (disch:=omega) only [↓wr,↓reduceIte,wq,ah,ag,aj,ab,ae,af,ai,isNil,Nat.reduceEqDiff,Nat.reduceAdd,Nat.reduceLT,Nat.reduceLeDiff,Int.reduceNeg,Int.reduceToNat,reduceCtorEq]
  refine an.dec (fun h0=>?_) (fun h0=>?_)
  · simp (disch:=omega) only [↓wr,↓reduceIte,wq,ah,ag,aj,ab,ae,af,ai,isNil,Nat.reduceEqDiff,Nat.reduceAdd,Nat.reduceLT,Nat.reduceLeDiff,Int.reduceNeg,Int.reduceToNat,reduceCtorEq]
    intro h' _
    rw[hno (by rw[hr]; simp; omega)]
    exact (fi (x:=([],1)) (.emp _)).wC
  simp (disch:=omega) only [↓wr,↓reduceIte,wq,ah,ag,aj,ab,ae,af,ai,isNil,Nat.reduceEqDiff,Nat.reduceAdd,Nat.reduceLT,Nat.reduceLeDiff,Int.reduceNeg,Int.reduceToNat,reduceCtorEq,av,encS]
  refine an.dec (fun h1=>?_) (fun h1=>?_)
  · simp (disch:=omega) only [↓wr,↓reduceIte,wq,ah,ag,aj,ab,ae,af,ai,isNil,Nat.reduceEqDiff,Nat.reduceAdd,Nat.reduceLT,Nat.reduceLeDiff,Int.reduceNeg,Int.reduceToNat,reduceCtorEq]
    intro h' _
    rw[hno (by rw[hr]; simp; omega)]
    exact (fi (x:=([],1)) (.emp _)).wC
  obtain ⟨r,rfl⟩:∃ r:Nat,i=(r:Int):=⟨i.toNat,by omega⟩
  have e0:mH g r=dz g r:=by rw[mH,if_pos (by rw[hr]; simp; omega)]
  have p1:=vP g hg hsm hr r (by omega)
  rw[← e0] at p1
  simp only[av,encS,mh] at p1
  simp (disch:=omega) only [↓wr,↓reduceIte,wq,ah,ag,aj,ab,ae,af,ai,isNil,Nat.reduceEqDiff,Nat.reduceAdd,Nat.reduceLT,Nat.reduceLeDiff,Int.reduceNeg,Int.reduceToNat,reduceCtorEq,av,encS]
  refine aF.pure p1 (by kernel_rfl) ?_
  simp (disch:=omega) only [↓wr,↓reduceIte,wq,ah,ag,aj,ab,ae,af,ai,isNil,Nat.reduceEqDiff,Nat.reduceAdd,Nat.reduceLT,Nat.reduceLeDiff,Int.reduceNeg,Int.reduceToNat,reduceCtorEq]
  intro h' _
  exact .tree _ (Et (mH g r))
end Gv
