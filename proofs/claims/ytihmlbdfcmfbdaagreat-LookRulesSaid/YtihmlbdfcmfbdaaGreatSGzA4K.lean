/-
  Part 11 of the proof: what the machine does and what the functions answer.
  Conditions: those that each lemma names.
-/
import Derived.Test.YtihmlbdfcmfbdaaGreatSGzA4J
set_option linter.unusedSimpArgs false
set_option linter.unusedVariables false
set_option maxRecDepth 100000
namespace Gv
open Go Go.Proofs
structure Way where
  cW:Int
  aT:Int
  place:Int
def iw (F:List Way):List Int:=F.map Way.cW
structure ni (g:ao) (F:List Way):Prop where
  first:F[0]?=some ⟨g.start,-1,0⟩
  nodup:(iw F).Nodup
  from_:∀ i x,F[i]?=some x→0 < i→∃ (k j:Nat) (R:aG),x.aT=(k:Int)∧x.place=(j:Int)∧g.rules[k]?=some R∧R.right[j]?=some (-1 - x.cW)∧0≤x.cW∧∃ m y,m < i∧F[m]?=some y∧y.cW=R.left
theorem ni.pre {g:ao} {F:List Way} (h:ni g F) {i m:Nat} {x:Way} (hx:F[i]?=some x) (w:Way):(F ++ [w])[i]?=some x:=by
  rw[List.getElem?_append_left (List.getElem?_eq_some_iff.1 hx).1]; exact hx
theorem ni.inside {g:ao} {F:List Way} (h:ni g F) (h0:0≤g.start∧g.start < g.ax.length) (hs:∀ R∈g.rules,∀ s∈R.right,s < 0→-1 - s < g.ax.length):∀ n∈iw F,0≤n∧n < g.ax.length:=by
  intro n hn
  simp only[iw,List.mem_map] at hn
  obtain ⟨x,hx,rfl⟩:=hn
  obtain ⟨i,hi⟩:=List.mem_iff_getElem?.1 hx
  by_cases hi0:i=0
  · subst hi0
    rw[h.first] at hi
    simp at hi; subst hi
    exact h0
  · obtain ⟨k,j,R,_,_,h3,h4,h5,_⟩:=h.from_ i x hi (by omega)
    have:=hs R (List.mem_of_getElem? h3) _ (List.mem_of_getElem? h4) (by omega)
    omega
theorem ni.len {g:ao} {F:List Way} (h:ni g F) (h0:0≤g.start∧g.start < g.ax.length) (hs:∀ R∈g.rules,∀ s∈R.right,s < 0→-1 - s < g.ax.length):F.length≤g.ax.length:=by
  have:=lk h.nodup (h.inside h0 hs)
  simpa [iw] using this
def lookW (F:List Way) (n:Int):Option Way:=F.find? fun x=>x.cW == n
def A6 (F:List Way) (n:Int):Nat:=F.findIdx fun x=>x.cW == n
theorem IU {F:List Way} {n:Int} (h:n∈iw F):∃ x,lookW F n=some x∧F[A6 F n]?=some x∧x.cW=n:=by
  induction F with
  | nil=>simp[iw] at h
  | cons y F ih =>
    by_cases e:y.cW=n
    · exact ⟨y,by simp[lookW,e],by simp[A6,List.findIdx_cons,e],e⟩
    · have h':n∈iw F:=by
        simp only[iw,List.map_cons,List.mem_cons] at h ⊢
        rcases h with h | h
        · exact absurd h.symm e
        · exact h
      obtain ⟨x,h1,h2,h3⟩:=ih h'
      refine ⟨x,by simpa [lookW,e] using h1,?_,h3⟩
      have:A6 (y :: F) n=A6 F n+1:=by simp[A6,List.findIdx_cons,show (y.cW == n)=false by simpa using e]
      rw[this]; simpa using h2
def K0 (g:ao) (rest:List Int) (uw up:V):List V:=[.aF (g.az.map cq),.aF (g.ax.map fun s=>[gs s]),.aF (g.rules.map bf),gi g.start,encI rest,uw,up]
def Jt (g:ao) (b:Nat) (rest W Po:List Int) (H:View):Prop:=∃ uw up,bj H [(.sl b 0 1 7,7,[K0 g rest uw up]),(uw,1,cA W),(up,1,cA Po)]
def Iz (g:ao) (b:Nat) (o:Option Wk) (W Po:List Int) (r:V) (H:View):Prop:=match o with
  | some x=>r=gi x.high∧Jt g b x.rest (W ++ x.word) (Po ++ x.post) H
  | none=>r=gi 0∧∃ rest W Po,rest.length≤300∧Jt g b rest W Po H
theorem Iz.bad {g:ao} {b:Nat} {W Po W' Po' rest:List Int} {H:View} (hl:rest.length≤300) (h:Jt g b rest W' Po' H):Iz g b none W Po (gi 0) H:=⟨rfl,rest,W',Po',hl,h⟩
theorem Jp:pr.Ok:=by
  refine ⟨by unfold aU; decide,by unfold aU; decide,by unfold aU; decide,by unfold cd; decide,?_,?_⟩
  · intro t ht; simp[pr] at ht
  · intro r hr; simp[pr] at hr
theorem pj:∀ (l:List aG) (acc:List Int),(l.foldl c8 acc).length≤acc.length+l.length
  | [],acc=>by simp
  | r :: l,acc=>by
    have h1:=pj l (c8 acc r)
    have h2:(c8 acc r).length≤acc.length+1:=by unfold c8; split <;> simp
    simp only[List.foldl_cons,List.length_cons]
    omega
theorem GU (p q:List Bool) (l:List aG):(bV p q l).length≤l.length:=by
  have h1:=pj (l.filter (bo p q)) []
  have h2:=List.length_filter_le (bo p q) l
  unfold bV
  simp only[List.length_nil] at h1
  omega
theorem I7 {g:ao} (hg:g.Ok) (p q:List Bool):(iK g (bp (bV p q g.rules)) p q).Ok:=by
  have ho:=GU p q g.rules
  have h3:=hg.rules
  unfold aU at h3
  have hb:∀ x,cd (bp (bV p q g.rules) x):=fun x=>by
    have:=C4 (bV p q g.rules) x
    unfold cd; omega
  have hb2:∀ x,cd (-1 - bp (bV p q g.rules) x):=fun x=>by
    have:=C4 (bV p q g.rules) x
    unfold cd; omega
  refine ⟨hg.az,?_,?_,hb _,hg.term,fun r hr=>?_⟩
  · unfold aU; simp only[iK,List.length_map]; omega
  · have:=List.length_filter_le (bo p q) g.rules
    unfold aU; simp only[iK,List.length_map]; omega
  · simp only[iK,List.mem_map,List.mem_filter] at hr
    obtain ⟨r0,⟨h0,_⟩,rfl⟩:=hr
    obtain ⟨_,i2,i3,i4⟩:=hg.aT r0 h0
    refine ⟨hb _,i2,by unfold aU at i3 ⊢; simpa [bh] using i3,fun x hx=>?_⟩
    simp only[bh,List.mem_map] at hx
    obtain ⟨s,hs,rfl⟩:=hx
    split
    · exact hb2 _
    · exact i4 s hs
section
variable {g r:ao} {p q:List Bool} {o:List Int}
theorem c5.ok (h:c5 g p q o r) (hg:g.Ok):r.Ok:=by
  have:=I7 hg p q
  rw[← h.oe,← h.re] at this
  exact this
theorem c5.small (h:c5 g p q o r) (hs:g.Small):r.Small:=by
  have:=lk h.nodup h.inside
  have:=hs.names
  exact ⟨by rw[h.len,h.az]; omega⟩
end
theorem bytes_beq (a b:ByteArray):(a == b)=decide (a=b):=by
  cases a with | mk a=>cases b with | mk b =>
  rw[Bool.eq_iff_iff]
  show (ByteArray.beq ⟨a⟩ ⟨b⟩=true)↔_
  simp only[ByteArray.beq]
  simp
theorem GL (a b:ByteArray):eT a b=decide (a=b):=by
  cases a with | mk a=>cases b with | mk b =>
  rw[Bool.eq_iff_iff]
  simp[eT]
theorem td {α:Type} {a b:List α} {i:Nat} {x y:α} (hx:a[i]?=some x) (hy:b[i]?=some y) (h:a.take i=b.take i) (e:x=y):a.take (i+1)=b.take (i+1):=by
  rw[List.take_add_one,List.take_add_one,h,hx,hy,e]
theorem wu {α:Type} {a b:List α} {i:Nat} (ha:a.length≤i) (hb:b.length≤i) (h:a.take i=b.take i):a=b:=by
  rwa [List.take_of_length_le ha,List.take_of_length_le hb] at h
theorem zh {α:Type} {a b:List α} {i:Nat} {x y:α} (hx:a[i]?=some x) (hy:b[i]?=some y) (e:x≠y):a≠b:=by
  rintro rfl; rw[hx] at hy; exact e (by simpa using hy)
theorem vK {α:Type} {a b:List α} (h:¬ a.length=b.length):a≠b:=fun e=>h (by rw[e])
theorem BP (x y:Term):ez Tryz.prog 9998 #[.string x.name,.int .i64 x.level,.int .i64 x.assoc] #[.string y.name,.int .i64 y.level,.int .i64 y.assoc]
    [{ name:= "Name",type:=9,offset:=0,embedded:=false,tag:= "",pkgPath:= "",byteOffset:=0 },{ name:= "Level",type:=3,offset:=1,embedded:=false,tag:= "",pkgPath:= "",byteOffset:=16 },
        { name:= "Assoc",type:=3,offset:=2,embedded:=false,tag:= "",pkgPath:= "",byteOffset:=24 }] (x.name == y.name && (x.level == y.level && (x.assoc == y.assoc && true))) :=
  .str _ _ _ _ _ (by decide) Tryz.underlying9 rfl rfl (.int _ _ _ _ _ _ (by decide) Tryz.underlying3 rfl rfl (.int _ _ _ _ _ _ (by decide) Tryz.underlying3 rfl rfl .nil))
theorem IL (x y:Term):(x.name == y.name && (x.level == y.level && (x.assoc == y.assoc && true)))=decide (x=y):=by
  rw[bytes_beq,Bool.eq_iff_iff]
  cases x; cases y
  simp
theorem II (a b:Int):(a == b)=decide (a=b):=by rw[Bool.eq_iff_iff]; simp
theorem GS (x y:aG):decide (x=y)=(decide (x.left=y.left) && (decide (x.prec=y.prec) && decide (x.right=y.right))):=by
  cases x; cases y
  rw[Bool.eq_iff_iff]
  simp[and_comm]
theorem G2 (x y:ao):decide (x=y)=(decide (x.az=y.az) && (decide (x.ax=y.ax) && (decide (x.rules=y.rules) && decide (x.start=y.start)))):=by
  cases x; cases y
  rw[Bool.eq_iff_iff]
  simp
theorem Fm (g k:ao):∀ v∈[V.agg (aR g),V.agg (aR k)],Tree v:=by
  intro v hv; simp at hv
  rcases hv with rfl | rfl <;> exact eX _ (iS _)
def dG:SC :=
  .seq (ar [aM 14 .lss 13 12]) <|
  .seq (.cond (.tmp 14) (.skip) (.exit 0)) <|
  .seq (.block 1 (.seq (ar [aa 15 13,aa 5 15]) <|
  .seq (ar [aa 16 0,aa 17 5,aL 18 3 16 17,aO 19 3 18,aa 20 1,aa 21 5,aL 22 3 20 21,aO 23 3 22,((some 24),.op (.old (.binOp .neq 129 (.tmp 19) (.tmp 23) 129) 4))]) <|
  .cond (.tmp 24) (.seq (ar [bd 4 false]) <|
  .ret) (.skip))) <|
  ar [av 25 .add 13 1,aa 13 25]
def dV:SF:=⟨.seq (ar [bd 4 false]) <|
  .seq (.seq (ar [aa 6 0,aK 7 6,aa 8 1,aK 9 8,aM 10 .neq 7 9]) <|
  .cond (.tmp 10) (.seq (ar [bd 4 false]) <|
  .ret) (.skip)) <|
  .seq (.seq (ar [aa 11 0,aK 12 11,aA 13 0]) <|
  .block 0 (.loop dG)) <|
  .seq (ar [bd 4 true]) <|
  .ret,
  [.tmp 4],26⟩
theorem fV:bm Tryz.prog 162 []=some dV:=by kernel_rfl
def eo:SC :=
  .seq (ar [aM 14 .lss 13 12]) <|
  .seq (.cond (.tmp 14) (.skip) (.exit 0)) <|
  .seq (.block 1 (.seq (ar [aa 15 13,aa 5 15]) <|
  .seq (ar [aa 16 0,aa 17 5,aL 18 1 16 17,ak 19 18,aa 20 1,aa 21 5,aL 22 1 20 21,ak 23 22,((some 24),.op (.hE .neq (.tmp 19) (.tmp 23)))]) <|
  .cond (.tmp 24) (.seq (ar [bd 4 false]) <|
  .ret) (.skip))) <|
  ar [av 25 .add 13 1,aa 13 25]
def eJ:SF:=⟨.seq (ar [bd 4 false]) <|
  .seq (.seq (ar [aa 6 0,aK 7 6,aa 8 1,aK 9 8,aM 10 .neq 7 9]) <|
  .cond (.tmp 10) (.seq (ar [bd 4 false]) <|
  .ret) (.skip)) <|
  .seq (.seq (ar [aa 11 0,aK 12 11,aA 13 0]) <|
  .block 0 (.loop eo)) <|
  .seq (ar [bd 4 true]) <|
  .ret,
  [.tmp 4],26⟩
theorem ia:bm Tryz.prog 163 []=some eJ:=by kernel_rfl
def fy:SC :=
  .seq (ar [aM 14 .lss 13 12]) <|
  .seq (.cond (.tmp 14) (.skip) (.exit 0)) <|
  .seq (.block 1 (.seq (ar [aa 15 13,aa 5 15]) <|
  .seq (ar [aa 16 0,aa 17 5,aL 18 1 16 17,ak 19 18,aa 20 1,aa 21 5,aL 22 1 20 21,ak 23 22,aM 24 .neq 19 23]) <|
  .cond (.tmp 24) (.seq (ar [bd 4 false]) <|
  .ret) (.skip))) <|
  ar [av 25 .add 13 1,aa 13 25]
def gh:SF:=⟨.seq (ar [bd 4 false]) <|
  .seq (.seq (ar [aa 6 0,aK 7 6,aa 8 1,aK 9 8,aM 10 .neq 7 9]) <|
  .cond (.tmp 10) (.seq (ar [bd 4 false]) <|
  .ret) (.skip)) <|
  .seq (.seq (ar [aa 11 0,aK 12 11,aA 13 0]) <|
  .block 0 (.loop fy)) <|
  .seq (ar [bd 4 true]) <|
  .ret,
  [.tmp 4],26⟩
theorem jY:bm Tryz.prog 198 []=some gh:=by kernel_rfl
def tC:SF:=⟨.seq (ar [cX 2 0,cX 3 1,bd 4 false]) <|
  .seq (.region false [⟨none,[al 5 0 2,ak 6 5,al 7 0 3,ak 8 7,aM 9 .eql 6 8,aa 10 9]⟩,⟨(some (10,true)),[al 11 2 2,ak 12 11,al 13 2 3,ak 14 13,aM 15 .eql 12 14]⟩,⟨none,[bC 16 10 15,aa 17 16]⟩,⟨(some (17,true)),[al 18 1 2,ak 19 18,al 20 1 3,ak 21 20,aD 22 198 [19,21]]⟩,⟨none,[bC 23 17 22,aa 4 23]⟩]) <|
  .ret,
  [.tmp 4],24⟩
theorem wO:bm Tryz.prog 165 [2,3]=some tC:=by kernel_rfl
def bT:SC :=
  .seq (ar [aM 18 .lss 17 16]) <|
  .seq (.cond (.tmp 18) (.skip) (.exit 0)) <|
  .seq (.block 1 (.seq (ar [aa 19 17,aL 20 3 15 17,aO 21 3 20,((some 8),.op (.alloc [(.val (.int .i64 0)),(.emp 1),(.val (.int .i64 0))])),aa 7 19,(none,.op (.store 3 (.tmp 8) (.tmp 21)))]) <|
  .seq (ar [aa 22 1,aa 23 7,aL 24 3 22 23,aO 25 3 24,((some 9),.op (.alloc [(.val (.int .i64 0)),(.emp 1),(.val (.int .i64 0))])),(none,.op (.store 3 (.tmp 9) (.tmp 25)))]) <|
  .seq (ar [aa 26 2,aO 27 3 8,aO 28 3 9,((some 29),.call (.tmp 26) [(.tmp 27),(.tmp 28)]),cF 30 29]) <|
  .cond (.tmp 30) (.seq (ar [bd 6 false]) <|
  .ret) (.skip))) <|
  ar [av 31 .add 17 1,aa 17 31]
def bY:SF:=⟨.seq (ar [bd 6 false]) <|
  .seq (.seq (ar [aa 10 0,aK 11 10,aa 12 1,aK 13 12,aM 14 .neq 11 13]) <|
  .cond (.tmp 14) (.seq (ar [bd 6 false]) <|
  .ret) (.skip)) <|
  .seq (.seq (ar [aa 15 0,aK 16 15,aA 17 0]) <|
  .block 0 (.loop bT)) <|
  .seq (ar [bd 6 true]) <|
  .ret,
  [.tmp 6],32⟩
theorem de:bm Tryz.prog 164 []=some bY:=by kernel_rfl
def u5:SF:=⟨.seq (ar [cX 2 0,cX 3 1,bd 4 false]) <|
  .seq (.region false [⟨none,[al 5 0 2,ak 6 5,al 7 0 3,ak 8 7,aD 9 162 [6,8],aa 10 9]⟩,⟨(some (10,true)),[al 11 1 2,ak 12 11,al 13 1 3,ak 14 13,aD 15 163 [12,14]]⟩,⟨none,[bC 16 10 15,aa 17 16]⟩,⟨(some (17,true)),[al 18 2 2,ak 19 18,al 20 2 3,ak 21 20,ca 22 164 [(.tmp 19),(.tmp 21),(.val (.fn 165 [] []))]]⟩,⟨none,[bC 23 17 22,aa 24 23]⟩,⟨(some (24,true)),[al 25 3 2,ak 26 25,al 27 3 3,ak 28 27,aM 29 .eql 26 28]⟩,⟨none,[bC 30 24 29,aa 4 30]⟩]) <|
  .ret,
  [.tmp 4],31⟩
theorem zb:bm Tryz.prog 110 [2,3]=some u5:=by kernel_rfl
theorem FT {α:Type} {f g:α→List V} {a b:List α} (hf:∀ x,∀ v∈f x,Tree v) (hg:∀ x,∀ v∈g x,Tree v):∀ v∈[V.aF (a.map f),V.aF (b.map g)],Tree v:=by
  intro v hv; simp at hv
  rcases hv with rfl | rfl
  · exact dZ _ _ fun x _=>hf x
  · exact dZ _ _ fun x _=>hg x
theorem FX (a b:List Term) (ha:aU a) (H:View):aH Tryz.prog 162 [.aF (a.map cq),.aF (b.map cq)] H fun r _=>r=gb (decide (a=b)):=by
  refine aH.of mixed fV ?_
  unfold aU at ha
  simp (disch:=omega) only [↓wr,↓reduceIte,wq,ai,ah,an,ab,af,ag,aj,isNil,Nat.reduceEqDiff,Nat.reduceAdd,Nat.reduceLT,Nat.reduceLeDiff,Int.reduceNeg,Int.reduceToNat,reduceCtorEq,dV]
  refine ay.ne (fun h=>?_) (fun h=>?_)
  · simp (disch:=omega) only [↓wr,↓reduceIte,wq,ai,ah,an,ab,af,ag,aj,isNil,Nat.reduceEqDiff,Nat.reduceAdd,Nat.reduceLT,Nat.reduceLeDiff,Int.reduceNeg,Int.reduceToNat,reduceCtorEq]
    rw[decide_eq_false (vK (by omega))]
  · simp (disch:=omega) only [↓wr,↓reduceIte,wq,ai,ah,an,ab,af,ag,aj,isNil,Nat.reduceEqDiff,Nat.reduceAdd,Nat.reduceLT,Nat.reduceLeDiff,Int.reduceNeg,Int.reduceToNat,reduceCtorEq]
    refine cH.up a.length (fun i T _=>a.take i=b.take i∧T 0=.aF (a.map cq)∧T 1=.aF (b.map cq)∧T 12=gi a.length∧T 13=gi i) ⟨by simp,rfl,rfl,rfl,rfl⟩ ?_
    rintro i k T H hk ⟨hi,h0,h1,h7,h8⟩
    simp (disch:=omega) only [↓wr,↓reduceIte,wq,ai,ah,an,ab,af,ag,aj,isNil,Nat.reduceEqDiff,Nat.reduceAdd,Nat.reduceLT,Nat.reduceLeDiff,Int.reduceNeg,Int.reduceToNat,reduceCtorEq,dG,h0,h1,h7,h8]
    refine ay.dec (fun hc=>?_) (fun hc=>?_)
    · have h2:a[i]?=some (a[i]'(by omega)):=List.getElem?_eq_getElem (by omega)
      have h3:b[i]?=some (b[i]'(by omega)):=List.getElem?_eq_getElem (by omega)
      generalize a[i]'(by omega)=x at h2
      generalize b[i]'(by omega)=y at h3
      simp (disch:=omega) only [↓wr,↓reduceIte,wq,ai,ah,an,ab,af,ag,aj,isNil,Nat.reduceEqDiff,Nat.reduceAdd,Nat.reduceLT,Nat.reduceLeDiff,Int.reduceNeg,Int.reduceToNat,reduceCtorEq,h0,h1,h7,h8,List.getElem?_map,h2,h3,cq]
      refine BY (xs:=#[.string x.name,.int .i64 x.level,.int .i64 x.assoc]) (ys:=#[.string y.name,.int .i64 y.level,.int .i64 y.assoc]) Tryz.underlying129 (by kernel_rfl) (by kernel_rfl) ?_ ?_ (BP x y) (.inr ⟨rfl,rfl⟩) ?_
      · rfl
      · rfl
      rw[IL]
      simp (disch:=omega) only [↓wr,↓reduceIte,wq,ai,ah,an,ab,af,ag,aj,isNil,Nat.reduceEqDiff,Nat.reduceAdd,Nat.reduceLT,Nat.reduceLeDiff,Int.reduceNeg,Int.reduceToNat,reduceCtorEq,h0,h1,h7,h8]
      refine ay.split (fun e=>?_) (fun e=>?_)
      · simp (disch:=omega) only [↓wr,↓reduceIte,wq,ai,ah,an,ab,af,ag,aj,isNil,Nat.reduceEqDiff,Nat.reduceAdd,Nat.reduceLT,Nat.reduceLeDiff,Int.reduceNeg,Int.reduceToNat,reduceCtorEq,h0,h1,h7,h8]
        exact bO hk (by omega) ⟨td h2 h3 hi (by simpa using e),h0,h1,h7,rfl⟩
      · simp (disch:=omega) only [↓wr,↓reduceIte,wq,ai,ah,an,ab,af,ag,aj,isNil,Nat.reduceEqDiff,Nat.reduceAdd,Nat.reduceLT,Nat.reduceLeDiff,Int.reduceNeg,Int.reduceToNat,reduceCtorEq,h0,h1,h7,h8]
        rw[decide_eq_false (zh h2 h3 (by simpa using e))]
    · simp (disch:=omega) only [↓wr,↓reduceIte,wq,ai,ah,an,ab,af,ag,aj,isNil,Nat.reduceEqDiff,Nat.reduceAdd,Nat.reduceLT,Nat.reduceLeDiff,Int.reduceNeg,Int.reduceToNat,reduceCtorEq,h0,h1,h7,h8]
      rw[decide_eq_true (wu (by omega) (by omega) hi)]
theorem GF (a b:List ByteArray) (ha:aU a) (H:View):aH Tryz.prog 163 [encS a,encS b] H fun r _=>r=gb (decide (a=b)):=by
  refine aH.of mixed ia ?_
  unfold aU at ha
  simp (disch:=omega) only [↓wr,↓reduceIte,wq,ai,ah,an,ab,af,ag,aj,isNil,Nat.reduceEqDiff,Nat.reduceAdd,Nat.reduceLT,Nat.reduceLeDiff,Int.reduceNeg,Int.reduceToNat,reduceCtorEq,eJ,encS]
  refine ay.ne (fun h=>?_) (fun h=>?_)
  · simp (disch:=omega) only [↓wr,↓reduceIte,wq,ai,ah,an,ab,af,ag,aj,isNil,Nat.reduceEqDiff,Nat.reduceAdd,Nat.reduceLT,Nat.reduceLeDiff,Int.reduceNeg,Int.reduceToNat,reduceCtorEq]
    rw[decide_eq_false (vK (by omega))]
  · simp (disch:=omega) only [↓wr,↓reduceIte,wq,ai,ah,an,ab,af,ag,aj,isNil,Nat.reduceEqDiff,Nat.reduceAdd,Nat.reduceLT,Nat.reduceLeDiff,Int.reduceNeg,Int.reduceToNat,reduceCtorEq]
    refine cH.up a.length (fun i T _=>a.take i=b.take i∧T 0=encS a∧T 1=encS b∧T 12=gi a.length∧T 13=gi i) ⟨by simp,rfl,rfl,rfl,rfl⟩ ?_
    rintro i k T H hk ⟨hi,h0,h1,h7,h8⟩
    simp (disch:=omega) only [↓wr,↓reduceIte,wq,ai,ah,an,ab,af,ag,aj,isNil,Nat.reduceEqDiff,Nat.reduceAdd,Nat.reduceLT,Nat.reduceLeDiff,Int.reduceNeg,Int.reduceToNat,reduceCtorEq,eo,h0,h1,h7,h8,encS]
    refine ay.dec (fun hc=>?_) (fun hc=>?_)
    · have h2:a[i]?=some (a[i]'(by omega)):=List.getElem?_eq_getElem (by omega)
      have h3:b[i]?=some (b[i]'(by omega)):=List.getElem?_eq_getElem (by omega)
      generalize a[i]'(by omega)=x at h2
      generalize b[i]'(by omega)=y at h3
      simp (disch:=omega) only [↓wr,↓reduceIte,wq,ai,ah,an,ab,af,ag,aj,isNil,Nat.reduceEqDiff,Nat.reduceAdd,Nat.reduceLT,Nat.reduceLeDiff,Int.reduceNeg,Int.reduceToNat,reduceCtorEq,h0,h1,h7,h8,encS,List.getElem?_map,h2,h3,GL]
      refine ay.split (fun e=>?_) (fun e=>?_)
      · simp (disch:=omega) only [↓wr,↓reduceIte,wq,ai,ah,an,ab,af,ag,aj,isNil,Nat.reduceEqDiff,Nat.reduceAdd,Nat.reduceLT,Nat.reduceLeDiff,Int.reduceNeg,Int.reduceToNat,reduceCtorEq,h0,h1,h7,h8]
        exact bO hk (by omega) ⟨td h2 h3 hi (by simpa using e),h0,h1,h7,rfl⟩
      · simp (disch:=omega) only [↓wr,↓reduceIte,wq,ai,ah,an,ab,af,ag,aj,isNil,Nat.reduceEqDiff,Nat.reduceAdd,Nat.reduceLT,Nat.reduceLeDiff,Int.reduceNeg,Int.reduceToNat,reduceCtorEq,h0,h1,h7,h8]
        rw[decide_eq_false (zh h2 h3 (by simpa using e))]
    · simp (disch:=omega) only [↓wr,↓reduceIte,wq,ai,ah,an,ab,af,ag,aj,isNil,Nat.reduceEqDiff,Nat.reduceAdd,Nat.reduceLT,Nat.reduceLeDiff,Int.reduceNeg,Int.reduceToNat,reduceCtorEq,h0,h1,h7,h8]
      rw[decide_eq_true (wu (by omega) (by omega) hi)]
theorem E7 (a b:List Int) (ha:aU a) (H:View):aH Tryz.prog 198 [encI a,encI b] H fun r _=>r=gb (decide (a=b)):=by
  refine aH.of mixed jY ?_
  unfold aU at ha
  simp (disch:=omega) only [↓wr,↓reduceIte,wq,ai,ah,an,ab,af,ag,aj,isNil,Nat.reduceEqDiff,Nat.reduceAdd,Nat.reduceLT,Nat.reduceLeDiff,Int.reduceNeg,Int.reduceToNat,reduceCtorEq,gh,encI]
  refine ay.ne (fun h=>?_) (fun h=>?_)
  · simp (disch:=omega) only [↓wr,↓reduceIte,wq,ai,ah,an,ab,af,ag,aj,isNil,Nat.reduceEqDiff,Nat.reduceAdd,Nat.reduceLT,Nat.reduceLeDiff,Int.reduceNeg,Int.reduceToNat,reduceCtorEq]
    rw[decide_eq_false (vK (by omega))]
  · simp (disch:=omega) only [↓wr,↓reduceIte,wq,ai,ah,an,ab,af,ag,aj,isNil,Nat.reduceEqDiff,Nat.reduceAdd,Nat.reduceLT,Nat.reduceLeDiff,Int.reduceNeg,Int.reduceToNat,reduceCtorEq]
    refine cH.up a.length (fun i T _=>a.take i=b.take i∧T 0=encI a∧T 1=encI b∧T 12=gi a.length∧T 13=gi i) ⟨by simp,rfl,rfl,rfl,rfl⟩ ?_
    rintro i k T H hk ⟨hi,h0,h1,h7,h8⟩
    simp (disch:=omega) only [↓wr,↓reduceIte,wq,ai,ah,an,ab,af,ag,aj,isNil,Nat.reduceEqDiff,Nat.reduceAdd,Nat.reduceLT,Nat.reduceLeDiff,Int.reduceNeg,Int.reduceToNat,reduceCtorEq,fy,h0,h1,h7,h8,encI]
    refine ay.dec (fun hc=>?_) (fun hc=>?_)
    · have h2:a[i]?=some (a[i]'(by omega)):=List.getElem?_eq_getElem (by omega)
      have h3:b[i]?=some (b[i]'(by omega)):=List.getElem?_eq_getElem (by omega)
      generalize a[i]'(by omega)=x at h2
      generalize b[i]'(by omega)=y at h3
      simp (disch:=omega) only [↓wr,↓reduceIte,wq,ai,ah,an,ab,af,ag,aj,isNil,Nat.reduceEqDiff,Nat.reduceAdd,Nat.reduceLT,Nat.reduceLeDiff,Int.reduceNeg,Int.reduceToNat,reduceCtorEq,h0,h1,h7,h8,encI,List.getElem?_map,h2,h3]
      refine ay.ne (fun e=>?_) (fun e=>?_)
      · simp (disch:=omega) only [↓wr,↓reduceIte,wq,ai,ah,an,ab,af,ag,aj,isNil,Nat.reduceEqDiff,Nat.reduceAdd,Nat.reduceLT,Nat.reduceLeDiff,Int.reduceNeg,Int.reduceToNat,reduceCtorEq,h0,h1,h7,h8]
        rw[decide_eq_false (zh h2 h3 e)]
      · simp (disch:=omega) only [↓wr,↓reduceIte,wq,ai,ah,an,ab,af,ag,aj,isNil,Nat.reduceEqDiff,Nat.reduceAdd,Nat.reduceLT,Nat.reduceLeDiff,Int.reduceNeg,Int.reduceToNat,reduceCtorEq,h0,h1,h7,h8]
        exact bO hk (by omega) ⟨td h2 h3 hi e,h0,h1,h7,rfl⟩
    · simp (disch:=omega) only [↓wr,↓reduceIte,wq,ai,ah,an,ab,af,ag,aj,isNil,Nat.reduceEqDiff,Nat.reduceAdd,Nat.reduceLT,Nat.reduceLeDiff,Int.reduceNeg,Int.reduceToNat,reduceCtorEq,h0,h1,h7,h8]
      rw[decide_eq_true (wu (by omega) (by omega) hi)]
theorem Ff (a b:List Term) (ha:aU a):aC Tryz.prog 162 [.aF (a.map cq),.aF (b.map cq)] (gb (decide (a=b))):=aC.val (FT nK nK) (FX a b ha)
theorem FL (a b:List ByteArray) (ha:aU a):aC Tryz.prog 163 [encS a,encS b] (gb (decide (a=b))):=aC.val (by
  intro v hv; simp at hv
  rcases hv with rfl | rfl <;> exact sC _) (GF a b ha)
theorem F1 (a b:List Int) (ha:aU a):aC Tryz.prog 198 [encI a,encI b] (gb (decide (a=b))):=aC.val (by
  intro v hv; simp at hv
  rcases hv with rfl | rfl <;> exact kx _) (E7 a b ha)
theorem G3 (x y:aG) (hx:aU x.right):aC Tryz.prog 165 [.agg (bf x),.agg (bf y)] (gb (decide (x=y))):=by
  refine aC.val (by
    intro v hv; simp at hv
    rcases hv with rfl | rfl <;> exact eX _ (dN _)) fun H=>?_
  rw[GS]
  refine aH.of mixed wO ?_
  simp (disch:=omega) only [↓wr,↓reduceIte,wq,ai,ah,an,ab,af,ag,aj,isNil,Nat.reduceEqDiff,Nat.reduceAdd,Nat.reduceLT,Nat.reduceLeDiff,Int.reduceNeg,Int.reduceToNat,reduceCtorEq,tC,bf,encI]
  repeat' (first | (refine ay.dec (fun _=>?_) (fun _=>?_)) | (refine ay.eq (fun _=>?_) (fun _=>?_)) | (refine ay.ne (fun _=>?_) (fun _=>?_)) | (refine ay.split (fun _=>?_) (fun _=>?_)) | (refine aJ.pure (F1 x.right y.right hx) (by kernel_rfl) ?_) | (simp (disch:=omega) only [↓wr,↓reduceIte,wq,ai,ah,an,ab,af,ag,aj,isNil,Nat.reduceEqDiff,Nat.reduceAdd,Nat.reduceLT,Nat.reduceLeDiff,Int.reduceNeg,Int.reduceToNat,reduceCtorEq,bf]))
  all_goals simp[*]
theorem Aa (a b:List aG) (ha:aU a) (hr:∀ r∈a,aU r.right) (H:View):aH Tryz.prog 164 [.aF (a.map bf),.aF (b.map bf),.fn 165 [] []] H fun r _=>r=gb (decide (a=b)):=by
  refine aH.of mixed de ?_
  unfold aU at ha
  simp (disch:=omega) only [↓wr,↓reduceIte,wq,ai,ah,an,ab,af,ag,aj,isNil,Nat.reduceEqDiff,Nat.reduceAdd,Nat.reduceLT,Nat.reduceLeDiff,Int.reduceNeg,Int.reduceToNat,reduceCtorEq,bY]
  refine ay.ne (fun h=>?_) (fun h=>?_)
  · simp (disch:=omega) only [↓wr,↓reduceIte,wq,ai,ah,an,ab,af,ag,aj,isNil,Nat.reduceEqDiff,Nat.reduceAdd,Nat.reduceLT,Nat.reduceLeDiff,Int.reduceNeg,Int.reduceToNat,reduceCtorEq]
    rw[decide_eq_false (vK (by omega))]
  · simp (disch:=omega) only [↓wr,↓reduceIte,wq,ai,ah,an,ab,af,ag,aj,isNil,Nat.reduceEqDiff,Nat.reduceAdd,Nat.reduceLT,Nat.reduceLeDiff,Int.reduceNeg,Int.reduceToNat,reduceCtorEq]
    refine cH.up a.length (fun i T _=>a.take i=b.take i∧T 15=.aF (a.map bf)∧T 1=.aF (b.map bf)∧T 2=.fn 165 [] []∧T 16=gi a.length∧T 17=gi i) ⟨by simp,rfl,rfl,rfl,rfl,rfl⟩ ?_
    rintro i k T H hk ⟨hi,h0,h1,h6,h7,h8⟩
    simp (disch:=omega) only [↓wr,↓reduceIte,wq,ai,ah,an,ab,af,ag,aj,isNil,Nat.reduceEqDiff,Nat.reduceAdd,Nat.reduceLT,Nat.reduceLeDiff,Int.reduceNeg,Int.reduceToNat,reduceCtorEq,bT,h0,h1,h6,h7,h8]
    refine ay.dec (fun hc=>?_) (fun hc=>?_)
    · have h2:a[i]?=some (a[i]'(by omega)):=List.getElem?_eq_getElem (by omega)
      have h3:b[i]?=some (b[i]'(by omega)):=List.getElem?_eq_getElem (by omega)
      have hm:a[i]'(by omega)∈a:=List.getElem_mem _
      generalize a[i]'(by omega)=x at h2 hm
      generalize b[i]'(by omega)=y at h3
      have hsx:=hr x hm
      simp (disch:=omega) only [↓wr,↓reduceIte,wq,ai,ah,an,ab,af,ag,aj,isNil,Nat.reduceEqDiff,Nat.reduceAdd,Nat.reduceLT,Nat.reduceLeDiff,Int.reduceNeg,Int.reduceToNat,reduceCtorEq,h0,h1,h6,h7,h8,List.getElem?_map,h2,h3,bf,encI]
      intro n hn
      try simp (disch:=omega) only [↓wr,↓reduceIte,wq,ai,ah,an,ab,af,ag,aj,isNil,Nat.reduceEqDiff,Nat.reduceAdd,Nat.reduceLT,Nat.reduceLeDiff,Int.reduceNeg,Int.reduceToNat,reduceCtorEq,h0,h1,h6,h7,h8,List.getElem?_map,h2,h3,bf,encI]
      intro m hmd
      have hmn:=(eu hmd eH).1
      try simp (disch:=omega) only [↓wr,↓reduceIte,wq,ai,ah,an,ab,af,ag,aj,isNil,Nat.reduceEqDiff,Nat.reduceAdd,Nat.reduceLT,Nat.reduceLeDiff,Int.reduceNeg,Int.reduceToNat,reduceCtorEq,h0,h1,h6,h7,h8,List.getElem?_map,h2,h3,bf,encI,hmn,hmn.symm]
      refine aJ.pure (G3 x y hsx) (by kernel_rfl) ?_
      simp (disch:=omega) only [↓wr,↓reduceIte,wq,ai,ah,an,ab,af,ag,aj,isNil,Nat.reduceEqDiff,Nat.reduceAdd,Nat.reduceLT,Nat.reduceLeDiff,Int.reduceNeg,Int.reduceToNat,reduceCtorEq,h0,h1,h6,h7,h8]
      refine ay.split (fun e=>?_) (fun e=>?_)
      · simp (disch:=omega) only [↓wr,↓reduceIte,wq,ai,ah,an,ab,af,ag,aj,isNil,Nat.reduceEqDiff,Nat.reduceAdd,Nat.reduceLT,Nat.reduceLeDiff,Int.reduceNeg,Int.reduceToNat,reduceCtorEq,h0,h1,h6,h7,h8]
        exact bO hk (by omega) ⟨td h2 h3 hi (by simpa using e),h0,h1,h6,h7,rfl⟩
      · simp (disch:=omega) only [↓wr,↓reduceIte,wq,ai,ah,an,ab,af,ag,aj,isNil,Nat.reduceEqDiff,Nat.reduceAdd,Nat.reduceLT,Nat.reduceLeDiff,Int.reduceNeg,Int.reduceToNat,reduceCtorEq,h0,h1,h6,h7,h8]
        rw[decide_eq_false (zh h2 h3 (by simpa using e))]
    · simp (disch:=omega) only [↓wr,↓reduceIte,wq,ai,ah,an,ab,af,ag,aj,isNil,Nat.reduceEqDiff,Nat.reduceAdd,Nat.reduceLT,Nat.reduceLeDiff,Int.reduceNeg,Int.reduceToNat,reduceCtorEq,h0,h1,h6,h7,h8]
      rw[decide_eq_true (wu (by omega) (by omega) hi)]
theorem BD (a b:List aG) (ha:aU a) (hr:∀ r∈a,aU r.right):aC Tryz.prog 164 [.aF (a.map bf),.aF (b.map bf),.fn 165 [] []] (gb (decide (a=b))):=aC.val (by
  intro v hv; simp at hv
  rcases hv with rfl | rfl | rfl
  · exact dZ _ _ fun x _=>dN x
  · exact dZ _ _ fun x _=>dN x
  · exact w9 (by simp) (by simp)) (Aa a b ha hr)
theorem HX (g k:ao) (hg:g.Ok):aC Tryz.prog 110 [.agg (aR g),.agg (aR k)] (gb (decide (g=k))):=by
  refine aC.val (Fm g k) fun H=>?_
  rw[G2]
  refine aH.of mixed zb ?_
  simp (disch:=omega) only [↓wr,↓reduceIte,wq,ai,ah,an,ab,af,ag,aj,isNil,Nat.reduceEqDiff,Nat.reduceAdd,Nat.reduceLT,Nat.reduceLeDiff,Int.reduceNeg,Int.reduceToNat,reduceCtorEq,u5,aR,encS]
  repeat' (first | (refine ay.dec (fun _=>?_) (fun _=>?_)) | (refine ay.eq (fun _=>?_) (fun _=>?_)) | (refine ay.ne (fun _=>?_) (fun _=>?_)) | (refine ay.split (fun _=>?_) (fun _=>?_)) | (refine aJ.pure (Ff g.az k.az hg.az) (by kernel_rfl) ?_) | (refine aJ.pure (FL g.ax k.ax hg.ax) (by kernel_rfl) ?_) | (refine aJ.pure (BD g.rules k.rules hg.rules (fun r hr=>(hg.aT r hr).2.2.1)) (by kernel_rfl) ?_) | (simp (disch:=omega) only [↓wr,↓reduceIte,wq,ai,ah,an,ab,af,ag,aj,isNil,Nat.reduceEqDiff,Nat.reduceAdd,Nat.reduceLT,Nat.reduceLeDiff,Int.reduceNeg,Int.reduceToNat,reduceCtorEq,aR,encS]))
  all_goals simp_all [II]
def x5:SF:=⟨.seq (ar [cX 1 0,bd 2 false]) <|
  .seq (ar [aO 7 4 1,aD 8 109 [7],aa 6 8,ct 9 0 6,ct 10 1 6,ct 11 2 6,((some 3),.op (.alloc [(.emp 1),(.emp 1),(.emp 1),(.val (.int .i64 0))])),(none,.op (.store 4 (.tmp 3) (.tmp 9))),aa 4 10,aa 5 11]) <|
  .seq (.region false [⟨none,[aa 12 5,av 13 .eql 12 0,aa 14 13]⟩,⟨(some (14,true)),[aO 15 4 1,aO 16 4 3,aD 17 110 [15,16]]⟩,⟨none,[bC 18 14 17,aa 2 18]⟩]) <|
  .ret,
  [.tmp 2],19⟩
theorem AU:bm Tryz.prog 61 [1]=some x5:=by kernel_rfl
theorem JS (g:ao) (hg:g.Ok) (hs:g.Small):aC Tryz.prog 61 [.agg (aR g)] (gb (isRed g)):=by
  refine aC.val (ma g) fun H=>?_
  refine aH.of mixed AU ?_
  simp (disch:=omega) only [↓wr,↓reduceIte,wq,ai,ah,an,ab,af,ag,aj,isNil,Nat.reduceEqDiff,Nat.reduceAdd,Nat.reduceLT,Nat.reduceLeDiff,Int.reduceNeg,Int.reduceToNat,reduceCtorEq,x5,aR,encS]
  refine aJ.pure (Ek g hg hs).pure (by kernel_rfl) ?_
  unfold isRed
  generalize fE g=x
  obtain ⟨k,il,e⟩:=x
  simp (disch:=omega) only [↓wr,↓reduceIte,wq,ai,ah,an,ab,af,ag,aj,isNil,Nat.reduceEqDiff,Nat.reduceAdd,Nat.reduceLT,Nat.reduceLeDiff,Int.reduceNeg,Int.reduceToNat,reduceCtorEq,xB,aR,encS]
  intro n hn
  refine ay.eq (fun h=>?_) (fun h=>?_)
  · simp (disch:=omega) only [↓wr,↓reduceIte,wq,ai,ah,an,ab,af,ag,aj,isNil,Nat.reduceEqDiff,Nat.reduceAdd,Nat.reduceLT,Nat.reduceLeDiff,Int.reduceNeg,Int.reduceToNat,reduceCtorEq,xB,aR,encS]
    refine aJ.pure (HX g k hg) (by kernel_rfl) ?_
    simp (disch:=omega) only [↓wr,↓reduceIte,wq,ai,ah,an,ab,af,ag,aj,isNil,Nat.reduceEqDiff,Nat.reduceAdd,Nat.reduceLT,Nat.reduceLeDiff,Int.reduceNeg,Int.reduceToNat,reduceCtorEq]
    simp[h]
  · simp (disch:=omega) only [↓wr,↓reduceIte,wq,ai,ah,an,ab,af,ag,aj,isNil,Nat.reduceEqDiff,Nat.reduceAdd,Nat.reduceLT,Nat.reduceLeDiff,Int.reduceNeg,Int.reduceToNat,reduceCtorEq]
    simp[h]
def Kk:ao:=⟨[⟨⟨#[39,97,39]⟩,0,0⟩,⟨⟨#[39,98,39]⟩,0,0⟩,⟨⟨#[39,99,39]⟩,0,0⟩,⟨⟨#[39,100,39]⟩,0,0⟩],[⟨#[115]⟩,⟨#[117]⟩,⟨#[118]⟩],[⟨0,[0,(-2)],0⟩,⟨0,[1],1⟩,⟨0,[],(-1)⟩,⟨1,[(-2),2],2⟩,⟨2,[3,(-1)],3⟩],0⟩
def JL:ao:=⟨Kk.az,[⟨#[115]⟩],[⟨0,[1],1⟩,⟨0,[],(-1)⟩],0⟩
theorem jW:isRed JL=true:=by kernel_rfl
structure ao.Lz (g:ao):Prop where
  az:g.az.length≤40
  ax:g.ax.length≤40
  rules:g.rules.length≤60
  right:∀ r∈g.rules,r.right.length≤20
theorem dh.fr {h:aw} {v t:V} (f:dh h v t):Fr h v t:=by
  induction f with
  | val v=>exact .tree _ (.val _)
  | emp k=>exact .emp k
  | sl id off len esz z es es' h1 h2 h3 h4 _ ih=>exact .sl id off len esz z es es' h1 h2 h3 h4 ih
  | agg cs cs' h1 _ ih=>exact .agg cs cs' h1 ih
  | bc cs cs' h1 _ ih=>exact .bc cs cs' h1 ih
def vc (p:bt):List V:=[gi p.aT,gi p.bQ,gi p.rules,gi p.az]
abbrev DD (P:List bt):V:=.aF (P.map vc)
theorem DV (P:List bt):Tree (DD P):=dZ _ _ fun x _ v hv=>by
  simp[vc] at hv
  rcases hv with rfl | rfl | rfl | rfl <;> exact .val _
theorem DN (p:bt):∀ v∈vc p,Tree v:=by
  intro v hv; simp[vc] at hv
  rcases hv with rfl | rfl | rfl | rfl <;> exact .val _
def uM (H:View) (u:V) (P:List bt):Prop:=u=DD P∨aV H u 4 (P.map vc)
theorem uM.Dt {H:View} {u:V} {P:List bt} (h:uM H u P):df H u (DD P):=by
  rcases h with rfl | h
  · exact df.tree (DV P)
  · exact df.own h fun e he v hv=>by
      obtain ⟨p,_,rfl⟩:=List.mem_map.1 he
      exact DN p v hv
theorem uM.keep {H H':View} {u:V} {P:List bt} (h:uM H u P) (hk:∀ id,owner u=some id→H' id=H id):uM H' u P:=h.imp id fun h=>h.keep hk
theorem uM.live {H:View} {u:V} {P:List bt} (h:uM H u P) {id:Nat} (hid:owner u=some id):H id≠.dead:=by
  rcases h with rfl | h
  · simp[owner] at hid
  · rw[(h.live hid).1]; simp
def H9 (s:Int × Int):Prop:=(0≤s.1∧s.1≤1000)∧(0≤s.2∧s.2≤1000)
def ta (g:ao):List (Int × Int):=(cO g).map rC
theorem sP:rC ml=(0,0):=by decide
theorem G5 (g:ao) (m:Nat):mJ (ta g) m=rC (bH (cO g) m):=by
  simp only[ta,mJ,bH,List.getD_eq_getElem?_getD,List.getElem?_map]
  cases (cO g)[m]? <;> rfl
theorem Jz (g:ao) (m:Nat):H9 (rC (bH (cO g) m)):=by
  have h:jE (bH (cO g) m):=sN g _ m
  unfold jE at h
  unfold H9 rC; simp only; omega
def fH (g:ao) (j i:Nat) (S:List (Int × Int)):Prop:=S.length=g.ax.length∧∀ m,mJ S m=if (bH (cO g) m).bQ≤j∨((bH (cO g) m).bQ=j+1∧m < i) then rC (bH (cO g) m) else (0,0)
theorem fH.ok {g:ao} {j i:Nat} {S:List (Int × Int)} (h:fH g j i S) (m:Nat):H9 (mJ S m):=by
  rw[h.2 m]; split
  · exact Jz g m
  · unfold H9; simp
theorem I8 {S:List (Int × Int)} {i m:Nat} {v:Int × Int} (hm:m < S.length):mJ (S.set i v) m=if i=m then v else mJ S m:=by
  simp only[mJ,List.getD_eq_getElem?_getD,List.getElem?_set]
  split
  · rename_i e; subst e; simp[hm]
  · rfl
theorem fH.next {g:ao} {j i:Nat} {S:List (Int × Int)} (h:fH g j i S) (hi:(bH (cO g) i).bQ≠(j:Int)+1):fH g j (i+1) S:=⟨h.1,fun m=>by
  rw[h.2 m]
  by_cases e:m=i
  · subst e
    by_cases h1:(bH (cO g) m).bQ≤j
    · rw[if_pos (.inl h1),if_pos (.inl h1)]
    · rw[if_neg (by omega),if_neg (by omega)]
  · congr 1
    simp only[eq_iff_iff]
    constructor <;> rintro (h1 | h1) <;> first | exact .inl h1 | exact .inr ⟨h1.1,by omega⟩⟩
theorem fH.put {g:ao} {j i:Nat} {S:List (Int × Int)} (h:fH g j i S) (hi:(bH (cO g) i).bQ=(j:Int)+1) (hn:i < g.ax.length):fH g j (i+1) (S.set i (rC (bH (cO g) i))):=⟨by simp[h.1],fun m=>by
  by_cases hm:m < S.length
  · rw[I8 hm]
    by_cases e:i=m
    · subst e; rw[if_pos rfl,if_pos (.inr ⟨hi,by omega⟩)]
    · rw[if_neg e,h.2 m]
      congr 1
      simp only[eq_iff_iff]
      constructor <;> rintro (h1 | h1) <;> first | exact .inl h1 | exact .inr ⟨h1.1,by omega⟩
  · have:bH (cO g) m=ml:=pn (by rw[sn,← h.1]; omega)
    have e:mJ (S.set i (rC (bH (cO g) i))) m=(0,0):=by
      simp only[mJ,List.getD_eq_getElem?_getD]; rw[List.getElem?_eq_none (by simp; omega)]; rfl
    rw[e,this]
    split <;> simp[sP]⟩
theorem fH.KP {g:ao} {j:Nat} {S:List (Int × Int)} (h:fH g j g.ax.length S):fH g (j+1) 0 S:=⟨h.1,fun m=>by
  rw[h.2 m]
  by_cases hm:m < g.ax.length
  · congr 1
    simp only[eq_iff_iff]
    push_cast
    constructor
    · rintro (h1 | h1) <;> left <;> omega
    · rintro (h1 | h1)
      · omega
      · omega
  · have:bH (cO g) m=ml:=pn (by rw[sn]; omega)
    rw[this]; split <;> split <;> simp[sP]⟩
theorem fH.start (g:ao):fH g 0 0 (List.replicate g.ax.length (0,0)):=⟨by simp,fun m=>by
  have e:mJ (List.replicate g.ax.length (0,0)) m=(0,0):=by
    simp only[mJ,List.getD_eq_getElem?_getD,List.getElem?_replicate]
    split <;> rfl
  rw[e]
  split
  · rename_i h
    by_cases hk:bX (cO g) m
    · have:=(tK hk).1; omega
    · rw[AS hk]; simp[sP]
  · rfl⟩
theorem fH.done {g:ao} {S:List (Int × Int)} (h:fH g g.ax.length 0 S):S=ta g:=by
  apply List.ext_getElem (by simp[h.1,ta,sn])
  intro m h1 h2
  have e:S[m]=mJ S m:=by simp[mJ,List.getD_eq_getElem?_getD,h1]
  have e2:(ta g)[m]=mJ (ta g) m:=by simp[mJ,List.getD_eq_getElem?_getD,h2]
  rw[e,e2,h.2 m,G5]
  by_cases hk:bX (cO g) m
  · rw[if_pos (.inl (tK hk).2)]
  · rw[AS hk]; split <;> simp[sP]
def ix {κ:Type} (kv:κ→V) (m:cB κ):List (V × V × Nat):=m.map fun x=>(kv x.1,x.2.1,x.2.2)
structure LA {κ:Type} [BEq κ] (P:Program) (kt:TypeId) (kv:κ→V):Prop where
  find:∀ k e m,jn P kt (kv k) e (ix kv m)=some (gA k m)
  same:∀ k,sameKey (kv k) (kv k)=true
def zl {κ:Type} (m:cB κ) (c:Nat):Prop:=(m.map (·.2.2)).Nodup∧∀ x∈m,x.2.2 < c
def jc {κ:Type} [BEq κ] (m:cB κ) (k:κ):Option Nat:=(m.find? fun x=>k == x.1).map (·.2.2)
section
variable {κ:Type} [BEq κ] [LawfulBEq κ] {kv:κ→V}
theorem zW (k:κ):∀ m:cB κ,match gA k m with
    | some i=>∃ x,m[i]?=some x∧x.1=k∧getM m k=some x.2.1∧jc m k=some x.2.2∧(ix kv m)[i]?=some (kv k,x.2.1,x.2.2)∧∀ v c,(ix kv m).set i (kv k,v,x.2.2)=ix kv (cK k v c m)∧jc (cK k v c m) k=some x.2.2∧(cK k v c m).map (·.2.2)=m.map (·.2.2)
    | none=>getM m k=none∧jc m k=none∧∀ v c,ix kv m ++ [(kv k,v,c)]=ix kv (cK k v c m)∧jc (cK k v c m) k=some c∧(cK k v c m).map (·.2.2)=m.map (·.2.2) ++ [c]
  | []=>⟨rfl,rfl,fun v c=>⟨rfl,by simp[cK,jc],rfl⟩⟩
  | x :: r=>by
    have ih:=zW k r
    simp only[gA]
    cases hk:k == x.1 with
    | true =>
      have hx:x.1=k:=(eq_of_beq hk).symm
      exact ⟨x,rfl,hx,by simp[getM,hk],by simp[jc,hk],by simp[ix,hx],fun v c=>by simp[cK,hk,ix,jc]⟩
    | false =>
      simp only[Bool.false_eq_true,if_false]
      cases hi:gA k r with
      | some i =>
        rw[hi] at ih
        obtain ⟨y,h1,h2,h3,h4,h5,h6⟩:=ih
        refine ⟨y,by simpa using h1,h2,by simpa [getM,hk] using h3,by simpa [jc,hk] using h4,by simpa [ix] using h5,fun v c=>?_⟩
        obtain ⟨g1,g2,g3⟩:=h6 v c
        exact ⟨by simp only[ix] at g1 ⊢; simp[cK,hk,g1],by simpa [cK,hk,jc] using g2,by simp[cK,hk,g3]⟩
      | none =>
        rw[hi] at ih
        refine ⟨by simpa [getM,hk] using ih.1,by simpa [jc,hk] using ih.2.1,fun v c=>?_⟩
        obtain ⟨g1,g2,g3⟩:=ih.2.2 v c
        exact ⟨by simp only[ix] at g1 ⊢; simp[cK,hk,g1],by simpa [cK,hk,jc] using g2,by simp[cK,hk,g3]⟩
theorem zl.put {m:cB κ} {c:Nat} (h:zl m c) (k:κ) (v:V):zl (cK k v c m) (c+1):=by
  have hg:=zW (kv:=fun _=>V.any) k m
  cases hj:gA k m with
  | some j =>
    rw[hj] at hg
    obtain ⟨y,_,_,_,_,_,h6⟩:=hg
    have e:=(h6 v c).2.2
    refine ⟨by rw[e]; exact h.1,fun x hx=>?_⟩
    have:x.2.2∈m.map (·.2.2):=by rw[← e]; exact List.mem_map.2 ⟨x,hx,rfl⟩
    obtain ⟨y,hy,e2⟩:=List.mem_map.1 this
    have:=h.2 y hy
    omega
  | none =>
    rw[hj] at hg
    have e:=(hg.2.2 v c).2.2
    refine ⟨?_,fun x hx=>?_⟩
    · rw[e,List.nodup_append]
      refine ⟨h.1,by simp,fun a ha b hb=>?_⟩
      simp at hb; subst hb
      obtain ⟨y,hy,rfl⟩:=List.mem_map.1 ha
      have:=h.2 y hy
      omega
    · have:x.2.2∈m.map (·.2.2) ++ [c]:=by rw[← e]; exact List.mem_map.2 ⟨x,hx,rfl⟩
      rcases List.mem_append.1 this with h1 | h1
      · obtain ⟨y,hy,e2⟩:=List.mem_map.1 h1
        have:=h.2 y hy
        omega
      · simp at h1; omega
variable {P:Program} {T:Env} {H:View} {kt et t ty:TypeId}
end
def pR (x:Item):List V:=[an x.aT,an x.dot,an x.iZ]
def KN (x:Item):V:=.agg (pR x)
structure LC (P:Program) (kt:TypeId):Prop where
  ty:∃ f0 f1 f2:Field,P.underlying kt=some (.struct #[f0,f1,f2])∧f0.name≠ "_" ∧ f1.name≠ "_" ∧ f2.name≠ "_" ∧ P.underlying f0.type=some (.int .i64)∧P.underlying f1.type=some (.int .i64)∧P.underlying f2.type=some (.int .i64)∧f0.offset=0∧f1.offset=1∧f2.offset=2
  held:P.stoodInHeld kt=false
def Lg (m:cB Item) (s:List Item) (B:Nat):Prop:=∀ x,(x∈s→∃ k:Nat,getM m x=some (an k)∧1≤k∧k≤B)∧(x ∉ s→getM m x=none)
structure mK (H:View) (c sid mid:Nat) (sv:Nat→V) (mi:Nat→Nat) (mm:Nat→cB Item) (cl:Nat→Nat) (g:ao) (p:List Int) (nu:V) (S S1:Nat→List Item) (B n:Nat) (K:List (Nat × br)):Prop where
  box:H c=.arr 8 [[.aF (g.az.map cq),encS g.ax,.aF (g.rules.map bf),gi g.start,encI p,nu,.sl sid 0 n 1,.sl mid 0 n 1]]
  fS:H sid=.arr 1 ((List.range n).map fun j=>[sv j])
  seen:H mid=.arr 1 ((List.range n).map fun j=>[.mp (mi j)])
  set:∀ j,j < n→aV H (sv j) 3 ((S j).map pR)
  map:∀ j,j < n→H (mi j)=.map (ix KN (mm j)) (cl j)∧zl (mm j) (cl j)∧Lg (mm j) (S1 j) B
  ne:sid≠mid
  uF:∀ i j o,i < n→j < n→owner (sv i)=some o→owner (sv j)=some o→i=j
  DJ:∀ i j,i < n→j < n→mi i=mi j→i=j
  off:∀ q∈K,H q.1=q.2∧q.2≠.dead∧q.1≠sid∧(∀ j,j < n→q.1≠mi j)∧∀ j,j < n→owner (sv j)≠some q.1
def Ch (H:View) (c:Nat) (g:ao) (p:List Int) (nu:V) (S:Nat→List Item) (B n:Nat) (K:List (Nat × br)):Prop:=∃ sid mid sv mi mm cl,mK H c sid mid sv mi mm cl g p nu S S B n K
def sE (S:Nat→List Item) (a:Nat) (x:Item):Nat→List Item:=fun b=>if b=a then (if x∈S a then S a else S a ++ [x]) else S b
theorem Ch.more {H:View} {c:Nat} {g:ao} {p:List Int} {nu:V} {S:Nat→List Item} {B B' n:Nat} {K:List (Nat × br)} (h:Ch H c g p nu S B n K) (hB:B≤B'):Ch H c g p nu S B' n K:=by
  obtain ⟨sid,mid,sv,mi,mm,cl,h⟩:=h
  refine ⟨sid,mid,sv,mi,mm,cl,h.box,h.fS,h.seen,h.set,fun j hj=>⟨(h.map j hj).1,(h.map j hj).2.1,fun x=>⟨fun hx=>?_,((h.map j hj).2.2 x).2⟩⟩,h.ne,h.uF,h.DJ,h.off⟩
  obtain ⟨k,h1,h2,h3⟩:=((h.map j hj).2.2 x).1 hx
  exact ⟨k,h1,h2,by omega⟩
theorem Ch.drop {H:View} {c:Nat} {g:ao} {p:List Int} {nu:V} {S:Nat→List Item} {B n:Nat} {q:Nat × br} {K:List (Nat × br)} (h:Ch H c g p nu S B n (q :: K)):Ch H c g p nu S B n K:=by
  obtain ⟨sid,mid,sv,mi,mm,cl,h⟩:=h
  exact ⟨sid,mid,sv,mi,mm,cl,h.box,h.fS,h.seen,h.set,h.map,h.ne,h.uF,h.DJ,fun q hq=>h.off q (by simp[hq])⟩
theorem mK.new {H:View} {c sid mid:Nat} {sv:Nat→V} {mi:Nat→Nat} {mm:Nat→cB Item} {cl:Nat→Nat} {g:ao} {p:List Int} {nu:V} {S S1:Nat→List Item} {B n:Nat} {K:List (Nat × br)} (h:mK H c sid mid sv mi mm cl g p nu S S1 B n K)
    {b:Nat} {o:br} (hb:H b=.dead) (ho:o≠.dead):mK (H.set b o) c sid mid sv mi mm cl g p nu S S1 B n ((b,o) :: K):=by
  have keep:∀ id,H id≠.dead→(H.set b o) id=H id:=fun id hid=>by
    have e:id≠b:=by rintro rfl; exact hid hb
    simp[View.set,e]
  have live:∀ {id},H id≠.dead→b≠id:=fun hid e=>hid (e ▸ hb)
  refine ⟨?_,?_,?_,fun j hj=>?_,fun j hj=>?_,h.ne,h.uF,h.DJ,fun q hq=>?_⟩
  · rw[keep _ (by rw[h.box]; simp)]; exact h.box
  · rw[keep _ (by rw[h.fS]; simp)]; exact h.fS
  · rw[keep _ (by rw[h.seen]; simp)]; exact h.seen
  · exact (h.set j hj).fresh hb
  · rw[keep _ (by rw[(h.map j hj).1]; simp)]; exact h.map j hj
  · rcases List.mem_cons.1 hq with rfl | hq
    · refine ⟨by simp[View.set],ho,live (by rw[h.fS]; simp),fun j hj=>live (by rw[(h.map j hj).1]; simp),fun j hj=>?_⟩
      have:=(h.set j hj).ne hb
      exact this
    · obtain ⟨h1,h2,h3⟩:=h.off q hq
      exact ⟨by rw[keep _ (by rw[h1]; exact h2)]; exact h1,h2,h3⟩
theorem Ch.new {H:View} {c:Nat} {g:ao} {p:List Int} {nu:V} {S:Nat→List Item} {B n b:Nat} {o:br} {K:List (Nat × br)} (h:Ch H c g p nu S B n K) (hb:H b=.dead) (ho:o≠.dead):Ch (H.set b o) c g p nu S B n ((b,o) :: K):=by
  obtain ⟨sid,mid,sv,mi,mm,cl,h⟩:=h
  exact ⟨sid,mid,sv,mi,mm,cl,h.new hb ho⟩
theorem Ch.kept {H:View} {c:Nat} {g:ao} {p:List Int} {nu:V} {S:Nat→List Item} {B n:Nat} {K:List (Nat × br)} (h:Ch H c g p nu S B n K):∀ q∈K,H q.1=q.2:=by
  obtain ⟨sid,mid,sv,mi,mm,cl,h⟩:=h
  exact fun q hq=>(h.off q hq).1
theorem mK.Ls {H H':View} {c sid mid:Nat} {sv:Nat→V} {mi:Nat→Nat} {mm:Nat→cB Item} {cl:Nat→Nat} {g:ao} {p:List Int} {nu:V} {S S1:Nat→List Item} {B n:Nat} {K:List (Nat × br)} (h:mK H c sid mid sv mi mm cl g p nu S S1 B n K)
    {at0:Nat} (ha:at0 < n) {x:Item} (hx:¬ x∈S at0) {u':V} (ho:aV H' u' 3 ((S at0).map pR ++ [pR x])) (hl:Left H H' (sv at0) u') :
    mK (H'.set sid (.arr 1 (((List.range n).map fun j=>[sv j]).set at0 [u']))) c sid mid (fun j=>if j=at0 then u' else sv j) mi mm cl g p nu (sE S at0 x) S1 B n K:=by
  have own:∀ {id},owner (sv at0)=some id→H id=.arr 3 ((S at0).map pR):=fun hid=>((h.set at0 ha).live hid).1
  have n1:owner (sv at0)≠some sid:=fun e=>by
    have:=own e
    rw[h.fS] at this; simp at this
  have keep:∀ id,H id≠.dead→owner (sv at0)≠some id→H' id=H id∧owner u'≠some id:=hl
  have ns:=keep sid (by rw[h.fS]; simp) n1
  have keep2:∀ id,H id≠.dead→owner (sv at0)≠some id→id≠sid→(H'.set sid (.arr 1 (((List.range n).map fun j=>[sv j]).set at0 [u']))) id=H id:=fun id h1 h2 h3=>by
    simp only[View.set,if_neg h3]; exact (keep id h1 h2).1
  have no3:∀ {id o},H id=o→o≠.arr 3 ((S at0).map pR)→owner (sv at0)≠some id:=fun h1 h2 e=>h2 (by rw[← h1]; exact own e)
  refine ⟨?_,?_,?_,fun j hj=>?_,fun j hj=>?_,h.ne,fun i j o hi hj h1 h2=>?_,h.DJ,fun q hq=>?_⟩
  · rw[keep2 c (by rw[h.box]; simp) (no3 h.box (by simp)) (by rintro rfl; have:=h.box; rw[h.fS] at this; simp at this)]; exact h.box
  · simp only[View.set,if_true]
    congr 1
    rw[B7]
    apply List.map_congr_left
    intro j _
    split <;> rfl
  · rw[keep2 mid (by rw[h.seen]; simp) (no3 h.seen (by simp)) h.ne.symm]; exact h.seen
  · by_cases e:j=at0
    · subst e
      simp only[if_true,sE,if_neg hx,List.map_append,List.map_cons,List.map_nil]
      exact ho.other ns.2
    · simp only[if_neg e,sE]
      refine (h.set j hj).keep fun id hid=>?_
      have hlv:=((h.set j hj).live hid).1
      refine keep2 id (by rw[hlv]; simp) (fun e2=>e (h.uF j at0 id hj ha hid e2)) ?_
      rintro rfl; rw[h.fS] at hlv; simp at hlv
  · obtain ⟨g1,g2,g3⟩:=h.map j hj
    refine ⟨?_,g2,g3⟩
    rw[keep2 (mi j) (by rw[g1]; simp) (no3 g1 (by simp)) (by intro e; rw[e,h.fS] at g1; simp at g1)]; exact g1
  · by_cases e1:i=at0
    · by_cases e2:j=at0
      · omega
      · simp only[if_pos e1,if_neg e2] at h1 h2
        exfalso
        have hlv:=((h.set j hj).live h2).1
        exact (keep o (by rw[hlv]; simp) (fun e3=>e2 (h.uF j at0 o hj ha h2 e3))).2 h1
    · by_cases e2:j=at0
      · simp only[if_neg e1,if_pos e2] at h1 h2
        exfalso
        have hlv:=((h.set i hi).live h1).1
        exact (keep o (by rw[hlv]; simp) (fun e3=>e1 (h.uF i at0 o hi ha h1 e3))).2 h2
      · simp only[if_neg e1,if_neg e2] at h1 h2
        exact h.uF i j o hi hj h1 h2
  · obtain ⟨h1,h2,h3,h4,h5⟩:=h.off q hq
    refine ⟨?_,h2,h3,h4,fun j hj=>?_⟩
    · rw[keep2 q.1 (by rw[h1]; exact h2) (h5 at0 ha) h3]; exact h1
    · by_cases e:j=at0
      · simp only[if_pos e]; exact (keep q.1 (by rw[h1]; exact h2) (h5 at0 ha)).2
      · simp only[if_neg e]; exact h5 j hj
inductive zM (g:ao) (p:List Int):Int→Nat→Prop
  | start:zM g p g.start 0
  | step (R:aG) (l1 l2:List Int) (n:Int) (f a:Nat):R∈g.rules→R.right=l1 ++ (-1 - n) :: l2→zM g p R.left f→Sp g p l1 f a→zM g p n a
def Es (g:ao) (p:List Int) (x:Item):Prop:=∃ R,g.rules[x.aT]?=some R∧zM g p R.left x.iZ
inductive Bv (g:ao) (p:List Int):Int→Nat→Prop
  | full (R:aG) (l1 l2:List Int) (f:Nat):R∈g.rules→R.right=l1 ++ l2→Sp g p l1 f p.length→Bv g p R.left f
  | deep (R:aG) (l1 l2:List Int) (s:Int) (f a:Nat):R∈g.rules→R.right=l1 ++ s :: l2→s < 0→Sp g p l1 f a→a < p.length→Bv g p (-1 - s) a→Bv g p R.left f
theorem zM.len {g:ao} {p:List Int} {n:Int} {a:Nat} (h:zM g p n a):a≤p.length:=by
  induction h with
  | start=>omega
  | step _ _ _ _ _ _ _ _ _ hs ih=>exact hs.len ih
theorem IK {l:List Int} {d:Nat} {s:Int} (h:l[d]?=some s):l=l.take d ++ s :: l.drop (d+1):=by
  have h1:=(List.getElem?_eq_some_iff.1 h)
  obtain ⟨hl,he⟩:=h1
  rw[← he]
  simp
theorem Es.ask {g:ao} {p:List Int} {a:Nat} {x:Item} (h:Es g p x) (hs:Sound g p a x) {R:aG} (hR:g.rules[x.aT]?=some R) {s:Int} (hd:R.right[x.dot]?=some s):zM g p (-1 - s) a:=by
  obtain ⟨R1,h1,h2⟩:=h
  obtain ⟨R2,h3,_,_,h4⟩:=hs
  rw[hR] at h1 h3; simp at h1 h3; subst h1; subst h3
  refine .step R (R.right.take x.dot) (R.right.drop (x.dot+1)) (-1 - s) x.iZ a (List.mem_of_getElem? hR) ?_ h2 h4
  rw[show -1 - (-1 - s)=s by omega]
  exact IK hd
theorem Sp.cut {g:ao} {p:List Int} {k:Nat} {l:List Int} {i j:Nat} (h:Sp g p l i j):j≤k→Sp g (p.take k) l i j:=by
  induction h with
  | nil i=>exact fun _=>.nil i
  | term s l i j h0 hf h ih =>
    intro hk
    have:=h.le
    obtain ⟨c,hc,h2⟩:=hf
    exact .term s l i j h0 ⟨c,by rw[List.getElem?_take,if_pos (by omega)]; exact hc,h2⟩ (ih hk)
  | cW s l R i m j h0 hR hl h1 h2 ih1 ih2 =>
    intro hk
    have:=h2.le
    exact .cW s l R i m j h0 hR hl (ih1 (by omega)) (ih2 hk)
def Grow (a:Nat) (S S':Nat→List Item):Prop:=∀ b,S b <+: S' b∧(b < a→S' b=S b)
structure Good (g:ao) (p:List Int) (S:Nat→List Item):Prop where
  nodup:∀ a,(S a).Nodup
  sound:∀ a x,x∈S a→Sound g p a x
  top:∀ a x,x∈S a→Es g p x
  out:∀ a,p.length < a→S a=[]
theorem Grow.refl (a:Nat) (S:Nat→List Item):Grow a S S:=fun _=>⟨List.prefix_refl _,fun _=>rfl⟩
theorem Grow.trans {a:Nat} {S S' S'':Nat→List Item} (h:Grow a S S') (h':Grow a S' S''):Grow a S S'':=fun b=>⟨(h b).1.trans (h' b).1,fun hb=>((h' b).2 hb).trans ((h b).2 hb)⟩
theorem Grow.mem {a b:Nat} {S S':Nat→List Item} (h:Grow a S S') {x:Item} (hx:x∈S b):x∈S' b:=(h b).1.subset hx
theorem Good.put {g:ao} {p:List Int} {S:Nat→List Item} (h:Good g p S) {a:Nat} {x:Item} (hx:Sound g p a x) (ht:Es g p x) (ha:a≤p.length):Good g p (sE S a x):=by
  refine ⟨fun b=>?_,fun b y hy=>?_,fun b y hy=>?_,fun b hb=>?_⟩
  · unfold sE
    split
    · rename_i e
      subst e
      split
      · exact h.nodup _
      · rename_i hn
        rw[List.nodup_append]
        refine ⟨h.nodup _,by simp,fun u hu v hv=>?_⟩
        simp at hv
        rintro rfl
        exact hn (hv ▸ hu)
    · exact h.nodup _
  · unfold sE at hy
    split at hy
    · rename_i e
      subst e
      split at hy
      · exact h.sound _ _ hy
      · rcases List.mem_append.1 hy with hy | hy
        · exact h.sound _ _ hy
        · simp at hy; subst hy; exact hx
    · exact h.sound _ _ hy
  · unfold sE at hy
    split at hy
    · rename_i e
      subst e
      split at hy
      · exact h.top _ _ hy
      · rcases List.mem_append.1 hy with hy | hy
        · exact h.top _ _ hy
        · simp at hy; subst hy; exact ht
    · exact h.top _ _ hy
  · unfold sE
    rw[if_neg (by omega)]
    exact h.out b hb
theorem n0:∀ (N:Nat) (l:List Nat),l.Nodup→(∀ x∈l,x < N)→l.length≤N
  | 0,l,_,h=>by
    cases l with
    | nil=>simp
    | cons x l=>exact absurd (h x (by simp)) (by omega)
  | N+1,l,hd,h=>by
    by_cases e:N∈l
    · have h1:=n0 N (l.erase N) (hd.erase N) fun x hx=>by
        have h2:=(hd.mem_erase_iff).1 hx
        have:=h x h2.2
        have:=h2.1
        omega
      rw[List.length_erase_of_mem e] at h1
      omega
    · have:=n0 N l hd fun x hx=>by
        have:=h x hx
        have:x≠N:=by rintro rfl; exact e hx
        omega
      omega
theorem yT {α:Type} {f:α→Nat} : ∀ {l:List α},l.Nodup→(∀ x∈l,∀ y∈l,f x=f y→x=y)→(l.map f).Nodup
  | [],_,_=>by simp
  | x :: l,hd,h=>by
    rw[List.nodup_cons] at hd
    rw[List.map_cons,List.nodup_cons]
    refine ⟨fun hm=>?_,yT hd.2 fun a ha b hb=>h a (by simp[ha]) b (by simp[hb])⟩
    obtain ⟨y,hy,e⟩:=List.mem_map.1 hm
    have:=h y (by simp[hy]) x (by simp) e
    exact hd.1 (this ▸ hy)
theorem Sound.small {g:ao} (hf:g.rj) {p:List Int} {a:Nat} {x:Item} (h:Sound g p a x):x.aT < 40∧x.dot < 7∧x.iZ≤a:=by
  obtain ⟨R,hR,hd,hfr,_⟩:=h
  have h1:=(List.getElem?_eq_some_iff.1 hR).1
  have h2:=hf.rules
  have h3:=hf.right R (List.mem_of_getElem? hR)
  omega
theorem Good.len {g:ao} (hf:g.rj) {p:List Int} (hp:p.length≤60) {S:Nat→List Item} (h:Good g p S) (a:Nat):(S a).length≤17080:=by
  by_cases ha:p.length < a
  · rw[h.out a ha]; simp
  · have hb:∀ x∈S a,x.aT < 40∧x.dot < 7∧x.iZ < 61:=fun x hx=>by
      have:=(h.sound a x hx).small hf
      omega
    have:=n0 17080 ((S a).map fun x=>x.aT * 427+x.dot * 61+x.iZ) (yT (h.nodup a) fun x hx y hy e=>by
      have h1:=hb x hx
      have h2:=hb y hy
      cases x; cases y
      simp only at e h1 h2
      simp only[Item.mk.injEq]
      omega) (fun v hv=>by
      obtain ⟨x,hx,rfl⟩:=List.mem_map.1 hv
      have:=hb x hx
      omega)
    simpa using this
theorem Ch.box {H:View} {c:Nat} {g:ao} {p:List Int} {nu:V} {S:Nat→List Item} {B n:Nat} {K:List (Nat × br)} (h:Ch H c g p nu S B n K) :
    ∃ sid mid,H c=.arr 8 [[.aF (g.az.map cq),encS g.ax,.aF (g.rules.map bf),gi g.start,encI p,nu,.sl sid 0 n 1,.sl mid 0 n 1]]:=by
  obtain ⟨sid,mid,sv,mi,mm,cl,h⟩:=h
  exact ⟨sid,mid,h.box⟩
theorem Ch.set {H:View} {c:Nat} {g:ao} {p:List Int} {nu:V} {S:Nat→List Item} {B n:Nat} {K:List (Nat × br)} (h:Ch H c g p nu S B n K) {a:Nat} (ha:a < n) :
    ∃ (sid mid:Nat) (sv:Nat→V),H c=.arr 8 [[.aF (g.az.map cq),encS g.ax,.aF (g.rules.map bf),gi g.start,encI p,nu,.sl sid 0 n 1,.sl mid 0 n 1]]∧H sid=.arr 1 ((List.range n).map fun j=>[sv j])∧aV H (sv a) 3 ((S a).map pR):=by
  obtain ⟨sid,mid,sv,mi,mm,cl,h⟩:=h
  exact ⟨sid,mid,sv,h.box,h.fS,h.set a ha⟩
def Kz (g:ao) (cW:Int) (S:Nat→List Item) (at_:Nat) (x:Item):Prop:=∀ R,g.rules[x.aT]?=some R→R.right[x.dot]?=some (-1 - cW)→(⟨x.aT,x.dot+1,x.iZ⟩:Item)∈S at_
theorem Sound.on {g:ao} {p:List Int} {f a:Nat} {x:Item} (h:Sound g p f x) {R:aG} (hR:g.rules[x.aT]?=some R) {s:Int} (hs:R.right[x.dot]?=some s) (hsp:Sp g p [s] f a):Sound g p a ⟨x.aT,x.dot+1,x.iZ⟩:=by
  obtain ⟨R',hR',h1,h2,h3⟩:=h
  rw[hR] at hR'; simp at hR'; subst hR'
  have hlt:=(List.getElem?_eq_some_iff.1 hs).1
  refine ⟨R,hR,hlt,Nat.le_trans h2 hsp.le,?_⟩
  have:R.right.take (x.dot+1)=R.right.take x.dot ++ [s]:=by rw[List.take_add_one,hs]; rfl
  rw[this]
  exact h3.app hsp
structure HV (g:ao) (p:List Int) (S:Nat→List Item) (a:Nat) (x:Item):Prop where
  term:∀ R s,g.rules[x.aT]?=some R→R.right[x.dot]?=some s→0≤s→kz p a s→(⟨x.aT,x.dot+1,x.iZ⟩:Item)∈S (a+1)
  pred:∀ R s i R',g.rules[x.aT]?=some R→R.right[x.dot]?=some s→s < 0→g.rules[i]?=some R'→R'.left = -1 - s→(⟨i,0,a⟩:Item)∈S a
  null:∀ R s,g.rules[x.aT]?=some R→R.right[x.dot]?=some s→s < 0→(aB g false).getD (-1 - s).toNat false=true→(⟨x.aT,x.dot+1,x.iZ⟩:Item)∈S a
  comp:∀ R,g.rules[x.aT]?=some R→x.dot=R.right.length→x.iZ < a→∀ y∈S x.iZ,Kz g R.left S a y
theorem HV.grow {g:ao} {p:List Int} {S S':Nat→List Item} {a:Nat} {x:Item} (h:HV g p S a x) (hg:Grow a S S'):HV g p S' a x where
  term:=fun R s h1 h2 h3 h4=>hg.mem (h.term R s h1 h2 h3 h4)
  pred:=fun R s i R' h1 h2 h3 h4 h5=>hg.mem (h.pred R s i R' h1 h2 h3 h4 h5)
  null:=fun R s h1 h2 h3 h4=>hg.mem (h.null R s h1 h2 h3 h4)
  comp:=fun R h1 h2 h3 y hy R' h4 h5=>hg.mem (h.comp R h1 h2 h3 y (by rw[(hg x.iZ).2 h3] at hy; exact hy) R' h4 h5)
structure qt (H:View) (c sid:Nat) (u:V) (mi:Nat→Nat) (g:ao) (p:List Int) (nu:V) (n k:Nat):Prop where
  box:H c=.arr 8 [[.aF (g.az.map cq),encS g.ax,.aF (g.rules.map bf),gi g.start,encI p,nu,.sl sid 0 n 1,u]]
  fS:H sid=.arr 1 ((List.range n).map fun _=>[.emp 1])
  seen:aV H u 1 ((List.range k).map fun j=>[.mp (mi j)])
  map:∀ j,j < k→H (mi j)=.map [] 0
  inj:∀ i j,i < k→j < k→mi i=mi j→i=j
theorem qt.JJ {H:View} {c sid:Nat} {u:V} {mi:Nat→Nat} {g:ao} {p:List Int} {nu:V} {n k:Nat} (h:qt H c sid u mi g p nu n k) (hn:0 < n):owner u≠some sid:=fun e=>by
  have h1:=(h.seen.live e).1
  rw[h.fS] at h1
  simp only[br.arr.injEq,true_and] at h1
  have h2:=congrArg (·[0]?) h1
  simp[hn] at h2
  by_cases hk:0 < k
  · simp[hk] at h2
  · have:k=0:=by omega
    subst this
    simp at h2
theorem qt.KR {H:View} {c sid:Nat} {u:V} {mi:Nat→Nat} {g:ao} {p:List Int} {nu:V} {n k:Nat} (h:qt H c sid u mi g p nu n k):owner u≠some c:=fun e=>by
  have h1:=(h.seen.live e).1
  rw[h.box] at h1
  simp at h1
theorem qt.Lw {H:View} {c sid:Nat} {u:V} {mi:Nat→Nat} {g:ao} {p:List Int} {nu:V} {n:Nat} (h:qt H c sid u mi g p nu n n) (hn:0 < n):Ch H c g p nu (fun _=>[]) 0 n []:=by
  obtain ⟨mid,hu,hm⟩:=h.seen.sl (by simp; omega)
  have hoff:=h.JJ hn
  refine ⟨sid,mid,fun _=>.emp 1,mi,fun _=>[],fun _=>0,?_,h.fS,hm,fun j hj=>aV.nil,fun j hj=>⟨h.map j hj,?_,fun x=>⟨fun hx=>by simp at hx,fun _=>rfl⟩⟩,?_,fun i j o _ _ h1=>by simp[owner] at h1,fun i j hi hj e=>h.inj i j hi hj e,fun q hq=>by simp at hq⟩
  · have:=h.box
    rw[hu] at this
    simpa using this
  · exact ⟨by simp,fun x hx=>by simp at hx⟩
  · rintro rfl
    rw[hu] at hoff
    exact hoff rfl
theorem qt.next {H H2:View} {c sid m:Nat} {u u':V} {mi:Nat→Nat} {g:ao} {p:List Int} {nu:V} {n k:Nat} (h:qt H c sid u mi g p nu n k) (hn:0 < n) (hm:H m=.dead) (ho:aV H2 u' 1 (((List.range k).map fun j=>[.mp (mi j)]) ++ [[.mp m]])) (hm2:H2 m=.map [] 0)
    (hl:∀ id,H id≠.dead→owner u≠some id→H2 id=H id∧owner u'≠some id) :
    qt (H2.set c (.arr 8 [[.aF (g.az.map cq),encS g.ax,.aF (g.rules.map bf),gi g.start,encI p,nu,.sl sid 0 n 1,u']])) c sid u' (fun j=>if j=k then m else mi j) g p nu n (k+1):=by
  have hC:=hl c (by rw[h.box]; simp) h.KR
  have hS:=hl sid (by rw[h.fS]; simp) (h.JJ hn)
  have hcs:sid≠c:=by rintro rfl; have:=h.box; rw[h.fS] at this; simp at this
  have hmn:∀ j,j < k→mi j≠m:=fun j hj e=>by have:=h.map j hj; rw[e,hm] at this; simp at this
  refine ⟨by simp[View.set],?_,?_,fun j hj=>?_,fun i j hi hj e=>?_⟩
  · simp only[View.set,if_neg hcs]
    rw[hS.1]; exact h.fS
  · refine aV.other ?_ hC.2
    have:(List.range (k+1)).map (fun j=>[V.mp (if j=k then m else mi j)])=(List.range k).map (fun j=>[V.mp (mi j)]) ++ [[.mp m]]:=by
      rw[List.range_succ,List.map_append,List.map_cons,List.map_nil,if_pos rfl]
      congr 1
      apply List.map_congr_left
      intro j hj
      rw[if_neg (by have:=List.mem_range.1 hj; omega)]
    rw[this]; exact ho
  · by_cases e:j=k
    · simp only[if_pos e]
      have:m≠c:=by rintro rfl; rw[h.box] at hm; simp at hm
      simp only[View.set,if_neg this]
      exact hm2
    · simp only[if_neg e]
      have h1:=h.map j (by omega)
      have:mi j≠c:=by intro e2; rw[e2,h.box] at h1; simp at h1
      simp only[View.set,if_neg this]
      rw[(hl (mi j) (by rw[h1]; simp) (fun e2=>by have:=(h.seen.live e2).1; rw[h1] at this; simp at this)).1]
      exact h1
  · by_cases e1:i=k
    · by_cases e2:j=k
      · omega
      · simp only[if_pos e1,if_neg e2] at e
        exact absurd e.symm (hmn j (by omega))
    · by_cases e2:j=k
      · simp only[if_neg e1,if_pos e2] at e
        exact absurd e (hmn i (by omega))
      · simp only[if_neg e1,if_neg e2] at e
        exact h.inj i j (by omega) (by omega) e
def Kept (H H':View):Prop:=∀ id,H id≠.dead→H' id=H id
theorem Kept.refl (H:View):Kept H H:=fun _ _=>rfl
theorem Kept.trans {H H' H'':View} (h:Kept H H') (h':Kept H' H''):Kept H H'':=fun id hid=>by
  have h1:=h id hid
  rw[← h1] at hid
  rw[h' id hid,h1]
theorem Kept.new {H:View} {b:Nat} {o:br} (hb:H b=.dead):Kept H (H.set b o):=fun id hid=>by
  have:id≠b:=by rintro rfl; exact hid hb
  simp[View.set,this]
def HR (H:View) (c:Nat) (g:ao) (p:List Int):Prop:=∃ nu sid mid n,H c=.arr 8 [[.aF (g.az.map cq),encS g.ax,.aF (g.rules.map bf),gi g.start,encI p,nu,.sl sid 0 n 1,.sl mid 0 n 1]]
theorem HR.keep {H H':View} {c:Nat} {g:ao} {p:List Int} (h:HR H c g p) (hs:Kept H H'):HR H' c g p:=by
  obtain ⟨nu,sid,mid,n,h⟩:=h
  exact ⟨nu,sid,mid,n,by rw[hs c (by rw[h]; simp)]; exact h⟩
abbrev Pt:=List (List Bool)
def Ai (P:Pt) (N M:Nat):Prop:=P.length=N∧∀ r∈P,r.length=M
def Kf (P:Pt):V:=.aF (P.map fun c=>[cg c])
theorem Ai.row {P:Pt} {N M n:Nat} (h:Ai P N M) (hn:n < N):∃ r,P[n]?=some r∧r.length=M∧P.getD n []=r:=by
  have hl:n < P.length:=by rw[h.1]; exact hn
  exact ⟨P[n],List.getElem?_eq_getElem hl,h.2 _ (List.getElem_mem hl),by simp[List.getD_eq_getElem?_getD,hl]⟩
structure jq (H:View) (I N M:Nat) (R:Nat→Nat) (P:Pt):Prop where
  top:H I=.arr 1 ((List.range N).map fun n=>[.sl (R n) 0 M 1])
  row:∀ n,n < N→H (R n)=.arr 1 (du (P.getD n []))
  inj:∀ n n',n < N→n' < N→R n=R n'→n=n'
structure zL (H:View) (I N M k:Nat) (R:Nat→Nat):Prop where
  top:H I=.arr 1 ((List.range N).map fun n=>[if n < k then .sl (R n) 0 M 1 else .emp 1])
  row:∀ n,n < k→H (R n)=.arr 1 (List.replicate M [gb false])
  inj:∀ n n',n < k→n' < k→R n=R n'→n=n'
def JB (N M:Nat):Pt:=List.replicate N (List.replicate M false)
def DI (P:Pt) (n i:Nat):Pt:=P.set n ((P.getD n []).set i true)
theorem jq.KO {H:View} {I N M:Nat} {R:Nat→Nat} {P:Pt} (h:jq H I N M R P) (hP:Ai P N M) (hM:0 < M) {n:Nat} (hn:n < N):I≠R n:=fun e=>by
  have h1:=h.row n hn
  obtain ⟨r,_,h2,h3⟩:=hP.row hn
  rw[← e,h.top,h3] at h1
  simp only[br.arr.injEq,true_and] at h1
  exact uv (by omega) h1.symm fun _ _=>by simp
theorem jq.keep {H H':View} {I N M:Nat} {R:Nat→Nat} {P:Pt} (h:jq H I N M R P) (hk:∀ id,H id≠.dead→H' id=H id):jq H' I N M R P :=
  ⟨by rw[hk _ (by rw[h.top]; simp)]; exact h.top,fun n hn=>by rw[hk _ (by rw[h.row n hn]; simp)]; exact h.row n hn,h.inj⟩
theorem jq.put {H:View} {I N M:Nat} {R:Nat→Nat} {P:Pt} (h:jq H I N M R P) (hP:Ai P N M) {n i:Nat} (hn:n < N) (hi:i < M) :
    jq (H.set (R n) (.arr 1 (du ((P.getD n []).set i true)))) I N M R (DI P n i):=by
  have hI:=h.KO hP (by omega) hn
  have hnl:n < P.length:=by rw[hP.1]; exact hn
  refine ⟨by simp only[View.set,if_neg hI]; exact h.top,fun m hm=>?_,h.inj⟩
  by_cases e:R m=R n
  · have:=h.inj m n hm hn e
    subst this
    simp only[View.set,if_true]
    congr 2
    simp[DI,List.getD_eq_getElem?_getD,hnl]
  · simp only[View.set,if_neg e]
    rw[h.row m hm]
    congr 2
    have:n≠m:=fun e2=>e (by rw[e2])
    simp[DI,List.getD_eq_getElem?_getD,List.getElem?_set,this]
theorem jq.Dt {H:View} {I N M:Nat} {R:Nat→Nat} {P:Pt} (hG:jq H I N M R P) (hP:Ai P N M):df H (.sl I 0 N 1) (Kf P):=by
  rintro h rfl
  refine dh.JK ?_
  refine .sl I 0 N 1 1 _ _ hG.top (by simp) (by simp[hP.1]) (fun n hn=>?_) (fun n j hn hj=>?_)
  · obtain ⟨r,hr,_⟩:=hP.row hn
    simp[List.getD_eq_getElem?_getD,hr,hn]
  · obtain ⟨r,hr,hrl,hrg⟩:=hP.row hn
    have e1:((P.map fun c=>[cg c]).getD n [])=[cg r]:=by simp[List.getD_eq_getElem?_getD,hr]
    have e2:(((List.range N).map fun n=>[V.sl (R n) 0 M 1]).getD (0+n) [])=[V.sl (R n) 0 M 1]:=by simp[List.getD_eq_getElem?_getD,hn]
    rw[e1] at hj ⊢
    rw[e2]
    have:j=0:=by simp at hj; omega
    subst this
    simp only[List.getD_cons_zero]
    have hro:=hG.row n hn
    rw[hrg] at hro
    have:=sF (h:=h) (id:=R n) (is:=r) hro
    rwa [hrl] at this
theorem zL.done {H:View} {I N M:Nat} {R:Nat→Nat} (h:zL H I N M N R):jq H I N M R (JB N M):=by
  refine ⟨?_,fun n hn=>?_,h.inj⟩
  · rw[h.top]
    congr 1
    apply List.map_congr_left
    intro n hn
    rw[if_pos (by simpa using hn)]
  · rw[h.row n hn]
    simp[JB,List.getD_eq_getElem?_getD,hn]
theorem zL.next {H:View} {I N M k:Nat} {R:Nat→Nat} {r:Nat} (h:zL H I N M k R) (hk:k < N) (hr:H r=.dead) :
    zL ((H.set r (.arr 1 (List.replicate M [gb false]))).set I (.arr 1 ((List.range N).map fun n=>[if n < k+1 then .sl (if n=k then r else R n) 0 M 1 else .emp 1]))) I N M (k+1) (fun n=>if n=k then r else R n):=by
  have hI:r≠I:=by rintro rfl; rw[h.top] at hr; simp at hr
  have hRI:∀ n,n < k→R n≠I:=fun n hn e=>by
    have h1:=h.row n hn
    rw[e,h.top] at h1
    simp only[br.arr.injEq,true_and] at h1
    have h2:=congrArg (·[0]?) h1
    simp only[List.getElem?_map,List.getElem?_range (show 0 < N by omega),List.getElem?_replicate] at h2
    split at h2 <;> simp at h2
    split at h2 <;> simp at h2
  have hRr:∀ n,n < k→R n≠r:=fun n hn e=>by have:=h.row n hn; rw[e,hr] at this; simp at this
  refine ⟨by simp[View.set],fun n hn=>?_,fun n n' hn hn' e=>?_⟩
  · by_cases e:n=k
    · simp only[if_pos e,View.set,if_neg hI,if_true]
    · simp only[if_neg e,View.set,if_neg (hRI n (by omega)),if_neg (hRr n (by omega))]
      exact h.row n (by omega)
  · by_cases e1:n=k
    · by_cases e2:n'=k
      · omega
      · simp only[if_pos e1,if_neg e2] at e
        exact absurd e.symm (hRr n' (by omega))
    · by_cases e2:n'=k
      · simp only[if_neg e1,if_pos e2] at e
        exact absurd e (hRr n (by omega))
      · simp only[if_neg e1,if_neg e2] at e
        exact h.inj n n' (by omega) (by omega) e
def Iy:List Int:=[37,37,32,115,32,58,32,39,97,39,32,115,32,124,32,59]
def nk:ao:=⟨[⟨⟨#[39,97,39]⟩,0,0⟩],[⟨#[115]⟩],[⟨0,[0,(-1)],0⟩,⟨0,[],(-1)⟩],0⟩
def Iw:ao:=⟨[⟨⟨#[39,97,39]⟩,0,0⟩,⟨⟨#[39,98,39]⟩,0,0⟩],[⟨#[115]⟩,⟨#[110]⟩],[⟨0,[(-1),(-1)],(-1)⟩,⟨0,[(-2),0,(-2),1],1⟩,⟨0,[],(-1)⟩,⟨1,[(-2)],(-1)⟩,⟨1,[],(-1)⟩],0⟩
theorem J1:cJ Tryz.prog 49 [uA Iy] (lZ nk):=B5 (by kernel_rfl)
section
variable {g:ao} {p:List Int} {T:Tb} {N:Nat}
end
theorem n6 (p:List Int) (i:Nat):Sp Iw p [-2] i i:=.cW (-2) [] ⟨1,[],-1⟩ i i i (by decide) (by simp[Iw]) (by decide) (.nil i) (.nil i)
theorem IB {g:ao} (hr:bz g=true) {p l:List Int} {i j:Nat} (h:Sp g p l i j):dg l (aB g true) true=true:=by
  induction h with
  | nil=>rfl
  | term s l i j h0 _ _ ih =>
    simp only[dg,List.all_cons,Bool.and_eq_true] at ih ⊢
    rw[if_pos h0]
    exact ⟨rfl,ih⟩
  | cW s l R i k j h0 hR hl _ _ ih1 ih2 =>
    have g1:=mN hr hR ih1
    rw[hl] at g1
    simp only[dg,List.all_cons,Bool.and_eq_true] at ih2 ⊢
    rw[if_neg (by omega)]
    exact ⟨g1,ih2⟩
section
variable {g r:ao} {p q:List Bool} {o:List Int}
theorem c5.sp (h:c5 g p q o r) {w l:List Int} {i j:Nat} (hs:Sp g w l i j):(∀ s∈l,s < 0→-1 - s∈o)→Sp r w (l.map fun s=>if s < 0 then -1 - bp o (-1 - s) else s) i j:=by
  induction hs with
  | nil=>exact fun _=>.nil _
  | term s l i j h0 hf _ ih =>
    intro hl
    rw[List.map_cons,if_neg (by omega)]
    exact .term s _ i j h0 hf (ih fun s hs=>hl s (by simp[hs]))
  | cW s l R i k j h0 hR hle h1 _ ih1 ih2 =>
    intro hl
    have hso:=hl s (by simp) h0
    obtain ⟨R1,hR1,hk1,e1⟩:=h.from_ _ hso
    have hk:bo p q R=true:=by
      rw[bo,Bool.and_eq_true] at hk1 ⊢
      refine ⟨by rw[hle,← e1]; exact hk1.1,?_⟩
      rw[h.pe]
      exact IB h.right h1
    have hin:=(h.kept R hR hk).2
    have hm:bh (bp o) R∈r.rules:=by rw[h.rules]; exact List.mem_map.2 ⟨R,List.mem_filter.2 ⟨hR,hk⟩,rfl⟩
    have hb:=gQ hso
    rw[List.map_cons,if_pos h0]
    exact .cW _ _ (bh (bp o) R) i k j (by omega) hm (by simp only[bh]; rw[hle]; omega) (ih1 hin) (ih2 fun s hs=>hl s (by simp[hs]))
end
theorem F2 {g:ao} {p:List Int} {k:Nat} (hk:k≤p.length) {l:List Int} {i j:Nat} (h:Sp g p l i j):i≤k→k≤j →
    (∃ l1 l2,l=l1 ++ l2∧Sp g (p.take k) l1 i k)∨(∃ l1 s l2 a,l=l1 ++ s :: l2∧s < 0∧Sp g (p.take k) l1 i a∧a < k∧Bv g (p.take k) (-1 - s) a):=by
  induction h with
  | nil i =>
    intro h1 h2
    have:i=k:=by omega
    subst this
    exact .inl ⟨[],[],rfl,.nil _⟩
  | term s l i j h0 hf hs ih =>
    intro h1 h2
    by_cases e:i=k
    · subst e; exact .inl ⟨[],s :: l,rfl,.nil _⟩
    · have hf':kz (p.take k) i s:=by
        obtain ⟨c,hc,h3⟩:=hf
        exact ⟨c,by rw[List.getElem?_take,if_pos (by omega)]; exact hc,h3⟩
      rcases ih (by omega) h2 with ⟨l1,l2,e2,h3⟩ | ⟨l1,s',l2,a,e2,h3,h4,h5,h6⟩
      · exact .inl ⟨s :: l1,l2,by rw[e2]; rfl,.term s l1 i k h0 hf' h3⟩
      · exact .inr ⟨s :: l1,s',l2,a,by rw[e2]; rfl,h3,.term s l1 i a h0 hf' h4,h5,h6⟩
  | cW s l R i m j h0 hR hl hs1 hs2 ih1 ih2 =>
    intro h1 h2
    by_cases e:i=k
    · subst e; exact .inl ⟨[],s :: l,rfl,.nil _⟩
    · by_cases hm:m≤k
      · have c1:=hs1.cut (k:=k) hm
        rcases ih2 hm h2 with ⟨l1,l2,e2,h3⟩ | ⟨l1,s',l2,a,e2,h3,h4,h5,h6⟩
        · exact .inl ⟨s :: l1,l2,by rw[e2]; rfl,.cW s l1 R i m k h0 hR hl c1 h3⟩
        · exact .inr ⟨s :: l1,s',l2,a,by rw[e2]; rfl,h3,.cW s l1 R i m a h0 hR hl c1 h4,h5,h6⟩
      · have hlen:(p.take k).length=k:=by simp; omega
        refine .inr ⟨[],s,l,i,rfl,h0,.nil _,by omega,?_⟩
        rw[← hl]
        rcases ih1 h1 (by omega) with ⟨l1,l2,e2,h3⟩ | ⟨l1,s',l2,a,e2,h3,h4,h5,h6⟩
        · exact .full R l1 l2 i hR e2 (by rw[hlen]; exact h3)
        · exact .deep R l1 l2 s' i a hR e2 h3 h4 (by rw[hlen]; exact h5) h6
theorem Bv.cut {g:ao} {p:List Int} {k:Nat} (hk:k≤p.length) {n:Int} {f:Nat} (h:Bv g p n f):f≤k→Bv g (p.take k) n f:=by
  have hlen:(p.take k).length=k:=by simp; omega
  induction h with
  | full R l1 l2 f hR e hs =>
    intro hf
    rcases F2 hk hs hf hk with ⟨a1,a2,e2,h3⟩ | ⟨a1,s',a2,a,e2,h3,h4,h5,h6⟩
    · exact .full R a1 (a2 ++ l2) f hR (by rw[e,e2]; simp) (by rw[hlen]; exact h3)
    · exact .deep R a1 (a2 ++ l2) s' f a hR (by rw[e,e2]; simp) h3 h4 (by rw[hlen]; exact h5) h6
  | deep R l1 l2 s f a hR e h0 h1 h2 _ ih =>
    intro hf
    by_cases ha:a < k
    · exact .deep R l1 l2 s f a hR e h0 (h1.cut (by omega)) (by rw[hlen]; exact ha) (ih (by omega))
    · rcases F2 hk h1 hf (by omega) with ⟨a1,a2,e2,h3⟩ | ⟨a1,s',a2,b,e2,h3,h4,h5,h6⟩
      · exact .full R a1 (a2 ++ s :: l2) f hR (by rw[e,e2]; simp) (by rw[hlen]; exact h3)
      · exact .deep R a1 (a2 ++ s :: l2) s' f b hR (by rw[e,e2]; simp) h3 h4 (by rw[hlen]; exact h5) h6
theorem Sp.wide {g:ao} {p p':List Int} (hp:∀ i s,kz p i s→kz p' i s) {l:List Int} {i j:Nat} (h:Sp g p l i j):Sp g p' l i j:=by
  induction h with
  | nil i=>exact .nil i
  | term s l i j h0 hf _ ih=>exact .term s l i j h0 (hp _ _ hf) ih
  | cW s l R i k j h0 hR hl _ _ ih1 ih2=>exact .cW s l R i k j h0 hR hl ih1 ih2
section
variable {fit:List Int→Bool} {T b:Nat}
end
def Kg (l:List (List Int)):V:=.aF (l.map fun w=>[encI w])
abbrev H8:=List (V × List Int)
def j9 (b:H8):List (List V):=b.map fun x=>[x.1]
def hX (H:View) (u:V) (out:List (List Int)):Prop:=∃ b:H8,b.map (·.2)=out∧aV H u 1 (j9 b)∧∀ x∈b,aV H x.1 1 (cA x.2)
theorem hX.nil {H:View} {k:Nat} : hX H (.emp k) []:=⟨[],rfl,.nil,by simp⟩
theorem hX.len {H:View} {u:V} {out:List (List Int)} (h:hX H u out):cT u=some out.length:=by
  obtain ⟨b,rfl,ho,_⟩:=h
  rw[ho.len]; simp[j9]
theorem hX.cells {H:View} {u:V} {out:List (List Int)} (h:hX H u out):V.cells u=[u]∧aN u=true:=by
  obtain ⟨b,_,ho,_⟩:=h
  exact ⟨ho.cells,ho.yj⟩
theorem IC {H:View} {u:V} {b:H8} (ho:aV H u 1 (j9 b)) (hb:∀ x∈b,aV H x.1 1 (cA x.2)) {x:V × List Int} (hx:x∈b) {id:Nat} (hid:owner x.1=some id):owner u≠some id:=by
  intro e
  have h1:=(ho.live e).1
  have h2:=((hb x hx).live hid).1
  rw[h2] at h1
  simp only[br.arr.injEq,true_and] at h1
  cases b with
  | nil=>simp at hx
  | cons y r =>
    have h3:=hb y (by simp)
    cases hw:x.2 with
    | nil=>rw[hw] at h1; simp[j9] at h1
    | cons c w =>
      rw[hw] at h1
      simp only[j9,List.map_cons,List.cons.injEq] at h1
      rcases h3 with ⟨_,k,e2⟩ | ⟨n,e2,_⟩
      · rw[e2] at h1; simp at h1
      · rw[e2] at h1; simp at h1
theorem hX.keep {H H':View} {u:V} {out:List (List Int)} (h:hX H u out) (hk:∀ id,H id≠.dead→H' id=H id):hX H' u out:=by
  obtain ⟨b,e,ho,hb⟩:=h
  exact ⟨b,e,ho.keep fun id hid=>hk id (by rw[(ho.live hid).1]; simp),fun x hx=>(hb x hx).keep fun id hid=>hk id (by rw[((hb x hx).live hid).1]; simp)⟩
theorem hX.add {H H':View} {u u' v:V} {b:H8} {w:List Int} (ho:aV H u 1 (j9 b)) (hb:∀ x∈b,aV H x.1 1 (cA x.2)) (hv:aV H v 1 (cA w)) (hd:∀ id,owner v=some id→owner u≠some id)
    (h1:aV H' u' 1 (j9 b ++ [[v]])) (h2:Left H H' u u'):hX H' u' (b.map (·.2) ++ [w]):=by
  refine ⟨b ++ [(v,w)],by simp,by simpa [j9] using h1,fun x hx=>?_⟩
  rcases List.mem_append.1 hx with hx | hx
  · exact (hb x hx).left h2 fun id hid=>IC ho hb hx hid
  · simp at hx; subst hx
    exact hv.left h2 hd
theorem hX.Ku {h:aw} {u:V} {out:List (List Int)} (ho:hX h.view u out):dh h u (Kg out):=by
  obtain ⟨b,rfl,ho,hb⟩:=ho
  have hg:∀ i (hi:i < b.length),(j9 b).getD i []=[(b[i]).1]∧(((b.map (·.2)).map fun w=>[encI w]).getD i [])=[encI (b[i]).2]:=fun i hi=>by
    simp[j9,List.getD_eq_getElem?_getD,hi]
  refine dh.own ho (by simp[j9]) (fun i hi=>?_) (fun i j hi hj=>?_)
  · have hi':i < b.length:=by simpa [j9] using hi
    rw[(hg i hi').1,(hg i hi').2]; rfl
  · have hi':i < b.length:=by simpa [j9] using hi
    rw[(hg i hi').2] at hj ⊢
    rw[(hg i hi').1]
    have:j=0:=by simp at hj; omega
    subst this
    simp only[List.getD_cons_zero]
    exact dh.Hi (hb _ (List.getElem_mem hi'))
def Ep (H:View) (v:V) (p:List Int):Prop:=v=encI p∨(p≠[]∧∃ n,v=.sl n 0 p.length 1∧H n=.arr 1 (cA p))
theorem Ep.Dt {H:View} {v:V} {p:List Int} (h:Ep H v p):df H v (encI p):=by
  rcases h with rfl | ⟨_,n,rfl,hn⟩
  · exact .tree (kx p)
  · exact vd hn rfl
theorem Ep.len {H:View} {v:V} {p:List Int} (h:Ep H v p):cT v=some p.length:=by
  rcases h with rfl | ⟨_,n,rfl,hn⟩
  · simp[encI,cT]
  · rfl
def nL (H H':View) (f:Nat) (u u':V):Prop:=∀ id,H id≠.dead→id≠f→owner u≠some id→H' id=H id∧owner u'≠some id
theorem nL.refl {H:View} {f:Nat} {u:V} : nL H H f u u:=fun _ _ _ h=>⟨rfl,h⟩
theorem nL.trans {H H1 H2:View} {f:Nat} {u u1 u2:V} (h1:nL H H1 f u u1) (h2:nL H1 H2 f u1 u2):nL H H2 f u u2:=fun id hd hf hu=>by
  obtain ⟨a,b⟩:=h1 id hd hf hu
  obtain ⟨c,d⟩:=h2 id (by rw[a]; exact hd) hf b
  exact ⟨c.trans a,d⟩
theorem nL.kept {H H':View} {f:Nat} {u:V} (h:∀ id,H id≠.dead→H' id=H id):nL H H' f u u:=fun id hd _ hu=>⟨h id hd,hu⟩
theorem CX {H:View} {u:V} {sz f z:Nat} {es:List (List V)} {e:List (List V)} (ho:aV H u sz es) (hf:H f=.arr z e) (hz:sz≠z):owner u≠some f:=fun e2=>by
  have:=(ho.live e2).1
  rw[hf] at this
  simp only[br.arr.injEq] at this
  exact hz this.1.symm
theorem hX.box {H:View} {u:V} {out:List (List Int)} {f:Nat} {e:List (List V)} {o:br} (h:hX H u out) (hf:H f=.arr 6 e):hX (H.set f o) u out:=by
  obtain ⟨b,e1,ho,hb⟩:=h
  exact ⟨b,e1,ho.other (CX ho hf (by decide)),fun x hx=>(hb x hx).other (CX (hb x hx) hf (by decide))⟩
section
variable {P:Program} {T:Env} {H:View} {K:V→View→Prop} {w:bS (T,H,K)} {t t1 e ty:TypeId}
end
def uP (H:View) (u:V) (l:List Int):Prop:=u=encI l∨aV H u 1 (cA l)
theorem uP.elems {H:View} {u:V} {l:List Int} (h:uP H u l):∃ rd,bA H u=some (cA l,rd):=by
  rcases h with rfl | h
  · exact ⟨[],om _ _⟩
  generalize cA l=es0 at h
  rcases h with ⟨rfl,k,rfl⟩ | ⟨n,rfl,hn⟩
  · exact ⟨_,nO _ k⟩
  · cases es0 with
    | nil=>exact ⟨[],by simp[bA]⟩
    | cons e es =>
      exact ⟨_,by rw[show (e :: es).length=es.length+1 from rfl,u4 _ n 0 es.length 1 1 _ hn (by simp),List.drop_zero,List.take_of_length_le (by simp)]⟩
theorem uP.len {H:View} {u:V} {l:List Int} (h:uP H u l):cT u=some l.length:=by
  rcases h with rfl | h
  · simp[encI,cT]
  · rw[h.len]; simp
theorem uP.keep {H H':View} {u:V} {l:List Int} (h:uP H u l) (hk:∀ id,H id≠.dead→H' id=H id):uP H' u l:=by
  rcases h with rfl | h
  · exact .inl rfl
  · exact .inr (h.keep fun id hid=>hk id (by rw[(h.live hid).1]; simp))
def Ic (H:View) (u:V) (l:List Int):Prop:=aV H u 1 (cA l)∨(l=[]∧∃ m es,u=.sl m 0 0 1∧H m=.arr 1 es)
theorem Ic.live {H:View} {u:V} {l:List Int} (h:Ic H u l) {id:Nat} (hid:owner u=some id):∃ es,H id=.arr 1 es:=by
  rcases h with h | ⟨_,m,es,rfl,hm⟩
  · exact ⟨_,(h.live hid).1⟩
  · simp[owner] at hid; subst hid; exact ⟨es,hm⟩
def Bi (H:View) (u:V) (l:List Int):Prop:=u=encI l∨∃ (m:Nat) (x:Int),l=[x]∧x < 0∧u=.sl m 0 1 1∧H m=.arr 1 [[gi x]]
theorem Bi.Dt {H:View} {u:V} {l:List Int} (h:Bi H u l):df H u (encI l):=by
  rcases h with rfl | ⟨m,x,rfl,_,rfl,hm⟩
  · exact df.tree (kx l)
  · exact vd (l:=[x]) hm rfl
theorem Bi.keep {H H':View} {u:V} {l:List Int} (h:Bi H u l) (hk:∀ id,H id≠.dead→H' id=H id):Bi H' u l:=by
  rcases h with rfl | ⟨m,x,rfl,hx,rfl,hm⟩
  · exact .inl rfl
  · exact .inr ⟨m,x,rfl,hx,rfl,by rw[hk m (by rw[hm]; simp)]; exact hm⟩
theorem Fl {F:List Way} {w:Way} {n:Int} : lookW (F ++ [w]) n=match lookW F n with
    | some x=>some x
    | none=>if w.cW=n then some w else none:=by
  unfold lookW
  rw[List.find?_append]
  cases h:F.find? fun x=>x.cW == n with
  | some x=>rfl
  | none =>
    simp only[Option.none_or,List.find?_cons,List.find?_nil]
    by_cases e:w.cW=n
    · simp[e]
    · have:(w.cW == n)=false:=by simpa using e
      rw[this]; simp[e]
theorem xP {F:List Way} {n:Int} (h:n ∉ iw F):lookW F n=none:=by
  rw[lookW,List.find?_eq_none]
  intro x hx e
  exact h (List.mem_map.2 ⟨x,hx,by simpa using e⟩)
theorem ni.le {g:ao} (hf:g.rj) {F:List Way} (h:ni g F):F.length≤g.ax.length :=
  h.len ⟨hf.mM,hf.start⟩ fun R hR s hs hn=>by
    have:=hf.sym R hR s hs
    unfold nN at this
    rw[if_neg (by omega)] at this
    simpa using this
def ec (H:View) (u:V) (l:List Int):Prop:=∃ (id off:Nat) (es:List (List V)),u=.sl id off l.length 1∧H id=.arr 1 es∧off+l.length≤es.length∧(es.drop off).take l.length=cA l
theorem ec.len {H:View} {u:V} {l:List Int} (h:ec H u l):cT u=some l.length:=by
  obtain ⟨id,off,es,rfl,_⟩:=h; rfl
theorem ec.keep {H H':View} {u:V} {l:List Int} (h:ec H u l) (hk:∀ id es,H id=.arr 1 es→H' id=H id):ec H' u l:=by
  obtain ⟨id,off,es,h1,h2,h3,h4⟩:=h
  exact ⟨id,off,es,h1,by rw[hk id es h2]; exact h2,h3,h4⟩
theorem ec.fresh {H:View} {u:V} {l:List Int} (h:ec H u l) {n:Nat} {o:br} (hn:H n=.dead):ec (H.set n o) u l :=
  h.keep fun id es hid=>by
    have:id≠n:=by rintro rfl; rw[hn] at hid; simp at hid
    simp[View.set,this]
theorem ec.zu {H:View} {u:V} {l:List Int} (h:ec H u l) {q c:Nat} {es:List (V × V × Nat)} {o:br} (hq:H q=.map es c):ec (H.set q o) u l :=
  h.keep fun id es' hid=>by
    have:id≠q:=by rintro rfl; rw[hq] at hid; simp at hid
    simp[View.set,this]
theorem ec.own {H:View} {u:V} {l:List Int} (h:aV H u 1 (cA l)) (hl:l≠[]):ec H u l:=by
  rcases h with ⟨e,_⟩ | ⟨n,rfl,hn⟩
  · rw[List.map_eq_nil_iff] at e; exact absurd e hl
  · exact ⟨n,0,_,by simp,hn,by simp,by rw[List.drop_zero,List.take_of_length_le (by simp)]⟩
theorem ec.at {H:View} {u:V} {x:Int} {l:List Int} (h:ec H u (x :: l)):∃ (id off:Nat) (es:List (List V)),u=.sl id off (l.length+1) 1∧H id=.arr 1 es∧off < es.length∧es.getD off []=[gi x]∧off+(l.length+1)≤es.length:=by
  obtain ⟨id,off,es,h1,h2,h3,h4⟩:=h
  simp only[List.length_cons] at h1 h3 h4
  refine ⟨id,off,es,h1,h2,by omega,?_,h3⟩
  have h5:=congrArg (fun z=>z[0]?) h4
  simp at h5
  have:es[off]?=some (es[off]'(by omega)):=List.getElem?_eq_getElem (by omega)
  rw[this] at h5
  simp at h5
  rw[List.getD_eq_getElem?_getD,this,h5]; rfl
theorem ec.next {H:View} {id off k:Nat} {x:Int} {l:List Int} (h:ec H (.sl id off k 1) (x :: l)):ec H (.sl id (off+1) (k - 1) 1) l:=by
  obtain ⟨id',off',es,h1,h2,h3,h4⟩:=h
  simp only[V.sl.injEq,and_true] at h1
  obtain ⟨rfl,rfl,rfl⟩:=h1
  simp only[List.length_cons] at h3 h4 ⊢
  refine ⟨id,off+1,es,by simp,h2,by omega,?_⟩
  have h5:=congrArg (List.drop 1) h4
  rw[List.drop_take,List.drop_drop] at h5
  simpa using h5
def DH (H:View) (w:Option Way) (v:Option V):Prop:=match w with
  | none=>v=none
  | some w=>(w.aT = -1∧v=some (.val (.pointer none)))∨(0≤w.aT∧∃ p,v=some (.ptr p 0 0)∧H p=.arr 2 [[gi w.aT,gi w.place]])
def eP (H:View) (F:List Way) (m:cB Int):Prop:=∀ n,DH H (lookW F n) (getM m n)
theorem DH.keep {H H':View} {w:Option Way} {v:Option V} (h:DH H w v) (hk:∀ id es,H id=.arr 2 es→H' id=H id):DH H' w v:=by
  cases w with
  | none=>exact h
  | some w =>
    rcases h with h | ⟨h1,p,h2,h3⟩
    · exact .inl h
    · exact .inr ⟨h1,p,h2,by rw[hk p _ h3]; exact h3⟩
theorem eP.keep {H H':View} {F:List Way} {m:cB Int} (h:eP H F m) (hk:∀ id es,H id=.arr 2 es→H' id=H id):eP H' F m:=fun n=>(h n).keep hk
theorem eP.fresh {H:View} {F:List Way} {m:cB Int} (h:eP H F m) {n:Nat} {o:br} (hn:H n=.dead):eP (H.set n o) F m :=
  h.keep fun id es hid=>by
    have:id≠n:=by rintro rfl; rw[hn] at hid; simp at hid
    simp[View.set,this]
theorem eP.zu {H:View} {F:List Way} {m:cB Int} (h:eP H F m) {q c:Nat} {es:List (V × V × Nat)} {o:br} (hq:H q=.map es c):eP (H.set q o) F m :=
  h.keep fun id es' hid=>by
    have:id≠q:=by rintro rfl; rw[hq] at hid; simp at hid
    simp[View.set,this]
theorem DL {H:View} {u:V} {l:List Int} (h:ec H u l) {id:Nat} (hid:owner u=some id):∃ es,H id=.arr 1 es:=by
  obtain ⟨i,off,es,rfl,h2,_⟩:=h
  simp[owner] at hid; subst hid
  exact ⟨es,h2⟩
theorem eP.left {H H':View} {F:List Way} {m:cB Int} (h:eP H F m) {u u':V} {l:List Int} (ht:ec H u l) (hl:Left H H' u u'):eP H' F m :=
  h.keep fun id es hid=>(hl id (by rw[hid]; simp) (fun e=>by obtain ⟨es',h2⟩:=DL ht e; rw[hid] at h2; simp at h2)).1
theorem eP.put {H:View} {F:List Way} {m:cB Int} (h:eP H F m) {p c k j:Nat} {n:Int} (hn:n ∉ iw F) (hp:H p=.arr 2 [[gi k,gi j]]):eP H (F ++ [⟨n,k,j⟩]) (cK n (.ptr p 0 0) c m):=by
  intro n'
  rw[Fl,zY]
  by_cases e:n=n'
  · subst e
    rw[xP hn]
    simp only[if_true,beq_self_eq_true]
    exact .inr ⟨by simp only; omega,p,rfl,hp⟩
  · have e2:(n' == n)=false:=by simpa using Ne.symm e
    rw[e2]
    have h1:=h n'
    cases hl:lookW F n' with
    | some w=>rw[hl] at h1; simpa using h1
    | none =>
      rw[hl] at h1
      simp only
      rw[if_neg e]
      simpa using h1
theorem eP.has {H:View} {F:List Way} {m:cB Int} (h:eP H F m) (n:Int):(getM m n).isSome=decide (n∈iw F):=by
  have h1:=h n
  by_cases e:n∈iw F
  · obtain ⟨x,hx,_⟩:=IU e
    rw[hx] at h1
    rcases h1 with ⟨_,h1⟩ | ⟨_,p,h1,_⟩ <;> rw[h1] <;> simp[e]
  · rw[xP e] at h1
    have h2:getM m n=none:=h1
    rw[h2]; simp[e]
theorem ec.all {H:View} {u:V} {l:List Int} (h:ec H u l):∃ (id off:Nat) (es:List (List V)),u=.sl id off l.length 1∧H id=.arr 1 es∧off+l.length≤es.length∧∀ j,j < l.length→es.getD (off+j) []=[gi (l.getD j 0)]:=by
  obtain ⟨id,off,es,h1,h2,h3,h4⟩:=h
  refine ⟨id,off,es,h1,h2,h3,fun j hj=>?_⟩
  have h5:=congrArg (fun z=>z[j]?) h4
  simp only[List.getElem?_take,hj,if_true,List.getElem?_drop,List.getElem?_map,List.getElem?_eq_getElem hj,Option.map_some] at h5
  rw[List.getD_eq_getElem?_getD,h5,List.getD_eq_getElem?_getD,List.getElem?_eq_getElem hj]; rfl
theorem ec.take {H:View} {id off k:Nat} {l:List Int} (h:ec H (.sl id off k 1) l) {m:Nat} (hm:m≤l.length):ec H (.sl id off m 1) (l.take m):=by
  obtain ⟨id',off',es,h1,h2,h3,h4⟩:=h
  simp only[V.sl.injEq,and_true] at h1
  obtain ⟨rfl,rfl,rfl⟩:=h1
  refine ⟨id,off,es,by simp; omega,h2,by simp; omega,?_⟩
  have h5:=congrArg (List.take m) h4
  rw[List.take_take,show min m l.length=m by omega] at h5
  rw[show (l.take m).length=m by simp; omega,h5]
  exact List.map_take.symm
theorem aJ.same {P:Program} {q:Bool} {f:FuncId} {vs:List V} {H:View} {K:V→View→Prop} {w:bS (H,K)} {v:V} (hc:aH P f vs H fun r H'=>H'=H∧r=v) (hk:K v H):aJ P q f vs H K w:=by
  unfold aJ
  cases q with
  | true =>
    simp only[if_true]
    exact (hc.mono fun r H' h=>⟨fun id _=>by rw[h.1],by rw[h.1,h.2]; exact hk⟩).DS
  | false =>
    simp only[Bool.false_eq_true,if_false]
    exact hc.mono fun r H' h=>by rw[h.1,h.2]; exact hk
def D8:Value→Value→Bool
  | .int k a,.int k' b=>decide (k=k') && decide (a=b)
  | .bool a,.bool b=>a == b
  | .string a,.string b=>eT a b
  | .pointer none,.pointer none=>true
  | _,_=>false
theorem HE:∀ (a b:Value),D8 a b=true→a=b:=by
  intro a b h
  unfold D8 at h
  split at h
  · simp only[Bool.and_eq_true,decide_eq_true_eq] at h
    rw[h.1,h.2]
  · rename_i a b
    rw[show a=b by simpa using h]
  · rename_i a b
    obtain ⟨a⟩:=a
    obtain ⟨b⟩:=b
    simp only[eT,beq_iff_eq] at h
    rw[show a=b from Array.toList_inj.1 h]
  · rfl
  · simp at h
def tR (q:V→V→Bool):List V→List V→Bool
  | [],[]=>true
  | a :: l,b :: m=>q a b && tR q l m
  | _,_=>false
def B9 (q:V→V→Bool):List (List V)→List (List V)→Bool
  | [],[]=>true
  | a :: l,b :: m=>tR q a b && B9 q l m
  | _,_=>false
def yG:Nat→V→V→Bool
  | 0,_,_=>false
  | k+1,a,b=>match a,b with
    | .val x,.val y=>D8 x y
    | .aF x,.aF y=>B9 (yG k) x y
    | .agg x,.agg y=>tR (yG k) x y
    | .bc x,.bc y=>tR (yG k) x y
    | _,_=>false
theorem pf {q:V→V→Bool} (hq:∀ a b,q a b=true→a=b):∀ (l m:List V),tR q l m=true→l=m
  | [],[],_=>rfl
  | a :: l,b :: m,h=>by
    simp only[tR,Bool.and_eq_true] at h
    rw[hq a b h.1,pf hq l m h.2]
  | [],_ :: _,h=>by simp[tR] at h
  | _ :: _,[],h=>by simp[tR] at h
theorem FB {q:V→V→Bool} (hq:∀ a b,q a b=true→a=b):∀ (l m:List (List V)),B9 q l m=true→l=m
  | [],[],_=>rfl
  | a :: l,b :: m,h=>by
    simp only[B9,Bool.and_eq_true] at h
    rw[pf hq a b h.1,FB hq l m h.2]
  | [],_ :: _,h=>by simp[B9] at h
  | _ :: _,[],h=>by simp[B9] at h
theorem A9:∀ (k:Nat) (a b:V),yG k a b=true→a=b
  | 0,_,_,h=>by simp[yG] at h
  | k+1,a,b,h=>by
    have ih:=A9 k
    unfold yG at h
    split at h
    · rw[HE _ _ h]
    · rw[FB ih _ _ h]
    · rw[pf ih _ _ h]
    · rw[pf ih _ _ h]
    · simp at h
def nj:Nat→V→Bool
  | 0,_=>false
  | k+1,v=>match v with
    | .val _=>true
    | .emp _=>true
    | .cM=>true
    | .aF es=>es.all fun e=>e.all (nj k)
    | .agg cs=>cs.all (nj k)
    | .bc cs=>cs.all (nj k)
    | _=>false
theorem pP {q:V→Bool} {l:List V} (h:l.all q=true) {i:Nat} (hi:i < l.length):q (l.getD i .any)=true:=by
  have e:l.getD i .any=l[i]:=by simp[List.getD_eq_getElem?_getD,hi]
  rw[e]
  exact List.all_eq_true.1 h _ (List.getElem_mem _)
theorem uh:∀ (k:Nat) (v:V),nj k v=true→Tree v
  | 0,_,h=>by simp[nj] at h
  | k+1,v,h=>by
    have ih:=uh k
    unfold nj at h
    split at h
    · exact .val _
    · exact .emp _
    · exact .cM
    · rename_i es
      refine .aF _ fun i j hi hj=>ih _ ?_
      have e:es.getD i []=es[i]:=by simp[List.getD_eq_getElem?_getD,hi]
      have h1:=List.all_eq_true.1 h _ (List.getElem_mem hi)
      rw[e] at hj ⊢
      exact pP h1 hj
    · exact .agg _ fun i hi=>ih _ (pP h hi)
    · exact .bc _ fun i hi=>ih _ (pP h hi)
    · simp at h
noncomputable def px (H:View):Nat→V→Option V
  | 0,_=>none
  | k+1,v=>match v with
    | .val x=>some (.val x)
    | .emp _=>some (.aF [])
    | .aF es=>match nj 60 (.aF es) with
      | true=>some (.aF es)
      | false=>none
    | .sl id off len _=>match H id with
      | .arr _ es=>match Nat.ble (off+len) es.length with
        | true=>(xi (px H k) ((es.drop off).take len)).map .aF
        | false=>none
      | _=>none
    | .agg cs=>(jl (px H k) cs).map .agg
    | .bc cs=>(jl (px H k) cs).map .bc
    | _=>none
theorem xk (h:aw):∀ (k:Nat) (v t:V),px h.view k v=some t→Fr h v t
  | 0,v,t,hf=>by simp[px] at hf
  | k+1,v,t,hf=>by
    have ih:=xk h k
    simp only[px] at hf
    split at hf
    · simp only[Option.some.injEq] at hf; subst hf; exact .tree _ (.val _)
    · simp only[Option.some.injEq] at hf; subst hf; exact .emp _
    · split at hf
      · rename_i ht
        simp only[Option.some.injEq] at hf; subst hf; exact .tree _ (uh _ _ ht)
      · simp at hf
    · rename_i id off len esz
      split at hf
      · rename_i z es hH
        split at hf
        · rename_i hle
          have hle:=Nat.le_of_ble_eq_true hle
          simp only[Option.map_eq_some_iff] at hf
          obtain ⟨es',he,rfl⟩:=hf
          obtain ⟨g1,g2⟩:=xG _ _ he
          have hlen:es'.length=len:=by rw[g1]; simp; omega
          have hg:∀ i,i < len→((es.drop off).take len).getD i []=es.getD (off+i) []:=fun i hi=>by
            simp[List.getD_eq_getElem?_getD,List.getElem?_take,hi]
          have g3:∀ i,i < len→jl (px h.view k) (es.getD (off+i) [])=some (es'.getD i []):=fun i hi=>by
            rw[← hg i hi]; exact g2 i (by rw[← g1,hlen]; exact hi)
          exact .sl id off len esz z es es' hH hle hlen (fun i hi=>(ew _ _ (g3 i hi)).1) (fun i j hi hj=>ih _ _ ((ew _ _ (g3 i hi)).2 j (by rw[← (ew _ _ (g3 i hi)).1]; exact hj)))
        · simp at hf
      · simp at hf
    · simp only[Option.map_eq_some_iff] at hf
      obtain ⟨l,hl,rfl⟩:=hf
      obtain ⟨g1,g2⟩:=ew _ _ hl
      exact .agg _ _ g1 (fun i hi=>ih _ _ (g2 i hi))
    · simp only[Option.map_eq_some_iff] at hf
      obtain ⟨l,hl,rfl⟩:=hf
      obtain ⟨g1,g2⟩:=ew _ _ hl
      exact .bc _ _ g1 (fun i hi=>ih _ _ (g2 i hi))
    · simp at hf
theorem aC.seen {P:Program} {f:FuncId} {vs ts:List V} {t:V} (hc:aC P f ts t) (ht:∀ i,i < vs.length→Tree (vs.getD i .any)) (hl:ts.length=vs.length) (hfr:∀ i,i < vs.length→Fr [] (vs.getD i .any) (ts.getD i .any)):aC P f vs t:=by
  intro Z μ w xs hrel hz
  have hr0:ey Z (fun _=>none) w.heap (cat [] fun _=>.dead):=by
    rw[wQ]
    exact ⟨fun _=>trivial,fun i j b o s o' s' _ h=>by simp at h,fun id b o s h=>by simp at h,hz,fun id b o s h=>by simp at h⟩
  have hno:∀ b,¬ fh (fun _=>none) b:=fun b ⟨_,_,_,h⟩=>by simp at h
  have hts:dc (fun b=>Z b∨fh (fun _=>none) b) μ w.heap ts xs:=⟨by rw[hl,hrel.1],fun i hi=>uW hr0 (hfr i (by omega)) (pC (hrel.2 i (by omega)) (ht i (by omega)))⟩
  refine (hc _ μ w xs hts (fun b hb=>hb.elim (hz b) (fun h=>absurd h (hno b)))).mono ?_
  rintro e w' ⟨x,Z',rfl,hv,hs,h1,h2,ho⟩
  exact ⟨x,Z',rfl,hv,hs,fun b hb=>h1 b (.inl hb),fun b hb=>(h2 b hb).elim (fun h=>h.elim .inl (fun h=>absurd h (hno b))) .inr,ho⟩
abbrev rr:=FuncId × List V × V × Bool
def rr.Ok (P:Program) (x:rr):Prop:=bZ P x.1=true∧if x.2.2.2=true then aC P x.1 x.2.1 x.2.2.1 else (cJ P x.1 x.2.1 x.2.2.1∨(aC P x.1 x.2.1 x.2.2.1∧uB x.2.2.1))
noncomputable def Ih (g:FuncId) (vs:List V) (H:View) (x:rr):Bool:=Nat.beq x.1 g && (match x.2.2.2 with
  | true=>vs.all (nj 60) && (match jl (px (fun _=>.dead) 60) vs with
    | some ts=>tR (yG 60) ts x.2.1
    | none=>false)
  | false=>match jl (px H 60) vs with
    | some ts=>tR (yG 60) ts x.2.1
    | none=>false)
noncomputable def Ii (l:List rr):sD:=fun g vs H=>(l.find? (Ih g vs H)).map fun x=>x.2.2.1
theorem G8 {P:Program} {l:List rr} (hl:∀ x∈l,x.Ok P):mn P (Ii l):=by
  intro g vs H t h
  unfold Ii at h
  simp only[Option.map_eq_some_iff] at h
  obtain ⟨⟨f,ts,r,b⟩,hx,rfl⟩:=h
  obtain ⟨h1,h2⟩:=hl _ (List.mem_of_find?_eq_some hx)
  have hq:=List.find?_some hx
  simp only[Ih,Bool.and_eq_true] at hq
  obtain ⟨hg,hq⟩:=hq
  have hg:=Nat.eq_of_beq_eq_true hg
  simp only at hg h1 h2 hq
  subst hg
  refine ⟨h1,?_⟩
  rintro h rfl
  cases b with
  | true =>
    simp only[Bool.and_eq_true] at hq
    obtain ⟨hq1,hq2⟩:=hq
    split at hq2
    · rename_i us hus
      obtain ⟨g1,g2⟩:=ew _ _ hus
      have:=pf (A9 60) _ _ hq2
      subst this
      simp only[if_true] at h2
      exact bu.eN (h2.seen (fun i hi=>uh _ _ (pP hq1 hi)) g1 fun i hi=>xk [] 60 _ _ (g2 i hi)) h
    · simp at hq2
  | false =>
    simp only at hq
    split at hq
    · rename_i us hus
      obtain ⟨g1,g2⟩:=ew _ _ hus
      have:=pf (A9 60) _ _ hq
      subst this
      have hfr:=fun i hi=>xk h 60 _ _ (g2 i hi)
      simp only[Bool.false_eq_true,if_false] at h2
      rcases h2 with h2 | ⟨h2,h3⟩
      · exact bu.oV h2 g1 hfr
      · exact bu.borrow h2 h3 g1 hfr
    · simp at hq
def nh (x:Int):Bool:=decide (-9223372036854775808≤x) && decide (x≤9223372036854775807)
theorem kg {x:Int} (h:nh x=true):cd x:=by
  unfold nh at h
  simp only[Bool.and_eq_true,decide_eq_true_eq] at h
  exact h
def okB (g:ao):Bool:=decide (g.az.length≤900) && decide (g.ax.length≤100) && decide (g.rules.length≤900) && nh g.start && g.az.all (fun t=>nh t.level && nh t.assoc) && g.rules.all fun r=>nh r.left && nh r.prec && decide (r.right.length≤900) && r.right.all nh
theorem E5 {g:ao} (h:okB g=true):g.Ok∧g.Small:=by
  unfold okB at h
  simp only[Bool.and_eq_true,decide_eq_true_eq,List.all_eq_true] at h
  obtain ⟨⟨⟨⟨⟨h1,h2⟩,h3⟩,h4⟩,h5⟩,h6⟩:=h
  refine ⟨⟨by unfold aU; omega,by unfold aU; omega,by unfold aU; omega,kg h4,fun t ht=>⟨kg (h5 t ht).1,kg (h5 t ht).2⟩,fun r hr=>?_⟩,⟨by omega⟩⟩
  have:=h6 r hr
  exact ⟨kg this.1.1.1,kg this.1.1.2,by unfold aU; have:=this.1.2; omega,fun x hx=>kg (this.2 x hx)⟩
theorem m6:nk.Ok∧nk.Small:=E5 (by kernel_rfl)
theorem Lv {cs:List Value} (h:cs.length=2):cs=[cs.getD 0 undef,cs.getD 1 undef]:=by
  match cs,h with
  | [a,b],_=>rfl
structure KV where
  Lb:Int
  cell:Cell
  deriving DecidableEq
structure Au where
  sym:Int
  to:Int
  deriving DecidableEq
structure Jl where
  az:Int
  ax:Int
  rows:List (List KV)
  of:List Int
  gotos:List (List Au)
  to:List Int
def Kj (x:Au):List V:=[gi x.sym,gi x.to]
structure Jl.Ok (p:Jl):Prop where
  az:cd p.az
  ax:cd p.ax
  rows:aU p.rows
  of:aU p.of∧∀ x∈p.of,cd x
  gotos:aU p.gotos
  to:aU p.to∧∀ x∈p.to,cd x
  row:∀ r∈p.rows,aU r∧∀ c∈r,cd c.Lb∧cd c.cell.kind∧cd c.cell.n
  go:∀ r∈p.gotos,aU r∧∀ x∈r,cd x.sym∧cd x.to
theorem bj.as {H:View} {u:V} {sz:Nat} {es es':List (List V)} {L:List dz} (h:bj H ((u,sz,es) :: L)) (e:es=es'):bj H ((u,sz,es') :: L):=e ▸ h
structure cG where
  aT:Int
  dot:Int
  deriving DecidableEq
def Km (x:cG):List V:=[gi x.aT,gi x.dot]
def Kq (l:List cG):List (List V):=l.map Km
def Bj (a b:cG):Bool:=decide (a.aT < b.aT) || (decide (a.aT=b.aT) && decide (a.dot < b.dot))
theorem Left.behind {H H':View} {q:Nat} {o:br} {u r:V} (hq:H q=.dead) (h:Left (H.set q o) H' u r):Left H H' u r:=fun a ha hau=>by
  have e:¬ a=q:=by rintro rfl; exact ha hq
  have:=h a (by simp[View.set,e]; exact ha) hau
  simpa [View.set,e] using this
def po (g:ao) (r:Int):List Int:=if r = -1 then [-1 - g.start] else (Eo g r).right
def mz (g:ao) (x:cG):Int × Bool:=if x.dot=(po g x.aT).length then (0,false) else ((po g x.aT).getD x.dot.toNat 0,true)
theorem Dw {a b:cG} : Bj a b=true↔a.aT < b.aT∨a.aT=b.aT∧a.dot < b.dot:=by
  simp[Bj]
abbrev ld (l:List cG):Prop:=l.Pairwise fun a b=>Bj a b=true
def iy (g:ao) (x:cG):Prop:=(-1≤x.aT∧x.aT < (g.rules.length:Int))∧0≤x.dot∧x.dot≤(po g x.aT).length
inductive Al (g:ao) (l:List cG):cG→Prop
  | base {x:cG} : x∈l→Al g l x
  | step {x:cG} {s:Int} {k:Nat} {R:aG} : Al g l x→mz g x=(s,true)→s < 0→g.rules[k]?=some R→R.left = -1 - s→Al g l ⟨k,0⟩
theorem Al.has {g:ao} {l:List cG} (hl:∀ x∈l,iy g x) {x:cG} (h:Al g l x):iy g x:=by
  induction h with
  | base h=>exact hl _ h
  | step _ _ _ hk _ _ =>
    have:=(List.getElem?_eq_some_iff.1 hk).1
    exact ⟨⟨by simp only; omega,by simp only; omega⟩,by simp only; omega,by simp only; omega⟩
def nW (g:ao) (l:List cG) (s:Int):List cG:=(l.filter fun x=>decide (mz g x=(s,true))).map fun x=>⟨x.aT,x.dot+1⟩
theorem He {g:ao} {l:List cG} {s:Int} {y:cG} : y∈nW g l s↔∃ x∈l,mz g x=(s,true)∧y=⟨x.aT,x.dot+1⟩:=by
  simp only[nW,List.mem_map,List.mem_filter,decide_eq_true_eq]
  constructor
  · rintro ⟨x,⟨h1,h2⟩,rfl⟩; exact ⟨x,h1,h2,rfl⟩
  · rintro ⟨x,h1,h2,rfl⟩; exact ⟨x,⟨h1,h2⟩,rfl⟩
theorem Fg {g:ao} {l:List cG} (s:Int) (h:ld l):ld (nW g l s):=by
  rw[ld,nW,List.pairwise_map]
  refine (h.filter _).imp ?_
  intro a b hab
  rw[Dw] at hab ⊢
  simp only; omega
theorem B1 {g:ao} {x:cG} {s:Int} (h:mz g x=(s,true)):x.dot≠(po g x.aT).length∧(po g x.aT).getD x.dot.toNat 0=s:=by
  unfold mz at h
  split at h
  · simp at h
  · rename_i hd; exact ⟨hd,by simpa using h⟩
theorem Hb {g:ao} {l:List cG} {s:Int} (hl:∀ x∈l,iy g x):∀ y∈nW g l s,iy g y:=by
  intro y hy
  obtain ⟨x,hx,hn,rfl⟩:=He.1 hy
  have h1:=hl x hx
  have h2:=(B1 hn).1
  exact ⟨h1.1,by simp only; have:=h1.2; omega,by simp only; have:=h1.2; omega⟩
structure en where
  jG:List cG
  fN:List Au
  deriving DecidableEq
abbrev Hd:en:=⟨[],[]⟩
def ou (g:ao) (i:Nat):Int:=if i < g.az.length then i else -1 - ((i:Int) - g.az.length)
def findD:List en→List cG→Int
  | [],_=>-1
  | s :: l,k=>if s.jG=k then 0 else if findD l k < 0 then -1 else findD l k+1
theorem AI:∀ (l:List en) (k:List cG),findD l k < l.length
  | [],_=>by simp[findD]
  | s :: l,k=>by
    have:=AI l k
    rw[findD]; simp only[List.length_cons]; split
    · omega
    · split <;> omega
def lS (g:ao) (l:List cG) (at_:Nat) (out:List en) (i:Nat):List en :=
  if nW g l (ou g i)=[] then out else
  if findD out (nW g l (ou g i)) < 0 then (out ++ [(⟨nW g l (ou g i),[]⟩:en)]).modify at_ fun s=>(⟨s.jG,s.fN ++ [⟨ou g i,out.length⟩]⟩:en)
  else out.modify at_ fun s=>(⟨s.jG,s.fN ++ [⟨ou g i,findD out (nW g l (ou g i))⟩]⟩:en)
abbrev BV:=BitVec 32
def mG (n:Int):BV:=if 0≤n∧n≤31 then BitVec.twoPow 32 n.toNat else 0
theorem JD {a b:BV} (h:∀ i,i < 32→a.getLsbD i=b.getLsbD i):a=b:=BitVec.eq_of_getLsbD_eq fun i hi=>h i hi
def KF (a b:BV):Prop:=∀ i,a.getLsbD i=true→b.getLsbD i=true
def JZ (null:List Bool) (first:List BV) (rest:BV):List Int→BV
  | []=>rest
  | s :: l=>if 0≤s then mG s else if null.getD (-1 - s).toNat false=true then first.getD (-1 - s).toNat 0 ||| JZ null first rest l else first.getD (-1 - s).toNat 0
def Kp (null:List Bool) (fs:List BV) (r:aG):List BV:=fs.set r.left.toNat (fs.getD r.left.toNat 0 ||| JZ null fs 0 r.right)
def Jy (g:ao) (null:List Bool) (fs:List BV):List BV:=g.rules.foldl (Kp null) fs
def JH (g:ao) (null:List Bool):List BV:=iter (Jy g null) g.ax.length (List.replicate g.ax.length 0)
end Gv
