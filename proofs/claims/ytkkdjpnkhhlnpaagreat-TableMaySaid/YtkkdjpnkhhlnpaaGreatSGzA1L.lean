/-
  Part 12 of the proof: what the machine does and what the functions answer.
  Conditions: those that each lemma names.
-/
import Derived.Test.YtkkdjpnkhhlnpaaGreatSGzA1K
set_option linter.unusedSimpArgs false
set_option linter.unusedVariables false
set_option maxRecDepth 100000
namespace Gv
open Go Go.Proofs
def yq (x:Int):List V:=[gi x]
set_option maxHeartbeats 2000000 in
theorem yP (l:List Int) (hl:aU l) (f:FuncId) (cap:List V) (p:Int→Bool) (H:View) (hf:∀ x∈l,aA Tryz.prog f (gi x :: cap) H fun r H'=>r=gb (p x)∧H'=H) :
    aA Tryz.prog 137 [.aP (l.map fun x=>yq x),.fn f [] cap] H fun r H'=>r=gi (dC p l 0)∧H'=H:=by
  refine aA.of mixed en ?_
  unfold aU at hl
  simp (disch:=omega) only [↓wr,↓reduceIte,wq,ai,ah,an,ab,ae,ag,aj,isNil,Nat.reduceEqDiff,Nat.reduceAdd,Nat.reduceLT,Nat.reduceLeDiff,Int.reduceNeg,Int.reduceToNat,reduceCtorEq,dd]
  refine bt.up l.length (fun i T H'=>H=H'∧dC p (l.drop i) i=dC p l 0∧T 0=.aP (l.map fun x=>yq x)∧T 1=.fn f [] cap∧T 7=gi l.length∧T 8=gi i) ⟨rfl,rfl,rfl,rfl,rfl,rfl⟩ ?_
  rintro i k T _ hk ⟨rfl,hi,h0,h1,h7,h8⟩
  simp (disch:=omega) only [↓wr,↓reduceIte,wq,ai,ah,an,ab,ae,ag,aj,isNil,Nat.reduceEqDiff,Nat.reduceAdd,Nat.reduceLT,Nat.reduceLeDiff,Int.reduceNeg,Int.reduceToNat,reduceCtorEq,cW,h0,h1,h7,h8]
  refine ar.dec (fun hc=>?_) (fun hc=>?_)
  · have hg:l[i]?=some (l[i]'(by omega)):=List.getElem?_eq_getElem (by omega)
    have hm:l[i]'(by omega)∈l:=List.getElem_mem _
    rw[dk (show i < l.length by omega)] at hi
    generalize l[i]'(by omega)=x at hg hm hi
    simp (disch:=omega) only [↓wr,↓reduceIte,wq,ai,ah,an,ab,ae,ag,aj,isNil,Nat.reduceEqDiff,Nat.reduceAdd,Nat.reduceLT,Nat.reduceLeDiff,Int.reduceNeg,Int.reduceToNat,reduceCtorEq,h0,h1,h7,h8,List.getElem?_map,hg,Option.map_some,yq]
    have hcall:=hf x hm
    refine aK.mJ (hcall.mono ?_)
    rintro r H2 ⟨rfl,rfl⟩
    simp only[dC] at hi
    simp (disch:=omega) only [↓wr,↓reduceIte,wq,ai,ah,an,ab,ae,ag,aj,isNil,Nat.reduceEqDiff,Nat.reduceAdd,Nat.reduceLT,Nat.reduceLeDiff,Int.reduceNeg,Int.reduceToNat,reduceCtorEq]
    refine ar.split (fun hp=>?_) (fun hp=>?_)
    · simp (disch:=omega) only [↓wr,↓reduceIte,wq,ai,ah,an,ab,ae,ag,aj,isNil,Nat.reduceEqDiff,Nat.reduceAdd,Nat.reduceLT,Nat.reduceLeDiff,Int.reduceNeg,Int.reduceToNat,reduceCtorEq,h0,h1,h7,h8]
      rw[← hi,if_pos hp]
    · simp (disch:=omega) only [↓wr,↓reduceIte,wq,ai,ah,an,ab,ae,ag,aj,isNil,Nat.reduceEqDiff,Nat.reduceAdd,Nat.reduceLT,Nat.reduceLeDiff,Int.reduceNeg,Int.reduceToNat,reduceCtorEq,h0,h1,h7,h8]
      refine bw hk (by omega) ⟨rfl,?_,h0,h1,h7,rfl⟩
      rw[if_neg (by simp[hp])] at hi
      push_cast; exact hi
  · rw[List.drop_eq_nil_of_le (by omega)] at hi
    simp (disch:=omega) only [↓wr,↓reduceIte,wq,ai,ah,an,ab,ae,ag,aj,isNil,Nat.reduceEqDiff,Nat.reduceAdd,Nat.reduceLT,Nat.reduceLeDiff,Int.reduceNeg,Int.reduceToNat,reduceCtorEq,h0,h1,h7,h8]
    rw[← hi]; rfl
theorem vi (l:List Int) (hl:aU l) (f:FuncId) (cap:List V) (p:Int→Bool) (H:View) (hf:∀ x∈l,aA Tryz.prog f (gi x :: cap) H fun r H'=>r=gb (p x)∧H'=H) :
    aA Tryz.prog 90 [.aP (l.map fun x=>yq x),.fn f [] cap] H fun r H'=>r=gb (l.any p)∧H'=H:=by
  refine aA.of mixed dL ?_
  simp (disch:=omega) only [↓wr,↓reduceIte,wq,ai,ah,an,ab,ae,ag,aj,isNil,Nat.reduceEqDiff,Nat.reduceAdd,Nat.reduceLT,Nat.reduceLeDiff,Int.reduceNeg,Int.reduceToNat,reduceCtorEq,cL]
  refine aK.mJ ((yP l hl f cap p H hf).mono ?_)
  rintro r H2 ⟨rfl,rfl⟩
  simp (disch:=omega) only [↓wr,↓reduceIte,wq,ai,ah,an,ab,ae,ag,aj,isNil,Nat.reduceEqDiff,Nat.reduceAdd,Nat.reduceLT,Nat.reduceLeDiff,Int.reduceNeg,Int.reduceToNat,reduceCtorEq]
  rw[← kh _ l 0 (by omega)]
theorem HT (g:aH) (b n:Nat) (c:Cell) (H:View) (hb:H b=.arr 1 [[gi n]]):aA Tryz.prog 88 [.agg (b5 c),.ptr b 0 0,.aN (aw g) 0] H fun r H'=>r=gb (!nq g n c)∧H'=H:=by
  refine aA.of mixed sE ?_
  have hcall:=F6 c n g.rules.length
  simp only[b5] at hcall
  simp (disch:=omega) only [↓wr,↓reduceIte,wq,ai,ah,an,ab,ae,ag,aj,isNil,Nat.reduceEqDiff,Nat.reduceAdd,Nat.reduceLT,Nat.reduceLeDiff,Int.reduceNeg,Int.reduceToNat,reduceCtorEq,nI,b5,aw,encS,hb]
  refine aK.pure hcall (by kernel_rfl) ?_
  simp (disch:=omega) only [↓wr,↓reduceIte,wq,ai,ah,an,ab,ae,ag,aj,isNil,Nat.reduceEqDiff,Nat.reduceAdd,Nat.reduceLT,Nat.reduceLeDiff,Int.reduceNeg,Int.reduceToNat,reduceCtorEq]
  rfl
theorem HO (b n:Nat) (x:Int) (H:View) (hb:H b=.arr 1 [[gi n]]):aA Tryz.prog 91 [gi x,.ptr b 0 0] H fun r H'=>r=gb (!(decide (-1≤x) && decide (x < n)))∧H'=H:=by
  refine aA.of mixed rq ?_
  simp (disch:=omega) only [↓wr,↓reduceIte,wq,ai,ah,an,ab,ae,ag,aj,isNil,Nat.reduceEqDiff,Nat.reduceAdd,Nat.reduceLT,Nat.reduceLeDiff,Int.reduceNeg,Int.reduceToNat,reduceCtorEq,ni,hb]
  repeat' (first | (refine ar.dec (fun _=>?_) (fun _=>?_)) | (refine ar.eq (fun _=>?_) (fun _=>?_)) | (refine ar.ne (fun _=>?_) (fun _=>?_)) | (refine ar.split (fun _=>?_) (fun _=>?_)) | (simp (disch:=omega) only [↓wr,↓reduceIte,wq,ai,ah,an,ab,ae,ag,aj,isNil,Nat.reduceEqDiff,Nat.reduceAdd,Nat.reduceLT,Nat.reduceLeDiff,Int.reduceNeg,Int.reduceToNat,reduceCtorEq,hb]))
  · rename_i hx
    rw[decide_eq_false (show ¬ -1≤x by omega)]; rfl
  · rename_i hx
    rw[decide_eq_true (show -1≤x by omega),Bool.true_and,← decide_not]
    rw[decide_eq_decide.2 (show (x≥(n:Int))↔¬ x < n by omega)]
set_option maxHeartbeats 8000000 in
theorem EY (g:aH) (hg:g.Ok) (hsm:g.Small) (t:lD) (ht:t.Ok):az Tryz.prog 46 [.agg (aw g),.agg (bb t)] (gb (fe g t)):=by
  refine az.val (BP g t) fun H=>?_
  have hc:=iU g hg hsm.names
  have h1:=ht.aI
  have h2:=ht.gotos
  have h3:=hg.aE
  have h4:=hg.aM
  unfold aU at h1 h2 h3 h4
  refine aA.of mixed uq ?_
  simp only[aw,encS] at hc
  simp (disch:=omega) only [↓wr,↓reduceIte,wq,ai,ah,an,ab,ae,ag,aj,isNil,Nat.reduceEqDiff,Nat.reduceAdd,Nat.reduceLT,Nat.reduceLeDiff,Int.reduceNeg,Int.reduceToNat,reduceCtorEq,qR,aw,encS,bb]
  intro b hb
  rw[set_set]
  have hbn:(H.set b (.arr 1 [[gi t.aI.length]])) b=.arr 1 [[gi t.aI.length]]:=by simp[View.set]
  generalize H.set b (.arr 1 [[gi t.aI.length]])=H1 at hbn
  try simp (disch:=omega) only [↓wr,↓reduceIte,wq,ai,ah,an,ab,ae,ag,aj,isNil,Nat.reduceEqDiff,Nat.reduceAdd,Nat.reduceLT,Nat.reduceLeDiff,Int.reduceNeg,Int.reduceToNat,reduceCtorEq,bb,hbn]
  refine aK.pure hc (by kernel_rfl) ?_
  have hno:(bq g && decide (1≤t.aI.length) && decide (t.aI.length≤300) && decide (t.gotos.length=t.aI.length))=false→fe g t=false:=fun h=>by unfold fe; rw[h]; rfl
  simp (disch:=omega) only [↓wr,↓reduceIte,wq,ai,ah,an,ab,ae,ag,aj,isNil,Nat.reduceEqDiff,Nat.reduceAdd,Nat.reduceLT,Nat.reduceLeDiff,Int.reduceNeg,Int.reduceToNat,reduceCtorEq]
  refine ar.split (fun hr=>?_) (fun hr=>?_)
  rotate_left
  · simp (disch:=omega) only [↓wr,↓reduceIte,wq,ai,ah,an,ab,ae,ag,aj,isNil,Nat.reduceEqDiff,Nat.reduceAdd,Nat.reduceLT,Nat.reduceLeDiff,Int.reduceNeg,Int.reduceToNat,reduceCtorEq]
    rw[hno (by rw[hr]; rfl)]
  simp (disch:=omega) only [↓wr,↓reduceIte,wq,ai,ah,an,ab,ae,ag,aj,isNil,Nat.reduceEqDiff,Nat.reduceAdd,Nat.reduceLT,Nat.reduceLeDiff,Int.reduceNeg,Int.reduceToNat,reduceCtorEq,bb,hbn]
  refine ar.dec (fun c1=>?_) (fun c1=>?_)
  · simp (disch:=omega) only [↓wr,↓reduceIte,wq,ai,ah,an,ab,ae,ag,aj,isNil,Nat.reduceEqDiff,Nat.reduceAdd,Nat.reduceLT,Nat.reduceLeDiff,Int.reduceNeg,Int.reduceToNat,reduceCtorEq]
    rw[hno (by rw[hr]; simp; omega)]
  simp (disch:=omega) only [↓wr,↓reduceIte,wq,ai,ah,an,ab,ae,ag,aj,isNil,Nat.reduceEqDiff,Nat.reduceAdd,Nat.reduceLT,Nat.reduceLeDiff,Int.reduceNeg,Int.reduceToNat,reduceCtorEq,bb,hbn]
  refine ar.dec (fun c2=>?_) (fun c2=>?_)
  · simp (disch:=omega) only [↓wr,↓reduceIte,wq,ai,ah,an,ab,ae,ag,aj,isNil,Nat.reduceEqDiff,Nat.reduceAdd,Nat.reduceLT,Nat.reduceLeDiff,Int.reduceNeg,Int.reduceToNat,reduceCtorEq]
    rw[hno (by rw[hr]; simp; omega)]
  simp (disch:=omega) only [↓wr,↓reduceIte,wq,ai,ah,an,ab,ae,ag,aj,isNil,Nat.reduceEqDiff,Nat.reduceAdd,Nat.reduceLT,Nat.reduceLeDiff,Int.reduceNeg,Int.reduceToNat,reduceCtorEq,bb,hbn]
  refine ar.ne (fun c3=>?_) (fun c3=>?_)
  · simp (disch:=omega) only [↓wr,↓reduceIte,wq,ai,ah,an,ab,ae,ag,aj,isNil,Nat.reduceEqDiff,Nat.reduceAdd,Nat.reduceLT,Nat.reduceLeDiff,Int.reduceNeg,Int.reduceToNat,reduceCtorEq]
    rw[hno (by rw[hr]; simp; omega)]
  simp (disch:=omega) only [↓wr,↓reduceIte,wq,ai,ah,an,ab,ae,ag,aj,isNil,Nat.reduceEqDiff,Nat.reduceAdd,Nat.reduceLT,Nat.reduceLeDiff,Int.reduceNeg,Int.reduceToNat,reduceCtorEq,bb,hbn]
  have hf:=bY hr
  refine bt.up t.aI.length (fun i T H'=>H1=H'∧(∀ k,k < i→r6 g t.aI.length (t.aI.getD k []) (t.gotos.getD k [])=true)∧T 2=.aN (aw g) 0∧T 3=.aN (bb t) 0∧T 5=.ptr b 0 0∧T 30=.aP (t.aI.map fun r=>[uP r])∧T 31=gi t.aI.length∧T 32=gi i) ⟨rfl,fun k hk=>by omega,rfl,rfl,rfl,rfl,rfl,rfl⟩ ?_
  rintro i k T _ hk ⟨rfl,hall,t2,t3,t5,t30,t31,t32⟩
  simp (disch:=omega) only [↓wr,↓reduceIte,wq,ai,ah,an,ab,ae,ag,aj,isNil,Nat.reduceEqDiff,Nat.reduceAdd,Nat.reduceLT,Nat.reduceLeDiff,Int.reduceNeg,Int.reduceToNat,reduceCtorEq,nJ,t2,t3,t5,t30,t31,t32,bb]
  refine ar.dec (fun hd=>?_) (fun hd=>?_)
  rotate_left
  · simp (disch:=omega) only [↓wr,↓reduceIte,wq,ai,ah,an,ab,ae,ag,aj,isNil,Nat.reduceEqDiff,Nat.reduceAdd,Nat.reduceLT,Nat.reduceLeDiff,Int.reduceNeg,Int.reduceToNat,reduceCtorEq]
    rw[show fe g t=true from by
      unfold fe
      rw[hr]
      simp only[Bool.and_eq_true,decide_eq_true_eq,List.all_eq_true,List.mem_range,Bool.true_and]
      exact ⟨⟨⟨by omega,by omega⟩,by omega⟩,fun k hk=>hall k (by omega)⟩]
  have hi:i < t.aI.length:=by omega
  have ha:t.aI[i]?=some (t.aI.getD i []):=getD_some hi
  have hl:t.gotos[i]?=some (t.gotos.getD i []):=getD_some (by omega)
  have ra:=ht.row _ (List.mem_of_getElem? ha)
  have rl:=ht.go _ (List.mem_of_getElem? hl)
  have hrow:=@uV g t i hi
  generalize ea:t.aI.getD i []=a at ha ra hrow
  generalize el:t.gotos.getD i []=l at hl rl hrow
  have hrs:r6 g t.aI.length a l=(decide (a.length=g.aE.length+1) && decide (l.length=g.aM.length) && a.all (nq g t.aI.length) && l.all fun x=>decide (-1≤x) && decide (x < t.aI.length)):=rfl
  obtain ⟨sa,ra⟩:=ra
  obtain ⟨sl,rl⟩:=rl
  have hsa:=sa
  have hsl:=sl
  unfold aU at sa sl
  simp (disch:=omega) only [↓wr,↓reduceIte,wq,ai,ah,an,ab,ae,ag,aj,isNil,Nat.reduceEqDiff,Nat.reduceAdd,Nat.reduceLT,Nat.reduceLeDiff,Int.reduceNeg,Int.reduceToNat,reduceCtorEq,t2,t3,t5,t30,t31,t32,bb,aw,encS,List.getElem?_map,ha,hl,Option.map_some]
  refine ar.ne (fun d1=>?_) (fun d1=>?_)
  · simp (disch:=omega) only [↓wr,↓reduceIte,wq,ai,ah,an,ab,ae,ag,aj,isNil,Nat.reduceEqDiff,Nat.reduceAdd,Nat.reduceLT,Nat.reduceLeDiff,Int.reduceNeg,Int.reduceToNat,reduceCtorEq]
    rw[hrow (by rw[hrs]; simp; omega)]
  simp (disch:=omega) only [↓wr,↓reduceIte,wq,ai,ah,an,ab,ae,ag,aj,isNil,Nat.reduceEqDiff,Nat.reduceAdd,Nat.reduceLT,Nat.reduceLeDiff,Int.reduceNeg,Int.reduceToNat,reduceCtorEq,t2,t3,t5,t30,t31,t32,bb,aw,encS,encI,List.getElem?_map,ha,hl,Option.map_some]
  refine ar.ne (fun d2=>?_) (fun d2=>?_)
  · simp (disch:=omega) only [↓wr,↓reduceIte,wq,ai,ah,an,ab,ae,ag,aj,isNil,Nat.reduceEqDiff,Nat.reduceAdd,Nat.reduceLT,Nat.reduceLeDiff,Int.reduceNeg,Int.reduceToNat,reduceCtorEq]
    rw[hrow (by rw[hrs]; simp; omega)]
  simp (disch:=omega) only [↓wr,↓reduceIte,wq,ai,ah,an,ab,ae,ag,aj,isNil,Nat.reduceEqDiff,Nat.reduceAdd,Nat.reduceLT,Nat.reduceLeDiff,Int.reduceNeg,Int.reduceToNat,reduceCtorEq,t2,t3,t5,t30,t31,t32]
  refine aK.mJ ((tM a hsa 88 [.ptr b 0 0,.aN (aw g) 0] (fun c=>!nq g t.aI.length c) H1 fun c _=>HT g b t.aI.length c H1 hbn).mono ?_)
  rintro r H2 ⟨rfl,rfl⟩
  simp (disch:=omega) only [↓wr,↓reduceIte,wq,ai,ah,an,ab,ae,ag,aj,isNil,Nat.reduceEqDiff,Nat.reduceAdd,Nat.reduceLT,Nat.reduceLeDiff,Int.reduceNeg,Int.reduceToNat,reduceCtorEq,t2,t3,t5,t30,t31,t32]
  refine ar.split (fun hx=>?_) (fun hx=>?_)
  · simp (disch:=omega) only [↓wr,↓reduceIte,wq,ai,ah,an,ab,ae,ag,aj,isNil,Nat.reduceEqDiff,Nat.reduceAdd,Nat.reduceLT,Nat.reduceLeDiff,Int.reduceNeg,Int.reduceToNat,reduceCtorEq]
    rw[hrow (by
      obtain ⟨c,hcm,hcf⟩:=List.any_eq_true.1 hx
      rw[hrs,Bool.eq_false_iff]
      intro h
      simp only[Bool.and_eq_true,List.all_eq_true] at h
      have:=h.1.2 c hcm
      rw[this] at hcf; simp at hcf)]
  simp (disch:=omega) only [↓wr,↓reduceIte,wq,ai,ah,an,ab,ae,ag,aj,isNil,Nat.reduceEqDiff,Nat.reduceAdd,Nat.reduceLT,Nat.reduceLeDiff,Int.reduceNeg,Int.reduceToNat,reduceCtorEq,t2,t3,t5,t30,t31,t32,bb,encI,List.getElem?_map,hl,Option.map_some]
  refine aK.mJ ((vi l hsl 91 [.ptr b 0 0] (fun x=>!(decide (-1≤x) && decide (x < t.aI.length))) H2 fun x _=>HO b t.aI.length x H2 hbn).mono ?_)
  rintro r H2 ⟨rfl,rfl⟩
  simp (disch:=omega) only [↓wr,↓reduceIte,wq,ai,ah,an,ab,ae,ag,aj,isNil,Nat.reduceEqDiff,Nat.reduceAdd,Nat.reduceLT,Nat.reduceLeDiff,Int.reduceNeg,Int.reduceToNat,reduceCtorEq,t2,t3,t5,t30,t31,t32]
  refine ar.split (fun hy=>?_) (fun hy=>?_)
  · simp (disch:=omega) only [↓wr,↓reduceIte,wq,ai,ah,an,ab,ae,ag,aj,isNil,Nat.reduceEqDiff,Nat.reduceAdd,Nat.reduceLT,Nat.reduceLeDiff,Int.reduceNeg,Int.reduceToNat,reduceCtorEq]
    rw[hrow (by
      obtain ⟨c,hcm,hcf⟩:=List.any_eq_true.1 hy
      rw[hrs,Bool.eq_false_iff]
      intro h
      simp only[Bool.and_eq_true,List.all_eq_true] at h
      have:=h.2 c hcm
      simp only[this.1,this.2] at hcf; simp at hcf)]
  · simp (disch:=omega) only [↓wr,↓reduceIte,wq,ai,ah,an,ab,ae,ag,aj,isNil,Nat.reduceEqDiff,Nat.reduceAdd,Nat.reduceLT,Nat.reduceLeDiff,Int.reduceNeg,Int.reduceToNat,reduceCtorEq,t2,t3,t5,t30,t31,t32]
    refine bw hk (by omega) ⟨rfl,fun k hk=>?_,t2,t3,t5,t30,t31,rfl⟩
    by_cases e:k=i
    · subst e
      rw[ea,el,hrs]
      rw[List.any_eq_false] at hx hy
      simp only[Bool.and_eq_true,List.all_eq_true,decide_eq_true_eq]
      refine ⟨⟨⟨by omega,by omega⟩,fun c hc=>?_⟩,fun x hx'=>?_⟩
      · simpa using hx c hc
      · simpa using hy x hx'
    · exact hall k (by omega)
theorem HR:qP.Ok:=by
  refine ⟨by unfold aU; decide,by unfold aU; decide,by unfold aU; decide,by unfold cm; decide,?_,?_⟩
  · intro t ht; simp[qP] at ht
  · intro r hr; simp[qP] at hr
section
variable {g r:aH} {p q:List Bool} {o:List Int}
end
theorem bytes_beq (a b:ByteArray):(a == b)=decide (a=b):=by
  cases a with | mk a=>cases b with | mk b =>
  rw[Bool.eq_iff_iff]
  show (ByteArray.beq ⟨a⟩ ⟨b⟩=true)↔_
  simp only[ByteArray.beq]
  simp
theorem Em (a b:ByteArray):eH a b=decide (a=b):=by
  cases a with | mk a=>cases b with | mk b =>
  rw[Bool.eq_iff_iff]
  simp[eH]
theorem sR {α:Type} {a b:List α} {i:Nat} {x y:α} (hx:a[i]?=some x) (hy:b[i]?=some y) (h:a.take i=b.take i) (e:x=y):a.take (i+1)=b.take (i+1):=by
  rw[List.take_add_one,List.take_add_one,h,hx,hy,e]
theorem vD {α:Type} {a b:List α} {i:Nat} (ha:a.length≤i) (hb:b.length≤i) (h:a.take i=b.take i):a=b:=by
  rwa [List.take_of_length_le ha,List.take_of_length_le hb] at h
theorem yB {α:Type} {a b:List α} {i:Nat} {x y:α} (hx:a[i]?=some x) (hy:b[i]?=some y) (e:x≠y):a≠b:=by
  rintro rfl; rw[hx] at hy; exact e (by simpa using hy)
theorem ve {α:Type} {a b:List α} (h:¬ a.length=b.length):a≠b:=fun e=>h (by rw[e])
theorem AR (x y:Term):eo Tryz.prog 9998 #[.string x.name,.int .i64 x.level,.int .i64 x.assoc] #[.string y.name,.int .i64 y.level,.int .i64 y.assoc]
    [{ name:= "Name",type:=9,offset:=0,embedded:=false,tag:= "",pkgPath:= "",byteOffset:=0 },{ name:= "Level",type:=3,offset:=1,embedded:=false,tag:= "",pkgPath:= "",byteOffset:=16 },
        { name:= "Assoc",type:=3,offset:=2,embedded:=false,tag:= "",pkgPath:= "",byteOffset:=24 }] (x.name == y.name && (x.level == y.level && (x.assoc == y.assoc && true))) :=
  .str _ _ _ _ _ (by decide) Tryz.underlying9 rfl rfl (.int _ _ _ _ _ _ (by decide) Tryz.underlying3 rfl rfl (.int _ _ _ _ _ _ (by decide) Tryz.underlying3 rfl rfl .nil))
theorem Hh (x y:Term):(x.name == y.name && (x.level == y.level && (x.assoc == y.assoc && true)))=decide (x=y):=by
  rw[bytes_beq,Bool.eq_iff_iff]
  cases x; cases y
  simp
theorem Hg (a b:Int):(a == b)=decide (a=b):=by rw[Bool.eq_iff_iff]; simp
theorem FB (x y:bd):decide (x=y)=(decide (x.left=y.left) && (decide (x.prec=y.prec) && decide (x.right=y.right))):=by
  cases x; cases y
  rw[Bool.eq_iff_iff]
  simp[and_comm]
theorem Gf (x y:aH):decide (x=y)=(decide (x.aE=y.aE) && (decide (x.aM=y.aM) && (decide (x.rules=y.rules) && decide (x.start=y.start)))):=by
  cases x; cases y
  rw[Bool.eq_iff_iff]
  simp
theorem El (g k:aH):∀ v∈[V.agg (aw g),V.agg (aw k)],Tree v:=by
  intro v hv; simp at hv
  rcases hv with rfl | rfl <;> exact bP _ (dE _)
def dr:SC :=
  .seq (ao [aF 14 .lss 13 12]) <|
  .seq (.cond (.tmp 14) (.skip) (.exit 0)) <|
  .seq (.block 1 (.seq (ao [aa 15 13,aa 5 15]) <|
  .seq (ao [aa 16 0,aa 17 5,aJ 18 3 16 17,aG 19 3 18,aa 20 1,aa 21 5,aJ 22 3 20 21,aG 23 3 22,((some 24),.op (.old (.binOp .neq 134 (.tmp 19) (.tmp 23) 134) 4))]) <|
  .cond (.tmp 24) (.seq (ao [aL 4 false]) <|
  .ret) (.skip))) <|
  ao [aq 25 .add 13 1,aa 13 25]
def dN:SF:=⟨.seq (ao [aL 4 false]) <|
  .seq (.seq (ao [aa 6 0,aC 7 6,aa 8 1,aC 9 8,aF 10 .neq 7 9]) <|
  .cond (.tmp 10) (.seq (ao [aL 4 false]) <|
  .ret) (.skip)) <|
  .seq (.seq (ao [aa 11 0,aC 12 11,ay 13 0]) <|
  .block 0 (.loop dr)) <|
  .seq (ao [aL 4 true]) <|
  .ret,
  [.tmp 4],26⟩
theorem fP:aY Tryz.prog 179 []=some dN:=by kernel_rfl
def dY:SC :=
  .seq (ao [aF 14 .lss 13 12]) <|
  .seq (.cond (.tmp 14) (.skip) (.exit 0)) <|
  .seq (.block 1 (.seq (ao [aa 15 13,aa 5 15]) <|
  .seq (ao [aa 16 0,aa 17 5,aJ 18 1 16 17,ak 19 18,aa 20 1,aa 21 5,aJ 22 1 20 21,ak 23 22,((some 24),.op (.fX .neq (.tmp 19) (.tmp 23)))]) <|
  .cond (.tmp 24) (.seq (ao [aL 4 false]) <|
  .ret) (.skip))) <|
  ao [aq 25 .add 13 1,aa 13 25]
def eu:SF:=⟨.seq (ao [aL 4 false]) <|
  .seq (.seq (ao [aa 6 0,aC 7 6,aa 8 1,aC 9 8,aF 10 .neq 7 9]) <|
  .cond (.tmp 10) (.seq (ao [aL 4 false]) <|
  .ret) (.skip)) <|
  .seq (.seq (ao [aa 11 0,aC 12 11,ay 13 0]) <|
  .block 0 (.loop dY)) <|
  .seq (ao [aL 4 true]) <|
  .ret,
  [.tmp 4],26⟩
theorem hG:aY Tryz.prog 180 []=some eu:=by kernel_rfl
def fw:SC :=
  .seq (ao [aF 14 .lss 13 12]) <|
  .seq (.cond (.tmp 14) (.skip) (.exit 0)) <|
  .seq (.block 1 (.seq (ao [aa 15 13,aa 5 15]) <|
  .seq (ao [aa 16 0,aa 17 5,aJ 18 1 16 17,ak 19 18,aa 20 1,aa 21 5,aJ 22 1 20 21,ak 23 22,aF 24 .neq 19 23]) <|
  .cond (.tmp 24) (.seq (ao [aL 4 false]) <|
  .ret) (.skip))) <|
  ao [aq 25 .add 13 1,aa 13 25]
def gm:SF:=⟨.seq (ao [aL 4 false]) <|
  .seq (.seq (ao [aa 6 0,aC 7 6,aa 8 1,aC 9 8,aF 10 .neq 7 9]) <|
  .cond (.tmp 10) (.seq (ao [aL 4 false]) <|
  .ret) (.skip)) <|
  .seq (.seq (ao [aa 11 0,aC 12 11,ay 13 0]) <|
  .block 0 (.loop fw)) <|
  .seq (ao [aL 4 true]) <|
  .ret,
  [.tmp 4],26⟩
theorem km:aY Tryz.prog 224 []=some gm:=by kernel_rfl
def tC:SF:=⟨.seq (ao [bo 2 0,bo 3 1,aL 4 false]) <|
  .seq (.region false [⟨none,[al 5 0 2,ak 6 5,al 7 0 3,ak 8 7,aF 9 .eql 6 8,aa 10 9]⟩,⟨(some (10,true)),[al 11 2 2,ak 12 11,al 13 2 3,ak 14 13,aF 15 .eql 12 14]⟩,⟨none,[bh 16 10 15,aa 17 16]⟩,⟨(some (17,true)),[al 18 1 2,ak 19 18,al 20 1 3,ak 21 20,aB 22 224 [19,21]]⟩,⟨none,[bh 23 17 22,aa 4 23]⟩]) <|
  .ret,
  [.tmp 4],24⟩
theorem we:aY Tryz.prog 182 [2,3]=some tC:=by kernel_rfl
def bL:SC :=
  .seq (ao [aF 18 .lss 17 16]) <|
  .seq (.cond (.tmp 18) (.skip) (.exit 0)) <|
  .seq (.block 1 (.seq (ao [aa 19 17,aJ 20 3 15 17,aG 21 3 20,((some 8),.op (.alloc [(.val (.int .i64 0)),(.emp 1),(.val (.int .i64 0))])),aa 7 19,(none,.op (.store 3 (.tmp 8) (.tmp 21)))]) <|
  .seq (ao [aa 22 1,aa 23 7,aJ 24 3 22 23,aG 25 3 24,((some 9),.op (.alloc [(.val (.int .i64 0)),(.emp 1),(.val (.int .i64 0))])),(none,.op (.store 3 (.tmp 9) (.tmp 25)))]) <|
  .seq (ao [aa 26 2,aG 27 3 8,aG 28 3 9,((some 29),.call (.tmp 26) [(.tmp 27),(.tmp 28)]),bC 30 29]) <|
  .cond (.tmp 30) (.seq (ao [aL 6 false]) <|
  .ret) (.skip))) <|
  ao [aq 31 .add 17 1,aa 17 31]
def bN:SF:=⟨.seq (ao [aL 6 false]) <|
  .seq (.seq (ao [aa 10 0,aC 11 10,aa 12 1,aC 13 12,aF 14 .neq 11 13]) <|
  .cond (.tmp 14) (.seq (ao [aL 6 false]) <|
  .ret) (.skip)) <|
  .seq (.seq (ao [aa 15 0,aC 16 15,ay 17 0]) <|
  .block 0 (.loop bL)) <|
  .seq (ao [aL 6 true]) <|
  .ret,
  [.tmp 6],32⟩
theorem cT:aY Tryz.prog 181 []=some bN:=by kernel_rfl
def vI:SF:=⟨.seq (ao [bo 2 0,bo 3 1,aL 4 false]) <|
  .seq (.region false [⟨none,[al 5 0 2,ak 6 5,al 7 0 3,ak 8 7,aB 9 179 [6,8],aa 10 9]⟩,⟨(some (10,true)),[al 11 1 2,ak 12 11,al 13 1 3,ak 14 13,aB 15 180 [12,14]]⟩,⟨none,[bh 16 10 15,aa 17 16]⟩,⟨(some (17,true)),[al 18 2 2,ak 19 18,al 20 2 3,ak 21 20,bT 22 181 [(.tmp 19),(.tmp 21),(.val (.fn 182 [] []))]]⟩,⟨none,[bh 23 17 22,aa 24 23]⟩,⟨(some (24,true)),[al 25 3 2,ak 26 25,al 27 3 3,ak 28 27,aF 29 .eql 26 28]⟩,⟨none,[bh 30 24 29,aa 4 30]⟩]) <|
  .ret,
  [.tmp 4],31⟩
theorem yh:aY Tryz.prog 121 [2,3]=some vI:=by kernel_rfl
theorem EJ {α:Type} {f g:α→List V} {a b:List α} (hf:∀ x,∀ v∈f x,Tree v) (hg:∀ x,∀ v∈g x,Tree v):∀ v∈[V.aP (a.map f),V.aP (b.map g)],Tree v:=by
  intro v hv; simp at hv
  rcases hv with rfl | rfl
  · exact dp _ _ fun x _=>hf x
  · exact dp _ _ fun x _=>hg x
theorem Dj (a b:List Term) (ha:aU a) (H:View):aA Tryz.prog 179 [.aP (a.map cr),.aP (b.map cr)] H fun r _=>r=gb (decide (a=b)):=by
  refine aA.of mixed fP ?_
  unfold aU at ha
  simp (disch:=omega) only [↓wr,↓reduceIte,wq,ai,ah,an,ab,ae,ag,aj,isNil,Nat.reduceEqDiff,Nat.reduceAdd,Nat.reduceLT,Nat.reduceLeDiff,Int.reduceNeg,Int.reduceToNat,reduceCtorEq,dN]
  refine ar.ne (fun h=>?_) (fun h=>?_)
  · simp (disch:=omega) only [↓wr,↓reduceIte,wq,ai,ah,an,ab,ae,ag,aj,isNil,Nat.reduceEqDiff,Nat.reduceAdd,Nat.reduceLT,Nat.reduceLeDiff,Int.reduceNeg,Int.reduceToNat,reduceCtorEq]
    rw[decide_eq_false (ve (by omega))]
  · simp (disch:=omega) only [↓wr,↓reduceIte,wq,ai,ah,an,ab,ae,ag,aj,isNil,Nat.reduceEqDiff,Nat.reduceAdd,Nat.reduceLT,Nat.reduceLeDiff,Int.reduceNeg,Int.reduceToNat,reduceCtorEq]
    refine bt.up a.length (fun i T _=>a.take i=b.take i∧T 0=.aP (a.map cr)∧T 1=.aP (b.map cr)∧T 12=gi a.length∧T 13=gi i) ⟨by simp,rfl,rfl,rfl,rfl⟩ ?_
    rintro i k T H hk ⟨hi,h0,h1,h7,h8⟩
    simp (disch:=omega) only [↓wr,↓reduceIte,wq,ai,ah,an,ab,ae,ag,aj,isNil,Nat.reduceEqDiff,Nat.reduceAdd,Nat.reduceLT,Nat.reduceLeDiff,Int.reduceNeg,Int.reduceToNat,reduceCtorEq,dr,h0,h1,h7,h8]
    refine ar.dec (fun hc=>?_) (fun hc=>?_)
    · have h2:a[i]?=some (a[i]'(by omega)):=List.getElem?_eq_getElem (by omega)
      have h3:b[i]?=some (b[i]'(by omega)):=List.getElem?_eq_getElem (by omega)
      generalize a[i]'(by omega)=x at h2
      generalize b[i]'(by omega)=y at h3
      simp (disch:=omega) only [↓wr,↓reduceIte,wq,ai,ah,an,ab,ae,ag,aj,isNil,Nat.reduceEqDiff,Nat.reduceAdd,Nat.reduceLT,Nat.reduceLeDiff,Int.reduceNeg,Int.reduceToNat,reduceCtorEq,h0,h1,h7,h8,List.getElem?_map,h2,h3,cr]
      refine AG (xs:=#[.string x.name,.int .i64 x.level,.int .i64 x.assoc]) (ys:=#[.string y.name,.int .i64 y.level,.int .i64 y.assoc]) Tryz.underlying134 (by kernel_rfl) (by kernel_rfl) ?_ ?_ (AR x y) (.inr ⟨rfl,rfl⟩) ?_
      · rfl
      · rfl
      rw[Hh]
      simp (disch:=omega) only [↓wr,↓reduceIte,wq,ai,ah,an,ab,ae,ag,aj,isNil,Nat.reduceEqDiff,Nat.reduceAdd,Nat.reduceLT,Nat.reduceLeDiff,Int.reduceNeg,Int.reduceToNat,reduceCtorEq,h0,h1,h7,h8]
      refine ar.split (fun e=>?_) (fun e=>?_)
      · simp (disch:=omega) only [↓wr,↓reduceIte,wq,ai,ah,an,ab,ae,ag,aj,isNil,Nat.reduceEqDiff,Nat.reduceAdd,Nat.reduceLT,Nat.reduceLeDiff,Int.reduceNeg,Int.reduceToNat,reduceCtorEq,h0,h1,h7,h8]
        exact bw hk (by omega) ⟨sR h2 h3 hi (by simpa using e),h0,h1,h7,rfl⟩
      · simp (disch:=omega) only [↓wr,↓reduceIte,wq,ai,ah,an,ab,ae,ag,aj,isNil,Nat.reduceEqDiff,Nat.reduceAdd,Nat.reduceLT,Nat.reduceLeDiff,Int.reduceNeg,Int.reduceToNat,reduceCtorEq,h0,h1,h7,h8]
        rw[decide_eq_false (yB h2 h3 (by simpa using e))]
    · simp (disch:=omega) only [↓wr,↓reduceIte,wq,ai,ah,an,ab,ae,ag,aj,isNil,Nat.reduceEqDiff,Nat.reduceAdd,Nat.reduceLT,Nat.reduceLeDiff,Int.reduceNeg,Int.reduceToNat,reduceCtorEq,h0,h1,h7,h8]
      rw[decide_eq_true (vD (by omega) (by omega) hi)]
theorem D9 (a b:List ByteArray) (ha:aU a) (H:View):aA Tryz.prog 180 [encS a,encS b] H fun r _=>r=gb (decide (a=b)):=by
  refine aA.of mixed hG ?_
  unfold aU at ha
  simp (disch:=omega) only [↓wr,↓reduceIte,wq,ai,ah,an,ab,ae,ag,aj,isNil,Nat.reduceEqDiff,Nat.reduceAdd,Nat.reduceLT,Nat.reduceLeDiff,Int.reduceNeg,Int.reduceToNat,reduceCtorEq,eu,encS]
  refine ar.ne (fun h=>?_) (fun h=>?_)
  · simp (disch:=omega) only [↓wr,↓reduceIte,wq,ai,ah,an,ab,ae,ag,aj,isNil,Nat.reduceEqDiff,Nat.reduceAdd,Nat.reduceLT,Nat.reduceLeDiff,Int.reduceNeg,Int.reduceToNat,reduceCtorEq]
    rw[decide_eq_false (ve (by omega))]
  · simp (disch:=omega) only [↓wr,↓reduceIte,wq,ai,ah,an,ab,ae,ag,aj,isNil,Nat.reduceEqDiff,Nat.reduceAdd,Nat.reduceLT,Nat.reduceLeDiff,Int.reduceNeg,Int.reduceToNat,reduceCtorEq]
    refine bt.up a.length (fun i T _=>a.take i=b.take i∧T 0=encS a∧T 1=encS b∧T 12=gi a.length∧T 13=gi i) ⟨by simp,rfl,rfl,rfl,rfl⟩ ?_
    rintro i k T H hk ⟨hi,h0,h1,h7,h8⟩
    simp (disch:=omega) only [↓wr,↓reduceIte,wq,ai,ah,an,ab,ae,ag,aj,isNil,Nat.reduceEqDiff,Nat.reduceAdd,Nat.reduceLT,Nat.reduceLeDiff,Int.reduceNeg,Int.reduceToNat,reduceCtorEq,dY,h0,h1,h7,h8,encS]
    refine ar.dec (fun hc=>?_) (fun hc=>?_)
    · have h2:a[i]?=some (a[i]'(by omega)):=List.getElem?_eq_getElem (by omega)
      have h3:b[i]?=some (b[i]'(by omega)):=List.getElem?_eq_getElem (by omega)
      generalize a[i]'(by omega)=x at h2
      generalize b[i]'(by omega)=y at h3
      simp (disch:=omega) only [↓wr,↓reduceIte,wq,ai,ah,an,ab,ae,ag,aj,isNil,Nat.reduceEqDiff,Nat.reduceAdd,Nat.reduceLT,Nat.reduceLeDiff,Int.reduceNeg,Int.reduceToNat,reduceCtorEq,h0,h1,h7,h8,encS,List.getElem?_map,h2,h3,Em]
      refine ar.split (fun e=>?_) (fun e=>?_)
      · simp (disch:=omega) only [↓wr,↓reduceIte,wq,ai,ah,an,ab,ae,ag,aj,isNil,Nat.reduceEqDiff,Nat.reduceAdd,Nat.reduceLT,Nat.reduceLeDiff,Int.reduceNeg,Int.reduceToNat,reduceCtorEq,h0,h1,h7,h8]
        exact bw hk (by omega) ⟨sR h2 h3 hi (by simpa using e),h0,h1,h7,rfl⟩
      · simp (disch:=omega) only [↓wr,↓reduceIte,wq,ai,ah,an,ab,ae,ag,aj,isNil,Nat.reduceEqDiff,Nat.reduceAdd,Nat.reduceLT,Nat.reduceLeDiff,Int.reduceNeg,Int.reduceToNat,reduceCtorEq,h0,h1,h7,h8]
        rw[decide_eq_false (yB h2 h3 (by simpa using e))]
    · simp (disch:=omega) only [↓wr,↓reduceIte,wq,ai,ah,an,ab,ae,ag,aj,isNil,Nat.reduceEqDiff,Nat.reduceAdd,Nat.reduceLT,Nat.reduceLeDiff,Int.reduceNeg,Int.reduceToNat,reduceCtorEq,h0,h1,h7,h8]
      rw[decide_eq_true (vD (by omega) (by omega) hi)]
theorem Ea (a b:List Int) (ha:aU a) (H:View):aA Tryz.prog 224 [encI a,encI b] H fun r _=>r=gb (decide (a=b)):=by
  refine aA.of mixed km ?_
  unfold aU at ha
  simp (disch:=omega) only [↓wr,↓reduceIte,wq,ai,ah,an,ab,ae,ag,aj,isNil,Nat.reduceEqDiff,Nat.reduceAdd,Nat.reduceLT,Nat.reduceLeDiff,Int.reduceNeg,Int.reduceToNat,reduceCtorEq,gm,encI]
  refine ar.ne (fun h=>?_) (fun h=>?_)
  · simp (disch:=omega) only [↓wr,↓reduceIte,wq,ai,ah,an,ab,ae,ag,aj,isNil,Nat.reduceEqDiff,Nat.reduceAdd,Nat.reduceLT,Nat.reduceLeDiff,Int.reduceNeg,Int.reduceToNat,reduceCtorEq]
    rw[decide_eq_false (ve (by omega))]
  · simp (disch:=omega) only [↓wr,↓reduceIte,wq,ai,ah,an,ab,ae,ag,aj,isNil,Nat.reduceEqDiff,Nat.reduceAdd,Nat.reduceLT,Nat.reduceLeDiff,Int.reduceNeg,Int.reduceToNat,reduceCtorEq]
    refine bt.up a.length (fun i T _=>a.take i=b.take i∧T 0=encI a∧T 1=encI b∧T 12=gi a.length∧T 13=gi i) ⟨by simp,rfl,rfl,rfl,rfl⟩ ?_
    rintro i k T H hk ⟨hi,h0,h1,h7,h8⟩
    simp (disch:=omega) only [↓wr,↓reduceIte,wq,ai,ah,an,ab,ae,ag,aj,isNil,Nat.reduceEqDiff,Nat.reduceAdd,Nat.reduceLT,Nat.reduceLeDiff,Int.reduceNeg,Int.reduceToNat,reduceCtorEq,fw,h0,h1,h7,h8,encI]
    refine ar.dec (fun hc=>?_) (fun hc=>?_)
    · have h2:a[i]?=some (a[i]'(by omega)):=List.getElem?_eq_getElem (by omega)
      have h3:b[i]?=some (b[i]'(by omega)):=List.getElem?_eq_getElem (by omega)
      generalize a[i]'(by omega)=x at h2
      generalize b[i]'(by omega)=y at h3
      simp (disch:=omega) only [↓wr,↓reduceIte,wq,ai,ah,an,ab,ae,ag,aj,isNil,Nat.reduceEqDiff,Nat.reduceAdd,Nat.reduceLT,Nat.reduceLeDiff,Int.reduceNeg,Int.reduceToNat,reduceCtorEq,h0,h1,h7,h8,encI,List.getElem?_map,h2,h3]
      refine ar.ne (fun e=>?_) (fun e=>?_)
      · simp (disch:=omega) only [↓wr,↓reduceIte,wq,ai,ah,an,ab,ae,ag,aj,isNil,Nat.reduceEqDiff,Nat.reduceAdd,Nat.reduceLT,Nat.reduceLeDiff,Int.reduceNeg,Int.reduceToNat,reduceCtorEq,h0,h1,h7,h8]
        rw[decide_eq_false (yB h2 h3 e)]
      · simp (disch:=omega) only [↓wr,↓reduceIte,wq,ai,ah,an,ab,ae,ag,aj,isNil,Nat.reduceEqDiff,Nat.reduceAdd,Nat.reduceLT,Nat.reduceLeDiff,Int.reduceNeg,Int.reduceToNat,reduceCtorEq,h0,h1,h7,h8]
        exact bw hk (by omega) ⟨sR h2 h3 hi e,h0,h1,h7,rfl⟩
    · simp (disch:=omega) only [↓wr,↓reduceIte,wq,ai,ah,an,ab,ae,ag,aj,isNil,Nat.reduceEqDiff,Nat.reduceAdd,Nat.reduceLT,Nat.reduceLeDiff,Int.reduceNeg,Int.reduceToNat,reduceCtorEq,h0,h1,h7,h8]
      rw[decide_eq_true (vD (by omega) (by omega) hi)]
theorem EL (a b:List Term) (ha:aU a):az Tryz.prog 179 [.aP (a.map cr),.aP (b.map cr)] (gb (decide (a=b))):=az.val (EJ nQ nQ) (Dj a b ha)
theorem EW (a b:List ByteArray) (ha:aU a):az Tryz.prog 180 [encS a,encS b] (gb (decide (a=b))):=az.val (by
  intro v hv; simp at hv
  rcases hv with rfl | rfl <;> exact sm _) (D9 a b ha)
theorem D2 (a b:List Int) (ha:aU a):az Tryz.prog 224 [encI a,encI b] (gb (decide (a=b))):=az.val (by
  intro v hv; simp at hv
  rcases hv with rfl | rfl <;> exact nG _) (Ea a b ha)
theorem Fj (x y:bd) (hx:aU x.right):az Tryz.prog 182 [.agg (bc x),.agg (bc y)] (gb (decide (x=y))):=by
  refine az.val (by
    intro v hv; simp at hv
    rcases hv with rfl | rfl <;> exact bP _ (dH _)) fun H=>?_
  rw[FB]
  refine aA.of mixed we ?_
  simp (disch:=omega) only [↓wr,↓reduceIte,wq,ai,ah,an,ab,ae,ag,aj,isNil,Nat.reduceEqDiff,Nat.reduceAdd,Nat.reduceLT,Nat.reduceLeDiff,Int.reduceNeg,Int.reduceToNat,reduceCtorEq,tC,bc,encI]
  repeat' (first | (refine ar.dec (fun _=>?_) (fun _=>?_)) | (refine ar.eq (fun _=>?_) (fun _=>?_)) | (refine ar.ne (fun _=>?_) (fun _=>?_)) | (refine ar.split (fun _=>?_) (fun _=>?_)) | (refine aK.pure (D2 x.right y.right hx) (by kernel_rfl) ?_) | (simp (disch:=omega) only [↓wr,↓reduceIte,wq,ai,ah,an,ab,ae,ag,aj,isNil,Nat.reduceEqDiff,Nat.reduceAdd,Nat.reduceLT,Nat.reduceLeDiff,Int.reduceNeg,Int.reduceToNat,reduceCtorEq,bc]))
  all_goals simp[*]
theorem zn (a b:List bd) (ha:aU a) (hr:∀ r∈a,aU r.right) (H:View):aA Tryz.prog 181 [.aP (a.map bc),.aP (b.map bc),.fn 182 [] []] H fun r _=>r=gb (decide (a=b)):=by
  refine aA.of mixed cT ?_
  unfold aU at ha
  simp (disch:=omega) only [↓wr,↓reduceIte,wq,ai,ah,an,ab,ae,ag,aj,isNil,Nat.reduceEqDiff,Nat.reduceAdd,Nat.reduceLT,Nat.reduceLeDiff,Int.reduceNeg,Int.reduceToNat,reduceCtorEq,bN]
  refine ar.ne (fun h=>?_) (fun h=>?_)
  · simp (disch:=omega) only [↓wr,↓reduceIte,wq,ai,ah,an,ab,ae,ag,aj,isNil,Nat.reduceEqDiff,Nat.reduceAdd,Nat.reduceLT,Nat.reduceLeDiff,Int.reduceNeg,Int.reduceToNat,reduceCtorEq]
    rw[decide_eq_false (ve (by omega))]
  · simp (disch:=omega) only [↓wr,↓reduceIte,wq,ai,ah,an,ab,ae,ag,aj,isNil,Nat.reduceEqDiff,Nat.reduceAdd,Nat.reduceLT,Nat.reduceLeDiff,Int.reduceNeg,Int.reduceToNat,reduceCtorEq]
    refine bt.up a.length (fun i T _=>a.take i=b.take i∧T 15=.aP (a.map bc)∧T 1=.aP (b.map bc)∧T 2=.fn 182 [] []∧T 16=gi a.length∧T 17=gi i) ⟨by simp,rfl,rfl,rfl,rfl,rfl⟩ ?_
    rintro i k T H hk ⟨hi,h0,h1,h6,h7,h8⟩
    simp (disch:=omega) only [↓wr,↓reduceIte,wq,ai,ah,an,ab,ae,ag,aj,isNil,Nat.reduceEqDiff,Nat.reduceAdd,Nat.reduceLT,Nat.reduceLeDiff,Int.reduceNeg,Int.reduceToNat,reduceCtorEq,bL,h0,h1,h6,h7,h8]
    refine ar.dec (fun hc=>?_) (fun hc=>?_)
    · have h2:a[i]?=some (a[i]'(by omega)):=List.getElem?_eq_getElem (by omega)
      have h3:b[i]?=some (b[i]'(by omega)):=List.getElem?_eq_getElem (by omega)
      have hm:a[i]'(by omega)∈a:=List.getElem_mem _
      generalize a[i]'(by omega)=x at h2 hm
      generalize b[i]'(by omega)=y at h3
      have hsx:=hr x hm
      simp (disch:=omega) only [↓wr,↓reduceIte,wq,ai,ah,an,ab,ae,ag,aj,isNil,Nat.reduceEqDiff,Nat.reduceAdd,Nat.reduceLT,Nat.reduceLeDiff,Int.reduceNeg,Int.reduceToNat,reduceCtorEq,h0,h1,h6,h7,h8,List.getElem?_map,h2,h3,bc,encI]
      intro n hn
      try simp (disch:=omega) only [↓wr,↓reduceIte,wq,ai,ah,an,ab,ae,ag,aj,isNil,Nat.reduceEqDiff,Nat.reduceAdd,Nat.reduceLT,Nat.reduceLeDiff,Int.reduceNeg,Int.reduceToNat,reduceCtorEq,h0,h1,h6,h7,h8,List.getElem?_map,h2,h3,bc,encI]
      intro m hmd
      have hmn:=(dZ hmd ep).1
      try simp (disch:=omega) only [↓wr,↓reduceIte,wq,ai,ah,an,ab,ae,ag,aj,isNil,Nat.reduceEqDiff,Nat.reduceAdd,Nat.reduceLT,Nat.reduceLeDiff,Int.reduceNeg,Int.reduceToNat,reduceCtorEq,h0,h1,h6,h7,h8,List.getElem?_map,h2,h3,bc,encI,hmn,hmn.symm]
      refine aK.pure (Fj x y hsx) (by kernel_rfl) ?_
      simp (disch:=omega) only [↓wr,↓reduceIte,wq,ai,ah,an,ab,ae,ag,aj,isNil,Nat.reduceEqDiff,Nat.reduceAdd,Nat.reduceLT,Nat.reduceLeDiff,Int.reduceNeg,Int.reduceToNat,reduceCtorEq,h0,h1,h6,h7,h8]
      refine ar.split (fun e=>?_) (fun e=>?_)
      · simp (disch:=omega) only [↓wr,↓reduceIte,wq,ai,ah,an,ab,ae,ag,aj,isNil,Nat.reduceEqDiff,Nat.reduceAdd,Nat.reduceLT,Nat.reduceLeDiff,Int.reduceNeg,Int.reduceToNat,reduceCtorEq,h0,h1,h6,h7,h8]
        exact bw hk (by omega) ⟨sR h2 h3 hi (by simpa using e),h0,h1,h6,h7,rfl⟩
      · simp (disch:=omega) only [↓wr,↓reduceIte,wq,ai,ah,an,ab,ae,ag,aj,isNil,Nat.reduceEqDiff,Nat.reduceAdd,Nat.reduceLT,Nat.reduceLeDiff,Int.reduceNeg,Int.reduceToNat,reduceCtorEq,h0,h1,h6,h7,h8]
        rw[decide_eq_false (yB h2 h3 (by simpa using e))]
    · simp (disch:=omega) only [↓wr,↓reduceIte,wq,ai,ah,an,ab,ae,ag,aj,isNil,Nat.reduceEqDiff,Nat.reduceAdd,Nat.reduceLT,Nat.reduceLeDiff,Int.reduceNeg,Int.reduceToNat,reduceCtorEq,h0,h1,h6,h7,h8]
      rw[decide_eq_true (vD (by omega) (by omega) hi)]
theorem y6 (a b:List bd) (ha:aU a) (hr:∀ r∈a,aU r.right):az Tryz.prog 181 [.aP (a.map bc),.aP (b.map bc),.fn 182 [] []] (gb (decide (a=b))):=az.val (by
  intro v hv; simp at hv
  rcases hv with rfl | rfl | rfl
  · exact dp _ _ fun x _=>dH x
  · exact dp _ _ fun x _=>dH x
  · exact wg (by simp) (by simp)) (zn a b ha hr)
theorem FY (g k:aH) (hg:g.Ok):az Tryz.prog 121 [.agg (aw g),.agg (aw k)] (gb (decide (g=k))):=by
  refine az.val (El g k) fun H=>?_
  rw[Gf]
  refine aA.of mixed yh ?_
  simp (disch:=omega) only [↓wr,↓reduceIte,wq,ai,ah,an,ab,ae,ag,aj,isNil,Nat.reduceEqDiff,Nat.reduceAdd,Nat.reduceLT,Nat.reduceLeDiff,Int.reduceNeg,Int.reduceToNat,reduceCtorEq,vI,aw,encS]
  repeat' (first | (refine ar.dec (fun _=>?_) (fun _=>?_)) | (refine ar.eq (fun _=>?_) (fun _=>?_)) | (refine ar.ne (fun _=>?_) (fun _=>?_)) | (refine ar.split (fun _=>?_) (fun _=>?_)) | (refine aK.pure (EL g.aE k.aE hg.aE) (by kernel_rfl) ?_) | (refine aK.pure (EW g.aM k.aM hg.aM) (by kernel_rfl) ?_) | (refine aK.pure (y6 g.rules k.rules hg.rules (fun r hr=>(hg.fQ r hr).2.2.1)) (by kernel_rfl) ?_) | (simp (disch:=omega) only [↓wr,↓reduceIte,wq,ai,ah,an,ab,ae,ag,aj,isNil,Nat.reduceEqDiff,Nat.reduceAdd,Nat.reduceLT,Nat.reduceLeDiff,Int.reduceNeg,Int.reduceToNat,reduceCtorEq,aw,encS]))
  all_goals simp_all [Hg]
def xj:SF:=⟨.seq (ao [bo 1 0,aL 2 false]) <|
  .seq (ao [aG 7 4 1,aB 8 120 [7],aa 6 8,bE 9 0 6,bE 10 1 6,bE 11 2 6,((some 3),.op (.alloc [(.emp 1),(.emp 1),(.emp 1),(.val (.int .i64 0))])),(none,.op (.store 4 (.tmp 3) (.tmp 9))),aa 4 10,aa 5 11]) <|
  .seq (.region false [⟨none,[aa 12 5,aq 13 .eql 12 0,aa 14 13]⟩,⟨(some (14,true)),[aG 15 4 1,aG 16 4 3,aB 17 121 [15,16]]⟩,⟨none,[bh 18 14 17,aa 2 18]⟩]) <|
  .ret,
  [.tmp 2],19⟩
theorem y5:aY Tryz.prog 73 [1]=some xj:=by kernel_rfl
theorem Hs (g:aH) (hg:g.Ok) (hs:g.Small):az Tryz.prog 73 [.agg (aw g)] (gb (isRed g)):=by
  refine az.val (fN g) fun H=>?_
  refine aA.of mixed y5 ?_
  simp (disch:=omega) only [↓wr,↓reduceIte,wq,ai,ah,an,ab,ae,ag,aj,isNil,Nat.reduceEqDiff,Nat.reduceAdd,Nat.reduceLT,Nat.reduceLeDiff,Int.reduceNeg,Int.reduceToNat,reduceCtorEq,xj,aw,encS]
  refine aK.pure (Cj g hg hs).pure (by kernel_rfl) ?_
  unfold isRed
  generalize kD g=x
  obtain ⟨k,il,e⟩:=x
  simp (disch:=omega) only [↓wr,↓reduceIte,wq,ai,ah,an,ab,ae,ag,aj,isNil,Nat.reduceEqDiff,Nat.reduceAdd,Nat.reduceLT,Nat.reduceLeDiff,Int.reduceNeg,Int.reduceToNat,reduceCtorEq,w5,aw,encS]
  intro n hn
  refine ar.eq (fun h=>?_) (fun h=>?_)
  · simp (disch:=omega) only [↓wr,↓reduceIte,wq,ai,ah,an,ab,ae,ag,aj,isNil,Nat.reduceEqDiff,Nat.reduceAdd,Nat.reduceLT,Nat.reduceLeDiff,Int.reduceNeg,Int.reduceToNat,reduceCtorEq,w5,aw,encS]
    refine aK.pure (FY g k hg) (by kernel_rfl) ?_
    simp (disch:=omega) only [↓wr,↓reduceIte,wq,ai,ah,an,ab,ae,ag,aj,isNil,Nat.reduceEqDiff,Nat.reduceAdd,Nat.reduceLT,Nat.reduceLeDiff,Int.reduceNeg,Int.reduceToNat,reduceCtorEq]
    simp[h]
  · simp (disch:=omega) only [↓wr,↓reduceIte,wq,ai,ah,an,ab,ae,ag,aj,isNil,Nat.reduceEqDiff,Nat.reduceAdd,Nat.reduceLT,Nat.reduceLeDiff,Int.reduceNeg,Int.reduceToNat,reduceCtorEq]
    simp[h]
def Ic:aH:=⟨[⟨⟨#[39,97,39]⟩,0,0⟩,⟨⟨#[39,98,39]⟩,0,0⟩,⟨⟨#[39,99,39]⟩,0,0⟩,⟨⟨#[39,100,39]⟩,0,0⟩],[⟨#[115]⟩,⟨#[117]⟩,⟨#[118]⟩],[⟨0,[0,(-2)],0⟩,⟨0,[1],1⟩,⟨0,[],(-1)⟩,⟨1,[(-2),2],2⟩,⟨2,[3,(-1)],3⟩],0⟩
def HK:aH:=⟨Ic.aE,[⟨#[115]⟩],[⟨0,[1],1⟩,⟨0,[],(-1)⟩],0⟩
theorem jU:isRed HK=true:=by kernel_rfl
section
variable {κ:Type} [BEq κ] [LawfulBEq κ] {kv:κ→V}
variable {P:Program} {T:Env} {H:View} {kt et t ty:TypeId}
end
def GG:List Int:=[37,37,32,115,32,58,32,39,97,39,32,115,32,124,32,59]
def kJ:aH:=⟨[⟨⟨#[39,97,39]⟩,0,0⟩],[⟨#[115]⟩],[⟨0,[0,(-1)],0⟩,⟨0,[],(-1)⟩],0⟩
theorem H8:cI Tryz.prog 52 [uc GG] (mw kJ):=BE (by kernel_rfl)
section
variable {g:aH} {p:List Int} {T:Tb} {N:Nat}
end
section
variable {g r:aH} {p q:List Bool} {o:List Int}
end
section
variable {fit:List Int→Bool} {T b:Nat}
end
section
variable {P:Program} {T:Env} {H:View} {K:V→View→Prop} {w:bR (T,H,K)} {t t1 e ty:TypeId}
end
def Da:Value→Value→Bool
  | .int k a,.int k' b=>decide (k=k') && decide (a=b)
  | .bool a,.bool b=>a == b
  | .string a,.string b=>eH a b
  | .pointer none,.pointer none=>true
  | _,_=>false
theorem Gc:∀ (a b:Value),Da a b=true→a=b:=by
  intro a b h
  unfold Da at h
  split at h
  · simp only[Bool.and_eq_true,decide_eq_true_eq] at h
    rw[h.1,h.2]
  · rename_i a b
    rw[show a=b by simpa using h]
  · rename_i a b
    obtain ⟨a⟩:=a
    obtain ⟨b⟩:=b
    simp only[eH,beq_iff_eq] at h
    rw[show a=b from Array.toList_inj.1 h]
  · rfl
  · simp at h
def tf (q:V→V→Bool):List V→List V→Bool
  | [],[]=>true
  | a :: l,b :: m=>q a b && tf q l m
  | _,_=>false
def BR (q:V→V→Bool):List (List V)→List (List V)→Bool
  | [],[]=>true
  | a :: l,b :: m=>tf q a b && BR q l m
  | _,_=>false
def xz:Nat→V→V→Bool
  | 0,_,_=>false
  | k+1,a,b=>match a,b with
    | .val x,.val y=>Da x y
    | .aP x,.aP y=>BR (xz k) x y
    | .agg x,.agg y=>tf (xz k) x y
    | .bg x,.bg y=>tf (xz k) x y
    | _,_=>false
theorem pv {q:V→V→Bool} (hq:∀ a b,q a b=true→a=b):∀ (l m:List V),tf q l m=true→l=m
  | [],[],_=>rfl
  | a :: l,b :: m,h=>by
    simp only[tf,Bool.and_eq_true] at h
    rw[hq a b h.1,pv hq l m h.2]
  | [],_ :: _,h=>by simp[tf] at h
  | _ :: _,[],h=>by simp[tf] at h
theorem Db {q:V→V→Bool} (hq:∀ a b,q a b=true→a=b):∀ (l m:List (List V)),BR q l m=true→l=m
  | [],[],_=>rfl
  | a :: l,b :: m,h=>by
    simp only[BR,Bool.and_eq_true] at h
    rw[pv hq a b h.1,Db hq l m h.2]
  | [],_ :: _,h=>by simp[BR] at h
  | _ :: _,[],h=>by simp[BR] at h
theorem zd:∀ (k:Nat) (a b:V),xz k a b=true→a=b
  | 0,_,_,h=>by simp[xz] at h
  | k+1,a,b,h=>by
    have ih:=zd k
    unfold xz at h
    split at h
    · rw[Gc _ _ h]
    · rw[Db ih _ _ h]
    · rw[pv ih _ _ h]
    · rw[pv ih _ _ h]
    · simp at h
def nM:Nat→V→Bool
  | 0,_=>false
  | k+1,v=>match v with
    | .val _=>true
    | .emp _=>true
    | .cp=>true
    | .aP es=>es.all fun e=>e.all (nM k)
    | .agg cs=>cs.all (nM k)
    | .bg cs=>cs.all (nM k)
    | _=>false
theorem qf {q:V→Bool} {l:List V} (h:l.all q=true) {i:Nat} (hi:i < l.length):q (l.getD i .any)=true:=by
  have e:l.getD i .any=l[i]:=by simp[List.getD_eq_getElem?_getD,hi]
  rw[e]
  exact List.all_eq_true.1 h _ (List.getElem_mem _)
theorem uu:∀ (k:Nat) (v:V),nM k v=true→Tree v
  | 0,_,h=>by simp[nM] at h
  | k+1,v,h=>by
    have ih:=uu k
    unfold nM at h
    split at h
    · exact .val _
    · exact .emp _
    · exact .cp
    · rename_i es
      refine .aP _ fun i j hi hj=>ih _ ?_
      have e:es.getD i []=es[i]:=by simp[List.getD_eq_getElem?_getD,hi]
      have h1:=List.all_eq_true.1 h _ (List.getElem_mem hi)
      rw[e] at hj ⊢
      exact qf h1 hj
    · exact .agg _ fun i hi=>ih _ (qf h hi)
    · exact .bg _ fun i hi=>ih _ (qf h hi)
    · simp at h
noncomputable def pW (H:View):Nat→V→Option V
  | 0,_=>none
  | k+1,v=>match v with
    | .val x=>some (.val x)
    | .emp _=>some (.aP [])
    | .aP es=>match nM 60 (.aP es) with
      | true=>some (.aP es)
      | false=>none
    | .sl id off len _=>match H id with
      | .arr _ es=>match Nat.ble (off+len) es.length with
        | true=>(wb (pW H k) ((es.drop off).take len)).map .aP
        | false=>none
      | _=>none
    | .agg cs=>(jo (pW H k) cs).map .agg
    | .bg cs=>(jo (pW H k) cs).map .bg
    | _=>none
theorem xb (h:ax):∀ (k:Nat) (v t:V),pW h.view k v=some t→Fr h v t
  | 0,v,t,hf=>by simp[pW] at hf
  | k+1,v,t,hf=>by
    have ih:=xb h k
    simp only[pW] at hf
    split at hf
    · simp only[Option.some.injEq] at hf; subst hf; exact .tree _ (.val _)
    · simp only[Option.some.injEq] at hf; subst hf; exact .emp _
    · split at hf
      · rename_i ht
        simp only[Option.some.injEq] at hf; subst hf; exact .tree _ (uu _ _ ht)
      · simp at hf
    · rename_i id off len esz
      split at hf
      · rename_i z es hH
        split at hf
        · rename_i hle
          have hle:=Nat.le_of_ble_eq_true hle
          simp only[Option.map_eq_some_iff] at hf
          obtain ⟨es',he,rfl⟩:=hf
          obtain ⟨g1,g2⟩:=wi _ _ he
          have hlen:es'.length=len:=by rw[g1]; simp; omega
          have hg:∀ i,i < len→((es.drop off).take len).getD i []=es.getD (off+i) []:=fun i hi=>by
            simp[List.getD_eq_getElem?_getD,List.getElem?_take,hi]
          have g3:∀ i,i < len→jo (pW h.view k) (es.getD (off+i) [])=some (es'.getD i []):=fun i hi=>by
            rw[← hg i hi]; exact g2 i (by rw[← g1,hlen]; exact hi)
          exact .sl id off len esz z es es' hH hle hlen (fun i hi=>(ed _ _ (g3 i hi)).1) (fun i j hi hj=>ih _ _ ((ed _ _ (g3 i hi)).2 j (by rw[← (ed _ _ (g3 i hi)).1]; exact hj)))
        · simp at hf
      · simp at hf
    · simp only[Option.map_eq_some_iff] at hf
      obtain ⟨l,hl,rfl⟩:=hf
      obtain ⟨g1,g2⟩:=ed _ _ hl
      exact .agg _ _ g1 (fun i hi=>ih _ _ (g2 i hi))
    · simp only[Option.map_eq_some_iff] at hf
      obtain ⟨l,hl,rfl⟩:=hf
      obtain ⟨g1,g2⟩:=ed _ _ hl
      exact .bg _ _ g1 (fun i hi=>ih _ _ (g2 i hi))
    · simp at hf
theorem az.seen {P:Program} {f:FuncId} {vs ts:List V} {t:V} (hc:az P f ts t) (ht:∀ i,i < vs.length→Tree (vs.getD i .any)) (hl:ts.length=vs.length) (hfr:∀ i,i < vs.length→Fr [] (vs.getD i .any) (ts.getD i .any)):az P f vs t:=by
  intro Z μ w xs hrel hz
  have hr0:er Z (fun _=>none) w.heap (cat [] fun _=>.dead):=by
    rw[wa]
    exact ⟨fun _=>trivial,fun i j b o s o' s' _ h=>by simp at h,fun id b o s h=>by simp at h,hz,fun id b o s h=>by simp at h⟩
  have hno:∀ b,¬ eS (fun _=>none) b:=fun b ⟨_,_,_,h⟩=>by simp at h
  have hts:dA (fun b=>Z b∨eS (fun _=>none) b) μ w.heap ts xs:=⟨by rw[hl,hrel.1],fun i hi=>vr hr0 (hfr i (by omega)) (qu (hrel.2 i (by omega)) (ht i (by omega)))⟩
  refine (hc _ μ w xs hts (fun b hb=>hb.elim (hz b) (fun h=>absurd h (hno b)))).mono ?_
  rintro e w' ⟨x,Z',rfl,hv,hs,h1,h2,ho⟩
  exact ⟨x,Z',rfl,hv,hs,fun b hb=>h1 b (.inl hb),fun b hb=>(h2 b hb).elim (fun h=>h.elim .inl (fun h=>absurd h (hno b))) .inr,ho⟩
abbrev pL:=FuncId × List V × V × Bool
def pL.Ok (P:Program) (x:pL):Prop:=bQ P x.1=true∧if x.2.2.2=true then az P x.1 x.2.1 x.2.2.1 else (cI P x.1 x.2.1 x.2.2.1∨(az P x.1 x.2.1 x.2.2.1∧ub x.2.2.1))
noncomputable def GH (g:FuncId) (vs:List V) (H:View) (x:pL):Bool:=Nat.beq x.1 g && (match x.2.2.2 with
  | true=>vs.all (nM 60) && (match jo (pW (fun _=>.dead) 60) vs with
    | some ts=>tf (xz 60) ts x.2.1
    | none=>false)
  | false=>match jo (pW H 60) vs with
    | some ts=>tf (xz 60) ts x.2.1
    | none=>false)
noncomputable def GB (l:List pL):rX:=fun g vs H=>(l.find? (GH g vs H)).map fun x=>x.2.2.1
theorem FO {P:Program} {l:List pL} (hl:∀ x∈l,x.Ok P):mT P (GB l):=by
  intro g vs H t h
  unfold GB at h
  simp only[Option.map_eq_some_iff] at h
  obtain ⟨⟨f,ts,r,b⟩,hx,rfl⟩:=h
  obtain ⟨h1,h2⟩:=hl _ (List.mem_of_find?_eq_some hx)
  have hq:=List.find?_some hx
  simp only[GH,Bool.and_eq_true] at hq
  obtain ⟨hg,hq⟩:=hq
  have hg:=Nat.eq_of_beq_eq_true hg
  simp only at hg h1 h2 hq
  subst hg
  refine ⟨h1,?_⟩
  rintro h rfl
  cases b with
  | true =>
    simp only[Bool.and_eq_true] at hq
    obtain ⟨hq1,hq2⟩:=hq
    split at hq2
    · rename_i us hus
      obtain ⟨g1,g2⟩:=ed _ _ hus
      have:=pv (zd 60) _ _ hq2
      subst this
      simp only[if_true] at h2
      exact bm.eA (h2.seen (fun i hi=>uu _ _ (qf hq1 hi)) g1 fun i hi=>xb [] 60 _ _ (g2 i hi)) h
    · simp at hq2
  | false =>
    simp only at hq
    split at hq
    · rename_i us hus
      obtain ⟨g1,g2⟩:=ed _ _ hus
      have:=pv (zd 60) _ _ hq
      subst this
      have hfr:=fun i hi=>xb h 60 _ _ (g2 i hi)
      simp only[Bool.false_eq_true,if_false] at h2
      rcases h2 with h2 | ⟨h2,h3⟩
      · exact bm.po h2 g1 hfr
      · exact bm.borrow h2 h3 g1 hfr
    · simp at hq
def nB (x:Int):Bool:=decide (-9223372036854775808≤x) && decide (x≤9223372036854775807)
theorem kk {x:Int} (h:nB x=true):cm x:=by
  unfold nB at h
  simp only[Bool.and_eq_true,decide_eq_true_eq] at h
  exact h
def okB (g:aH):Bool:=decide (g.aE.length≤900) && decide (g.aM.length≤100) && decide (g.rules.length≤900) && nB g.start && g.aE.all (fun t=>nB t.level && nB t.assoc) && g.rules.all fun r=>nB r.left && nB r.prec && decide (r.right.length≤900) && r.right.all nB
theorem Dx {g:aH} (h:okB g=true):g.Ok∧g.Small:=by
  unfold okB at h
  simp only[Bool.and_eq_true,decide_eq_true_eq,List.all_eq_true] at h
  obtain ⟨⟨⟨⟨⟨h1,h2⟩,h3⟩,h4⟩,h5⟩,h6⟩:=h
  refine ⟨⟨by unfold aU; omega,by unfold aU; omega,by unfold aU; omega,kk h4,fun t ht=>⟨kk (h5 t ht).1,kk (h5 t ht).2⟩,fun r hr=>?_⟩,⟨by omega⟩⟩
  have:=h6 r hr
  exact ⟨kk this.1.1.1,kk this.1.1.2,by unfold aU; have:=this.1.2; omega,fun x hx=>kk (this.2 x hx)⟩
theorem iG:kJ.Ok∧kJ.Small:=Dx (by kernel_rfl)
theorem Im {cs:List Value} (h:cs.length=2):cs=[cs.getD 0 undef,cs.getD 1 undef]:=by
  match cs,h with
  | [a,b],_=>rfl
theorem Hi:nT Tryz.prog 89 b5 (fun c=>cm c.kind∧cm c.n):=fun enc w base sp held fuel cs x h hw=>by
  obtain ⟨hl,hf⟩:=kX Tryz.underlying89 (by
    intro i f hi
    match i,hi with
    | 0,hi=>simp at hi; subst hi; exact ⟨rfl,by kernel_rfl⟩
    | 1,hi=>simp at hi; subst hi; exact ⟨rfl,by kernel_rfl⟩
    | n+2,hi=>simp at hi) (by kernel_rfl) h hw
  obtain ⟨a,h0,h1⟩:=hf 0 _ rfl gx
  obtain ⟨b,h2,h3⟩:=hf 1 _ rfl gx
  refine ⟨⟨a,b⟩,⟨h0,h2⟩,?_⟩
  rw[Im hl]
  exact cE h1 (cE h3 mO)
theorem Hx:nT Tryz.prog 90 (fun l:List Cell=>[uP l]) (fun l=>aU l∧∀ c∈l,cm c.kind∧cm c.n) :=
  iw Tryz.underlying90 (of_decide_eq_true (by kernel_rfl)) (of_decide_eq_true (by kernel_rfl)) Hi
theorem Hv:nT Tryz.prog 33 bb lD.Ok:=fun enc w base sp held fuel cs x h hw=>by
  obtain ⟨hl,hf⟩:=kX Tryz.underlying33 (by
    intro i f hi
    match i,hi with
    | 0,hi=>simp at hi; subst hi; exact ⟨rfl,by kernel_rfl⟩
    | 1,hi=>simp at hi; subst hi; exact ⟨rfl,by kernel_rfl⟩
    | n+2,hi=>simp at hi) (by kernel_rfl) h hw
  obtain ⟨a,h0,h1⟩:=hf 0 _ rfl (iw Tryz.underlying30 (of_decide_eq_true (by kernel_rfl)) (of_decide_eq_true (by kernel_rfl)) Hx)
  obtain ⟨b,h2,h3⟩:=hf 1 _ rfl (iw Tryz.underlying31 (of_decide_eq_true (by kernel_rfl)) (of_decide_eq_true (by kernel_rfl)) A9)
  refine ⟨⟨a,b⟩,⟨h0.1,h2.1,h0.2,h2.2⟩,?_⟩
  rw[Im hl]
  exact cE h1 (cE h3 mO)
def iW:SC :=
  .seq (.seq (ao [aa 15 3,al 16 0 1,ak 17 16,aC 18 17,aF 19 .lss 15 18]) <|
  .cond (.tmp 19) (.skip) (.exit 0)) <|
  .seq (.block 1 (.seq (ao [al 22 0 1,ak 23 22,aa 24 3,aJ 25 1 23 24,ak 26 25,aC 27 26,aq 28 .gtr 27 50]) <|
  .cond (.tmp 28) (.seq (ao [aL 2 true]) <|
  .ret) (.skip))) <|
  ao [aa 20 3,aq 21 .add 20 1,aa 3 21]
def iY:SC :=
  .seq (.seq (ao [aa 29 4,al 30 1 1,ak 31 30,aC 32 31,aF 33 .lss 29 32]) <|
  .cond (.tmp 33) (.skip) (.exit 2)) <|
  .seq (.block 3 (.seq (ao [al 36 1 1,ak 37 36,aa 38 4,aJ 39 1 37 38,ak 40 39,aC 41 40,aq 42 .gtr 41 50]) <|
  .cond (.tmp 42) (.seq (ao [aL 2 true]) <|
  .ret) (.skip))) <|
  ao [aa 34 4,aq 35 .add 34 1,aa 4 35]
def jW:SF:=⟨.seq (ao [bo 1 0,aL 2 false]) <|
  .seq (.seq (.region false [⟨none,[al 5 0 1,ak 6 5,aC 7 6,aq 8 .gtr 7 310,aa 9 8]⟩,⟨(some (9,false)),[al 10 1 1,ak 11 10,aC 12 11,aq 13 .gtr 12 310]⟩,⟨none,[aX 14 9 13]⟩]) <|
  .cond (.tmp 14) (.seq (ao [aL 2 true]) <|
  .ret) (.skip)) <|
  .seq (.seq (ao [ay 3 0]) <|
  .block 0 (.loop iW)) <|
  .seq (.seq (ao [ay 4 0]) <|
  .block 2 (.loop iY)) <|
  .seq (ao [aL 2 false]) <|
  .ret,
  [.tmp 2],43⟩
theorem oq:aY Tryz.prog 45 [1]=some jW:=by kernel_rfl
def EP (t:lD):Bool:=decide (310 < t.aI.length) || decide (310 < t.gotos.length) || t.aI.any (fun r=>decide (50 < r.length)) || t.gotos.any fun r=>decide (50 < r.length)
theorem F1 (t:lD):∀ v∈[V.agg (bb t)],Tree v:=by
  intro v hv; simp at hv; subst hv
  exact bP _ (kL t)
set_option maxHeartbeats 4000000 in
theorem Cn (t:lD) (ht:t.Ok):∃ b:Bool,az Tryz.prog 45 [.agg (bb t)] (gb b):=by
  refine ⟨EP t,az.val (F1 t) fun H=>?_⟩
  have h1:=ht.aI
  have h2:=ht.gotos
  unfold aU at h1 h2
  refine aA.of mixed oq ?_
  unfold EP
  simp (disch:=omega) only [↓wr,↓reduceIte,wq,ai,ah,an,ab,ae,ag,aj,isNil,Nat.reduceEqDiff,Nat.reduceAdd,Nat.reduceLT,Nat.reduceLeDiff,Int.reduceNeg,Int.reduceToNat,reduceCtorEq,jW,bb]
  refine ar.dec (fun c1=>?_) (fun c1=>?_)
  · simp (disch:=omega) only [↓wr,↓reduceIte,wq,ai,ah,an,ab,ae,ag,aj,isNil,Nat.reduceEqDiff,Nat.reduceAdd,Nat.reduceLT,Nat.reduceLeDiff,Int.reduceNeg,Int.reduceToNat,reduceCtorEq]
    rw[decide_eq_true (show 310 < t.aI.length by omega)]; rfl
  simp (disch:=omega) only [↓wr,↓reduceIte,wq,ai,ah,an,ab,ae,ag,aj,isNil,Nat.reduceEqDiff,Nat.reduceAdd,Nat.reduceLT,Nat.reduceLeDiff,Int.reduceNeg,Int.reduceToNat,reduceCtorEq,bb]
  refine ar.dec (fun c2=>?_) (fun c2=>?_)
  · simp (disch:=omega) only [↓wr,↓reduceIte,wq,ai,ah,an,ab,ae,ag,aj,isNil,Nat.reduceEqDiff,Nat.reduceAdd,Nat.reduceLT,Nat.reduceLeDiff,Int.reduceNeg,Int.reduceToNat,reduceCtorEq]
    rw[decide_eq_true (show 310 < t.gotos.length by omega),Bool.or_true]; rfl
  simp (disch:=omega) only [↓wr,↓reduceIte,wq,ai,ah,an,ab,ae,ag,aj,isNil,Nat.reduceEqDiff,Nat.reduceAdd,Nat.reduceLT,Nat.reduceLeDiff,Int.reduceNeg,Int.reduceToNat,reduceCtorEq]
  rw[decide_eq_false (show ¬ 310 < t.aI.length by omega),decide_eq_false (show ¬ 310 < t.gotos.length by omega),Bool.or_self,Bool.false_or]
  refine bt.up t.aI.length (fun i T H'=>(t.aI.take i).any (fun r=>decide (50 < r.length))=false∧T 1=.aN (bb t) 0∧T 3=gi i) ⟨by simp,rfl,rfl⟩ ?_
  rintro i k T H' hk ⟨hall,t1,t3⟩
  simp (disch:=omega) only [↓wr,↓reduceIte,wq,ai,ah,an,ab,ae,ag,aj,isNil,Nat.reduceEqDiff,Nat.reduceAdd,Nat.reduceLT,Nat.reduceLeDiff,Int.reduceNeg,Int.reduceToNat,reduceCtorEq,iW,t1,t3,bb]
  refine ar.dec (fun hc=>?_) (fun hc=>?_)
  · have ha:t.aI[i]?=some (t.aI[i]'(by omega)):=List.getElem?_eq_getElem (by omega)
    have htk:t.aI.take (i+1)=t.aI.take i ++ [t.aI[i]'(by omega)]:=by rw[List.take_add_one,ha]; rfl
    have hmem:=List.mem_of_getElem? ha
    generalize t.aI[i]'(by omega)=r at ha htk hmem
    have hsr:=(ht.row r hmem).1
    unfold aU at hsr
    simp (disch:=omega) only [↓wr,↓reduceIte,wq,ai,ah,an,ab,ae,ag,aj,isNil,Nat.reduceEqDiff,Nat.reduceAdd,Nat.reduceLT,Nat.reduceLeDiff,Int.reduceNeg,Int.reduceToNat,reduceCtorEq,t1,t3,bb,List.getElem?_map,ha,Option.map_some]
    refine ar.dec (fun hl=>?_) (fun hl=>?_)
    · simp (disch:=omega) only [↓wr,↓reduceIte,wq,ai,ah,an,ab,ae,ag,aj,isNil,Nat.reduceEqDiff,Nat.reduceAdd,Nat.reduceLT,Nat.reduceLeDiff,Int.reduceNeg,Int.reduceToNat,reduceCtorEq]
      rw[show t.aI.any (fun r=>decide (50 < r.length))=true from List.any_eq_true.2 ⟨r,hmem,by simp; omega⟩]; rfl
    · simp (disch:=omega) only [↓wr,↓reduceIte,wq,ai,ah,an,ab,ae,ag,aj,isNil,Nat.reduceEqDiff,Nat.reduceAdd,Nat.reduceLT,Nat.reduceLeDiff,Int.reduceNeg,Int.reduceToNat,reduceCtorEq,t1,t3]
      exact bw hk (by omega) ⟨by rw[htk,List.any_append,hall]; simp; omega,t1,rfl⟩
  rw[List.take_of_length_le (by omega)] at hall
  rw[hall,Bool.false_or]
  simp (disch:=omega) only [↓wr,↓reduceIte,wq,ai,ah,an,ab,ae,ag,aj,isNil,Nat.reduceEqDiff,Nat.reduceAdd,Nat.reduceLT,Nat.reduceLeDiff,Int.reduceNeg,Int.reduceToNat,reduceCtorEq,t1,t3]
  refine bt.up t.gotos.length (fun i T H'=>(t.gotos.take i).any (fun r=>decide (50 < r.length))=false∧T 1=.aN (bb t) 0∧T 4=gi i) ⟨by simp,t1,rfl⟩ ?_
  rintro i2 k2 T2 H2 hk2 ⟨hall2,t1,t4⟩
  simp (disch:=omega) only [↓wr,↓reduceIte,wq,ai,ah,an,ab,ae,ag,aj,isNil,Nat.reduceEqDiff,Nat.reduceAdd,Nat.reduceLT,Nat.reduceLeDiff,Int.reduceNeg,Int.reduceToNat,reduceCtorEq,iY,t1,t4,bb]
  refine ar.dec (fun hc=>?_) (fun hc=>?_)
  · have ha:t.gotos[i2]?=some (t.gotos[i2]'(by omega)):=List.getElem?_eq_getElem (by omega)
    have htk:t.gotos.take (i2+1)=t.gotos.take i2 ++ [t.gotos[i2]'(by omega)]:=by rw[List.take_add_one,ha]; rfl
    have hmem:=List.mem_of_getElem? ha
    generalize t.gotos[i2]'(by omega)=r at ha htk hmem
    have hsr:=(ht.go r hmem).1
    unfold aU at hsr
    simp (disch:=omega) only [↓wr,↓reduceIte,wq,ai,ah,an,ab,ae,ag,aj,isNil,Nat.reduceEqDiff,Nat.reduceAdd,Nat.reduceLT,Nat.reduceLeDiff,Int.reduceNeg,Int.reduceToNat,reduceCtorEq,t1,t4,bb,List.getElem?_map,ha,Option.map_some,encI]
    refine ar.dec (fun hl=>?_) (fun hl=>?_)
    · simp (disch:=omega) only [↓wr,↓reduceIte,wq,ai,ah,an,ab,ae,ag,aj,isNil,Nat.reduceEqDiff,Nat.reduceAdd,Nat.reduceLT,Nat.reduceLeDiff,Int.reduceNeg,Int.reduceToNat,reduceCtorEq]
      rw[show t.gotos.any (fun r=>decide (50 < r.length))=true from List.any_eq_true.2 ⟨r,hmem,by simp; omega⟩]
    · simp (disch:=omega) only [↓wr,↓reduceIte,wq,ai,ah,an,ab,ae,ag,aj,isNil,Nat.reduceEqDiff,Nat.reduceAdd,Nat.reduceLT,Nat.reduceLeDiff,Int.reduceNeg,Int.reduceToNat,reduceCtorEq,t1,t4]
      exact bw hk2 (by omega) ⟨by rw[htk,List.any_append,hall2]; simp; omega,t1,rfl⟩
  rw[List.take_of_length_le (by omega)] at hall2
  rw[hall2]
  simp (disch:=omega) only [↓wr,↓reduceIte,wq,ai,ah,an,ab,ae,ag,aj,isNil,Nat.reduceEqDiff,Nat.reduceAdd,Nat.reduceLT,Nat.reduceLeDiff,Int.reduceNeg,Int.reduceToNat,reduceCtorEq]
end Gv
