/- Lemmas towards the law. Conditions: each one says its own. -/
import Derived.Test.YtnhmohbhgocbjaaGreatDoorZU8
import Derived.Test.YtnhmohbhgocbjaaGreatDoorZU12
set_option linter.all false
set_option maxHeartbeats 64000000
set_option maxRecDepth 100000
namespace Go.Proofs
open Go.Shelf
def Tryz.laysSort_ren:Go.Shelf.Ren:=⟨fun|6=>123|15=>174|14=>173|28=>205|29=>206|20=>197|21=>198|22=>199|23=>200|24=>201|25=>202|26=>203|27=>204|46=>224|47=>225|48=>226|49=>227|50=>228|57=>242|n=>n,fun|22=>32|24=>35|25=>190|3=>3|39=>149|0=>0|53=>206|55=>259|4=>4|46=>252|45=>251|50=>163|5=>5|9=>9|66=>274|70=>278|76=>291|77=>292|n=>n,fun|n=>n⟩
theorem Tryz.laysSort:Go.Proofs.SlLaysF.n6 Tryz.prog Tryz.laysSort_ren where
 mixed:=by kernel_rfl
 f6:=⟨ "slices.SortFunc[[][]askance/api.Value,[]askance/api.Value]",by decide,Tryz.func123.trans (congrArg some (by kernel_rfl))⟩
 f14:=⟨ "slices.pdqsortCmpFunc[[]askance/api.Value]",by decide,Tryz.func173.trans (congrArg some (by kernel_rfl))⟩
 f15:=Tryz.func174.trans (congrArg some (by kernel_rfl))
 f20:=⟨ "slices.insertionSortCmpFunc[[]askance/api.Value]",by decide,Tryz.func197.trans (congrArg some (by kernel_rfl))⟩
 f21:=⟨ "slices.heapSortCmpFunc[[]askance/api.Value]",by decide,Tryz.func198.trans (congrArg some (by kernel_rfl))⟩
 f22:=⟨ "slices.breakPatternsCmpFunc[[]askance/api.Value]",by decide,Tryz.func199.trans (congrArg some (by kernel_rfl))⟩
 f23:=⟨ "slices.choosePivotCmpFunc[[]askance/api.Value]",by decide,Tryz.func200.trans (congrArg some (by kernel_rfl))⟩
 f24:=⟨ "slices.reverseRangeCmpFunc[[]askance/api.Value]",by decide,Tryz.func201.trans (congrArg some (by kernel_rfl))⟩
 f25:=⟨ "slices.partialInsertionSortCmpFunc[[]askance/api.Value]",by decide,Tryz.func202.trans (congrArg some (by kernel_rfl))⟩
 f26:=⟨ "slices.partitionEqualCmpFunc[[]askance/api.Value]",by decide,Tryz.func203.trans (congrArg some (by kernel_rfl))⟩
 f27:=⟨ "slices.partitionCmpFunc[[]askance/api.Value]",by decide,Tryz.func204.trans (congrArg some (by kernel_rfl))⟩
 f28:=Tryz.func205.trans (congrArg some (by kernel_rfl))
 f29:=Tryz.func206.trans (congrArg some (by kernel_rfl))
 f46:=⟨ "slices.siftDownCmpFunc[[]askance/api.Value]",by decide,Tryz.func224.trans (congrArg some (by kernel_rfl))⟩
 f47:=Tryz.func225.trans (congrArg some (by kernel_rfl))
 f48:=Tryz.func226.trans (congrArg some (by kernel_rfl))
 f49:=⟨ "slices.medianAdjacentCmpFunc[[]askance/api.Value]",by decide,Tryz.func227.trans (congrArg some (by kernel_rfl))⟩
 f50:=⟨ "slices.medianCmpFunc[[]askance/api.Value]",by decide,Tryz.func228.trans (congrArg some (by kernel_rfl))⟩
 f57:=⟨ "slices.order2CmpFunc[[]askance/api.Value]",by decide,Tryz.func242.trans (congrArg some (by kernel_rfl))⟩
 t0:=Tryz.underlying0
 a0:=Tryz.isAgg0
 z0:=Tryz.sizeOf0
 v0:=Tryz.zeroValue0
 t3:=Tryz.underlying3
 a3:=Tryz.isAgg3
 z3:=Tryz.sizeOf3
 v3:=Tryz.zeroValue3
 t4:=Tryz.underlying4
 a4:=Tryz.isAgg4
 z4:=Tryz.sizeOf4
 v4:=Tryz.zeroValue4
 t5:=Tryz.underlying5
 a5:=Tryz.isAgg5
 z5:=Tryz.sizeOf5
 v5:=Tryz.zeroValue5
 t9:=Tryz.underlying9
 a9:=Tryz.isAgg9
 z9:=Tryz.sizeOf9
 v9:=Tryz.zeroValue9
 t22:=Tryz.underlying32
 a22:=Tryz.isAgg32
 z22:=Tryz.sizeOf32
 v22:=Tryz.zeroValue32
 a24:=Tryz.isAgg35
 z24:=Tryz.sizeOf35
 t25:=Tryz.underlying190
 a25:=Tryz.isAgg190
 z25:=Tryz.sizeOf190
 v25:=Tryz.zeroValue190
 t39:=Tryz.underlying149
 a39:=Tryz.isAgg149
 z39:=Tryz.sizeOf149
 v39:=Tryz.zeroValue149
 t45:=Tryz.underlying251
 a45:=Tryz.isAgg251
 z45:=Tryz.sizeOf251
 v45:=Tryz.zeroValue251
 t46:=Tryz.underlying252
 a46:=Tryz.isAgg252
 z46:=Tryz.sizeOf252
 v46:=Tryz.zeroValue252
 t50:=Tryz.underlying163
 a50:=Tryz.isAgg163
 z50:=Tryz.sizeOf163
 v50:=Tryz.zeroValue163
 t53:=Tryz.underlying206
 a53:=Tryz.isAgg206
 z53:=Tryz.sizeOf206
 v53:=Tryz.zeroValue206
 t55:=Tryz.underlying259
 a55:=Tryz.isAgg259
 z55:=Tryz.sizeOf259
 v55:=Tryz.zeroValue259
 t66:=Tryz.underlying274
 a66:=Tryz.isAgg274
 z66:=Tryz.sizeOf274
 v66:=Tryz.zeroValue274
 t70:=Tryz.underlying278
 a70:=Tryz.isAgg278
 z70:=Tryz.sizeOf278
 v70:=Tryz.zeroValue278
 t76:=Tryz.underlying291
 a76:=Tryz.isAgg291
 z76:=Tryz.sizeOf291
 v76:=Tryz.zeroValue291
 t77:=Tryz.underlying292
 a77:=Tryz.isAgg292
 z77:=Tryz.sizeOf292
 v77:=Tryz.zeroValue292
end Go.Proofs
namespace Go.Proofs.Y
open Go.Abs Go.Proofs.Tryz
attribute [local irreducible] L Code.wp bodyPost Exit.then Exit.inBlock
def bL(e:Ex)(row:List A3):Bool:=e.op==0||rm (aC row e)==1
def xM(e:Ex)(T:e.Ok)(row:List A3):CallA prog 122 [.agg (e.cs.map .iv),.iv (.sl (row.map A3.c))] [] [] [] (aB (bL e row)):=by
 have ke:=kZ row e T;rw[aN] at ke;have ko:=rQ (aC row e);refine iA func122 ntmps122 (fun w0 E0=> ?_);by_cases h:e.op=0
 · have q:(e.op==0)=true:=by simpa using h
   have r:bL e row=true:=by rw[bL,q];rfl
   rw[r];refine wz ?_;all_goals exact L.ends U U sE wK
 · have q:(e.op==0)=false:=by simpa using h
   have r:bL e row=(rm (aC row e)==1):=by rw[bL,q];rfl
   rw[r];refine wz ?_;all_goals exact L.ends U U sE wK
def rW(x y:List A3):Int:=cA (x.getD 0 af) (y.getD 0 af)
def ord_keyF:Ord rW:=ord_cmpM.on (fun x:List A3=>x.getD 0 af)
section
variable [Dr]
def BJ(x y:List A3)(T:x≠ [])(hy:y≠ []):CallA prog 124 [.iv (.sl (x.map A3.c)),.iv (.sl (y.map A3.c))] [] [] [] (aI (rW x y)):=by
 have gx:(x.map A3.c)[(0:Int).toNat]?=some (x.getD 0 af).c:=by
  cases x with
  |nil=>exact absurd U T
  |cons a l=>rfl
 have gy:(y.map A3.c)[(0:Int).toNat]?=some (y.getD 0 af).c:=by
  cases y with
  |nil=>exact absurd U hy
  |cons a l=>rfl
 have k0:=ny (x.getD 0 af) (y.getD 0 af);refine iA func124 ntmps124 (fun w0 E0=> ?_);refine wz ?_;all_goals exact L.ends U U sE wK
end
def JP{l:List (List A3)}(hk: ∀x∈l,∀y∈l,x.getD 0 af=y.getD 0 af->x=y):E4 (cL rW) l where
 tr a b c h1 h2:=by
  simp only[cL,Bool.not_eq_true',decide_eq_false_iff_not] at h1 h2|-;have:=ord_keyF.tr a b c (by have:=ord_keyF.anti a b;omega) (by have:=ord_keyF.anti b c;omega);have:=ord_keyF.anti a c;omega
 tot a b:=by
  have h:=ord_keyF.anti a b;simp only[cL,Bool.or_eq_true,Bool.not_eq_true',decide_eq_false_iff_not];omega
 anti a ha b T h1 h2:=by
  have h:=ord_keyF.anti a b;simp only[cL,Bool.not_eq_true',decide_eq_false_iff_not] at h1 h2;exact hk a ha b T (nz (v:=a.getD 0 af) (w:=b.getD 0 af) (show rW a b=0 by omega))
def GR:Go.Sort.SWO (ltOf rW) where
 irrefl a:=by
  have h:=ord_keyF.anti a a;simp only[ltOf];simp;omega
 trans a b c h1 h2:=by
  simp only[ltOf,decide_eq_true_eq] at h1 h2|-;exact ord_keyF.lt1 h1 C
 ntrans a b c h1 h2:=by
  simp only[ltOf,decide_eq_false_iff_not] at h1 h2|-;have:=ord_keyF.tr c b a (by have:=ord_keyF.anti b c;omega) (by have:=ord_keyF.anti a b;omega);have:=ord_keyF.anti a c;omega
def Ff(l:List (List A3))(ad:l≠ [])(hl:l.length<=140737488355328)(h0: ∀x∈l,x≠ [])(hk: ∀x∈l,∀y∈l,x.getD 0 af=y.getD 0 af->x=y):
 CallA prog 123 [.bsh 1000 0 l.length 1,.fn 124 []] [(1000,bu l)] [(1000,bu (l.mergeSort (cL rW)))] [] (.tup []):=by
 have hL:=JP hk;have key:=CallA.sortFunc laysSort (g:=124) U (fun x:List A3=>IV.sl (x.map A3.c)) rW GR (ty:=35) l (l.mergeSort (cL rW)) ad hl
  (fun x hx y hy=> @BJ ⟨True⟩ x y (h0 x hx) (h0 y hy))
  (fun l' T hs=>by
    have e:=Aj (l:=l) (l':=l') (a:=0) (b:=l.length) hL (Nat.zero_le _) sP (by rw[dL (by rw[T.length_eq];exact Nat.le_refl _),List.drop_length]) (by rw[nc,show iM l' 0 l.length=l' by rw[<-T.length_eq];exact nc l'];exact T) (by rw[show iM l' 0 l.length=l' by rw[<-T.length_eq];exact nc l'];exact hs.imp (fun{a b} h=>by simp[cL,h]));rw[e,bK,nc];simp)
 have f: ∀m:List (List A3),m.map (fun x:List A3=>IV.sl (x.map A3.c))=(m.map ai).flatten:=fun m=>by induction m with
  |nil=>rfl
  |cons a m ih=>rw[List.map_cons,List.map_cons,List.flatten_cons,ih];rfl
 rw[f,f] at key;exact key
def vh{gs:aw}:CallG gs prog 197 [.nils,aI 0,aI 0,.any] [] [] [] (.tup []):=by
 refine iG func197 ntmps197 (fun w0 E0 T=> ?_);refine wz ?_;refine ae (ι:=Nat) (fun i=>⟨[(8,aI 1),(2,aI 0)],[],[]⟩) (fun i=>i) (fun i=>True) (i0:=0) ?_ trivial ?_
 · exact Wk.mk' kK (wG F1) .nil .nil
 intro i _ K hK;refine wz ?_;all_goals exact aM U U wK U
def Fr:CallA prog 206 [.iv (.im (.int .u64 0))] [] [] [] (aI 0):=by
 refine iA func206 ntmps206 (fun w0 E0=> ?_);refine wz ?_;all_goals exact L.ends U U sE wK
def JN:CallA prog 174 [.iv (.im (.int .u64 0))] [] [] [] (aI 0):=by
 refine iA func174 ntmps174 (fun w0 E0=> ?_);(repeat' first|intro T hp|refine LW.is (gp U Fr U U ?_)|refine am ?_|refine al ?_ ?_|fail)
 all_goals exact L.ends U U sE wK
def Ht{gs:aw}:CallG gs prog 173 [.nils,aI 0,aI 0,aI 0,.any] [] [] [] (.tup []):=by
 have y:=vh (gs:=gs);refine iG func173 ntmps173 (fun w0 E0 T=> ?_);refine wz ?_;refine ae (ι:=Nat) (fun i=>⟨[(0,.nils),(1,aI 0),(2,aI 0),(3,aI 0),(4,.any)],[],[]⟩) (fun i=>i) (fun i=>True) (i0:=0) ?_ trivial ?_
 · exact Wk.mk' kK F5 .nil .nil
 intro i _ K hK;(repeat' first|intro hb hp|refine ac [] rfl T y (.cons fR (.cons fR (.cons fR (.cons (Sub.any _) .nil)))) .nil U U U U ?_|refine am ?_|refine al ?_ ?_|fail)
 all_goals exact L.endQ0 U U wK U
def Cy{gs:aw}:CallG gs prog 123 [.nils,.any] [] [] [] (.tup []):=by
 have y:=Ht (gs:=gs);refine iG func123 ntmps123 (fun w0 E0 T=> ?_);(repeat' first|intro hb hp|refine ac [] rfl T y (.cons fR (.cons fR (.cons fR (.cons fR (.cons (Sub.any _) .nil))))) .nil U U U U ?_|refine LW.is (gp U JN U U ?_)|refine am ?_|refine al ?_ ?_|fail)
 all_goals exact aM U U wK U
abbrev ca(c:B0)(ps:List Pg)(n:Int):A5:=⟨112,.l [.iv (.sl (c.ts.map A4.c)),.iv (.sl (c.is.map A7.c)),.iv (.sl (ps.map Pg.c)),aI n]⟩
def ou{K:Nat}{l:List (List A3)}(h:l≠ []):EC K l= .bsh K 0 l.length 1:=by
 cases l with
 |nil=>exact absurd U h
 |cons a l=>rfl
def md{K:Nat}{l:List (List A3)}(h:l≠ []):Cd K l= [(K,bu l)]:=by
 cases l with
 |nil=>exact absurd U h
 |cons a l=>rfl
def zq{α:Type}(p:α->Bool){l:List α}{i:Nat}{x:α}(h:l[i]?=some x):(l.take (i+1)).filter p=(l.take i).filter p++(if p x=true then [x] else []):=by
 rw[dv h,List.filter_append];congr 1;by_cases e:p x=true<;>simp[e]
def qU{α:Type}(p:α->Bool)(l:List α)(i:Nat):((l.take i).filter p).length<=l.length:=Nat.le_trans (List.length_filter_le ..) (by rw[lT];omega)
def nn{α:Type}{le:α->α->Bool}{l:List α}(h:l≠ []):l.mergeSort le≠ []:=fun e=>h (nZ (by rw[<-List.length_mergeSort (le:=le) l,e];rfl))
def Dt{gs:aw}(c:B0)(ps:List Pg)(n:Int)(t:A4)(e:Ex)(he:e.Ok)(w:Way)(R:List (List A3))(hR:R.length<=1000000)
 (kw:CallA prog 121 [.agg (c.c.map .iv),.agg (t.c.map .iv),aI 0,.agg (e.cs.map .iv)] [] [] [] (.agg (w.c.map .iv)))
 (kr:CallG gs prog 27 [.agg [.iv (.sl (ps.map Pg.c))],.agg (t.c.map .iv),.agg (w.c.map .iv)] [] (Cd 1000 R) [] (EC 1000 R))
 (h0: ∀x∈R,x≠ []) (hk: ∀x∈R,∀y∈R,x.getD 0 af=y.getD 0 af->x=y):
 CallG gs prog 96 [.ptr 1010 0,.agg (t.c.map .iv),.agg (e.cs.map .iv)] [(1010,ca c ps n)] ((1010,ca c ps n)::Cd 1000 ((R.filter (bL e)).mergeSort (cL rW))) [] (EC 1000 ((R.filter (bL e)).mergeSort (cL rW))):=by
 refine iG func96 ntmps96 (fun w0 E0 hG=> ?_);have ks:=Cy (gs:=gs);by_cases ar:R= []
 · subst ar;rw[show((([]:List (List A3)).filter (bL e)).mergeSort (cL rW))= [] by simp];(repeat' first|intro hb hp|refine eW [] rfl hG kr rfl rfl rfl rfl rfl ?_|refine am ?_|refine al ?_ ?_|fail)
   refine ae (ι:=Nat) (fun i=>⟨[(24,aI 0),(23,aI 0),(7,.nils)],[(1010,ca c ps n)],[]⟩) (fun i=>i) (fun i=>True) (i0:=0) ?_ trivial ?_
   · exact Wk.mk' kK (wG (wG (wG .nil))) B1 .nil
   intro i _ K hK;(repeat' first|intro hb hp|refine ac [] rfl hG ks (.cons fR (.cons (Sub.any _) .nil)) .nil U U U U ?_|refine am ?_|refine al ?_ ?_|fail)
   all_goals exact L.ends U U sE wK
 rw[ou ar,md ar] at kr;(repeat' first|intro hb hp|refine eW [1000] rfl hG kr rfl rfl rfl cZ rfl ?_|refine am ?_|refine al ?_ ?_|fail)
 refine ae (ι:=Nat×List (List A3)) (fun i=>⟨[(24,aI (i.1:Int)),(23,aI (R.length:Int)),(22,.bsh 1000 0 R.length 1),(7,EC 1001 i.2),(4,.ptr 4 0),(5,.ptr 5 0)],(1010,ca c ps n)::(1000,bu R)::(5,⟨78,.l (e.cs.map .iv)⟩)::Cd 1001 i.2,[]⟩) (fun i=>R.length - i.1) (fun i=>(R.take i.1).filter (bL e)=i.2) (i0:=(0,[])) ?_ U ?_
 · (refine Wk.mk' kK ?_ ?_ ?_<;>repeat' (first|exact E6.nil|exact E3.nil|exact F9.nil|(refine wF ?_)|(refine wG ?_)|(refine wB ?_)))
 rintro ⟨i,F⟩ hI K hK;dsimp only at hI hK;have a1:F.length<=R.length:=by rw[<-hI];exact qU _ _ _
 cases hx:R[i]? with
 |none=>
  have q:decide ((i:Int)<(R.length:Int))=false:=decide_eq_false (by have:=gO hx;omega);rw[br hx] at hI;rw[hI];clear hK;by_cases hF:F= []
  · subst hF;rw[show(([]:List (List A3)).mergeSort (cL rW))= [] by simp];(repeat' first|intro hb hp|refine ac [] rfl hG ks (.cons fR (.cons (Sub.any _) .nil)) .nil U U U U ?_|refine am ?_|refine al ?_ ?_|fail)
    all_goals exact L.ends U U sE wK
  · have aR: ∀x∈F,x∈R:=fun x hx=>by rw[<-hI] at hx;exact(List.mem_filter.1 hx).1
    have ky:=(Ff F hF C (fun x hx=>h0 x (aR x hx)) (fun x hx y hy=>hk x (aR x hx) y (aR y hy))).toG (gs:=gs);rw[ou hF,md hF,ou (nn hF),md (nn hF),List.length_mergeSort];refine gK [(1000,1001)] U U U U ?_;(repeat' first|intro hb hp|refine ac [] rfl hG ky fS B1 rfl (gq hF) cZ U ?_|refine am ?_|refine al ?_ ?_|fail)
    all_goals exact L.ends U U sE wK
 |some x=>
  have a0:i<R.length:=(gS hx).1;have q:decide ((i:Int)<(R.length:Int))=true:=decide_eq_true C;have o1:(0+((i:Nat):Int).toNat)*1=i:=nG U;have b1:(i:Int)<(R.length:Int):=C;have p1:(0:Int)<=(i:Int):=C;have kh:=xM e he x;have T:=zq (bL e) hx;rw[hI] at T;have ad:=qU (bL e) R (i+1);rw[T,gV] at ad;cases hh:bL e x with
  |false=>
   rw[hh] at kh;rw[hh,if_neg dD,List.append_nil] at T;rcases F with _|⟨y,l⟩
   all_goals(repeat' first|intro hb hp|(refine LW.is ?_;first|refine ag U (ay U U p1 b1 o1) ?_|refine ag U (bc (es:=R.map ai) (k:=1) (i:=i) (f:=0) U U (jB R) C (ph hx) U) ?_)|refine am ?_|refine al ?_ ?_|fail)
   all_goals refine hK _ (i+1,_) T oD ?_
   all_goals(refine Wk.mk' kK ?_ ?_ ?_<;>repeat' (first|exact E6.nil|exact E3.nil|exact F9.nil|(refine wF ?_)|(refine wG ?_)|(refine wB ?_)))
  |true=>
   rw[hh] at kh;rw[hh,if_pos U] at T;rw[hh,if_pos U] at ad;rcases F with _|⟨y,l⟩
   all_goals(repeat' first|intro hb hp|(refine LW.is ?_;first|refine nU 1001 (news:= [ai x]) U U U (cJ U) (cN _ _) (by simp[maxLen]) sP U ?_|apply eU 1004 (es:=(y::l).map ai) (n:=l.length+1) (news:= [ai x]) (er:=(y::l++ [x]).map ai) (nr:=(y::l++ [x]).length);rfl;rfl;rfl;rfl;exact .inl (row_ne (f:=ai) (k:=1) (fun _=>rfl) dD (cN y l));exact dS (f:=ai) (k:=1) (fun _=>rfl) (y::l);exact cJ U;exact(by rw[lM];exact Nat.le_refl _);exact cN _ _;exact(by rw[fJ];simp at ad|-;omega);exact(by simp at ad|-;omega);rfl;exact ij (y::l) x;exact sP|refine ag U (ay U U p1 b1 o1) ?_|refine ag U (bc (es:=R.map ai) (k:=1) (i:=i) (f:=0) U U (jB R) C (ph hx) U) ?_)|refine am ?_|refine al ?_ ?_|fail)
   · refine hK _ (i+1,[x]) T oD ?_;(refine Wk.mk' kK ?_ ?_ ?_<;>repeat' (first|exact E6.nil|exact E3.nil|exact F9.nil|(refine wF ?_)|(refine wG ?_)|(refine wB ?_)))
   · refine gK [(1001,1004)] U U U U ?_;refine hK _ (i+1,y::l++ [x]) T oD ?_;(refine Wk.mk' kK ?_ ?_ ?_<;>repeat' (first|exact E6.nil|exact E3.nil|exact F9.nil|(refine wF ?_)|(refine wG ?_)|(refine wB ?_)))
def JO: ∀l:List A3,∀e∈l.map A3.c,e.length=3:=fun l e he=>by obtain⟨y,_,rfl⟩:=mM he;rfl
def FA(n:Nat)(a:Int)(ha:a=n)(hn:0<n)(hl:n*32<=140737488355328):
 CallA prog 175 [.nils,aI a] [] [] [(24,⟨41,3⟩)] (.row 24 []):=by
 refine iA func175 ntmps175 (fun w0 E0=> ?_);have T:decide (a<0)=false:=by simp;omega
 have ad:decide ((0:Int)<a - ((0:Int) - ((([]:List (List IV)).length:Nat):Int)))=true:=by simp;omega
 have hz:((([]:List (List IV)).length:Nat):Int)=0:=rfl;(repeat' first|intro T hp|(refine LW.is ?_;first|refine ag U (nN U) ?_|refine ag U (yq U U U) ?_|refine uv 1000 (m:=n) U U U C hn (by rw[fJ];omega) C U U ?_|refine ag U (uc (n':=0) U U (Int.le_refl _) C U) ?_|refine ag U (pS U U C C) ?_)|refine am ?_|refine al ?_ ?_|fail)
 all_goals(apply L.rowS0 1000 24 4 22;rfl;rfl;omega;rfl;rfl;exact hn;rfl)
 all_goals exact L.ends U U fR (Wk.mk' (by intro id h;simp[keys] at h) .nil .nil (.cons U .nil))
def JZ:CallA prog 175 [.nils,aI 0] [] [] [] .nils:=by
 refine iA func175 ntmps175 (fun w0 E0=> ?_);have T:decide ((0:Int)<0 - ((0:Int) - ((([]:List (List IV)).length:Nat):Int)))=false:=by simp
 have hz:((([]:List (List IV)).length:Nat):Int)=0:=rfl;(repeat' first|intro hb hp|(refine LW.is ?_;first|refine ag U (nN U) ?_|refine ag U (pS U U C C) ?_)|refine am ?_|refine al ?_ ?_|fail)
 all_goals exact L.ends U U fR (Wk.mk' (by intro id h;simp[keys] at h) .nil .nil .nil)
def BF(T:List (List A3))(h1:T.length<=1000000)(h2:T.flatten.length*32<=140737488355328):
 CallA prog 127 [.iv (.sl (T.map ai))] [] [] [(13,⟨41,3⟩)] (.row 13 (T.flatten.map A3.c)):=by
 refine iA func127 ntmps127 (fun w0 E0=> ?_);have aR: ∀i,(T.take i).flatten.length<=T.flatten.length:=fun i=>by
  conv=>rhs;rw[<-List.take_append_drop i T,List.flatten_append,gV]
  omega
 have fst: ∀{i:Nat} {A:List A3},T[i]?=some A->(T.take (i+1)).flatten=(T.take i).flatten++A:=fun h=>by rw[dv h];simp
 refine wz ?_;refine ae (ι:=Nat) (fun i=>⟨[(11,aI (i:Int)),(10,aI ((T.map ai).length:Int)),(9,.iv (.sl (T.map ai))),(3,aI ((T.take i).flatten.length:Int)),(0,.iv (.sl (T.map ai)))],[],[]⟩) (fun i=>T.length - i) (fun i=>True) (i0:=0) ?_ trivial ?_
 · exact df
 intro i _ K hK;cases hx:T[i]? with
 |some A=>
  have ad:=fZ (l:=T.map ai) (cM (f:=ai) hx);have ar:=fM hx;have g1:(T.map ai)[((i:Nat):Int).toNat]?=some [.sl (A.map A3.c)]:=by rw[iN,gP,hx];rfl
  have hA:=fst hx;have hB:=aR (i+1);rw[hA,gV] at hB;have lA:(A.map A3.c).length=A.length:=lM _;have hn:decide (((T.take i).flatten.length:Int)+((A.map A3.c).length:Int)<0)=false:=by simp;omega
  (repeat' first|intro hb hp|(refine LW.is ?_;first|refine ag U (iU U U (by rw[lA];omega) (by rw[lA];omega)) ?_)|refine am ?_|refine al ?_ ?_|fail)
  refine hK _ (i+1) trivial C (Wk.mk' kK (wF (wF (wF (.cons U (Sub.of_eq ?_) F1)))) .nil .nil);rw[hA,gV,<-lA];rfl
 |none=>
  have ad:=gc (l:=T.map ai) (bz hx);rw[br hx];clear hK hx;have kg: ∀n:Nat,n=T.flatten.length->0<n->CallA prog 175 [.nils,aI (T.flatten.length:Int)] [] [] [(24,⟨41,3⟩)] (.row 24 []):=fun n hn h0=>FA n _ C h0 C
  by_cases h0:T.flatten.length=0
  · rw[h0];have kz:=JZ;(repeat' first|intro hb hp|refine Aq rfl kz rfl rfl ?_|refine am ?_|refine al ?_ ?_|fail)
    refine L.adopt 24 (s:=6) (t:=41) (k:=3) U U U ?_;refine ae (ι:=Nat) (fun i=>⟨[(27,aI (i:Int)),(26,aI ((T.map ai).length:Int)),(25,.iv (.sl (T.map ai))),(6,.row 24 ((T.take i).flatten.map A3.c))],[],[(24,⟨41,3⟩)]⟩) (fun i=>T.length - i) (fun i=>True) (i0:=0) ?_ trivial ?_
    · exact df
    intro i _ K hK;cases hx:T[i]? with
    |some A=>
     have ad:=fZ (l:=T.map ai) (cM (f:=ai) hx);have ar:=fM hx;have g1:(T.map ai)[((i:Nat):Int).toNat]?=some [.sl (A.map A3.c)]:=by rw[iN,gP,hx];rfl
     have hA:=fst hx;have hB:=aR (i+1);rw[hA,gV] at hB;(repeat' first|intro hb hp|(refine LW.is ?_;first|refine bJ U U U U (JO _) (JO _) (by rw[lM,lM,fJ];omega) (by rw[lM,lM];omega) U U ?_)|refine am ?_|refine al ?_ ?_|fail)
     refine L.only [27,26,25,6] ?_;refine L.retok 6 33 24 U U U U ?_;refine hK _ (i+1) trivial C (Wk.mk' kK (wF (wF (wF (.cons U (Sub.of_eq (congrArg (AV.row 24) (by rw[hA,pA]))) .nil)))) .nil (.cons U .nil))
    |none=>
     have ad:=gc (l:=T.map ai) (bz hx);rw[br hx];refine wz ?_;all_goals(refine L.only [2] ?_)
     all_goals(refine L.retok 2 24 13 U U U U ?_)
     all_goals exact L.ends U U fR (Wk.mk' (by intro id h;simp[keys] at h) .nil .nil (.cons U .nil))
  · have kr:=kg _ U C;(repeat' first|intro hb hp|refine uw rfl kr rfl rfl ?_|refine am ?_|refine al ?_ ?_|fail)
    refine ae (ι:=Nat) (fun i=>⟨[(27,aI (i:Int)),(26,aI ((T.map ai).length:Int)),(25,.iv (.sl (T.map ai))),(6,.row 24 ((T.take i).flatten.map A3.c))],[],[(24,⟨41,3⟩)]⟩) (fun i=>T.length - i) (fun i=>True) (i0:=0) ?_ trivial ?_
    · exact df
    intro i _ K hK;cases hx:T[i]? with
    |some A=>
     have ad:=fZ (l:=T.map ai) (cM (f:=ai) hx);have ar:=fM hx;have g1:(T.map ai)[((i:Nat):Int).toNat]?=some [.sl (A.map A3.c)]:=by rw[iN,gP,hx];rfl
     have hA:=fst hx;have hB:=aR (i+1);rw[hA,gV] at hB;(repeat' first|intro hb hp|(refine LW.is ?_;first|refine bJ U U U U (JO _) (JO _) (by rw[lM,lM,fJ];omega) (by rw[lM,lM];omega) U U ?_)|refine am ?_|refine al ?_ ?_|fail)
     refine L.only [27,26,25,6] ?_;refine L.retok 6 33 24 U U U U ?_;refine hK _ (i+1) trivial C (Wk.mk' kK (wF (wF (wF (.cons U (Sub.of_eq (congrArg (AV.row 24) (by rw[hA,pA]))) .nil)))) .nil (.cons U .nil))
    |none=>
     have ad:=gc (l:=T.map ai) (bz hx);rw[br hx];refine wz ?_;all_goals(refine L.only [2] ?_)
     all_goals(refine L.retok 2 24 13 U U U U ?_)
     all_goals exact L.ends U U fR (Wk.mk' (by intro id h;simp[keys] at h) .nil .nil (.cons U .nil))
def vg{gs:aw}:CallG gs prog 197 [.iv (.sl []),aI 0,aI 0,.any] [] [] [] (.tup []):=by
 refine iG func197 ntmps197 (fun w0 E0 T=> ?_);refine wz ?_;refine ae (ι:=Nat) (fun i=>⟨[(8,aI 1),(2,aI 0)],[],[]⟩) (fun i=>i) (fun i=>True) (i0:=0) ?_ trivial ?_
 · exact Wk.mk' kK (wG F1) .nil .nil
 intro i _ K hK;refine wz ?_;all_goals exact aM U U wK U
def Ah{gs:aw}:CallG gs prog 177 [.iv (.sl []),aI 0,.any] [] [] [] (.tup []):=by
 have y:=vg (gs:=gs);refine iG func177 ntmps177 (fun w0 E0 hG=> ?_);refine wz ?_;refine ae (ι:=Nat) (fun i=>⟨[(6,aI 20),(7,aI 0),(8,aI 20),(0,.iv (.sl [])),(1,aI 0),(2,.any)],[],[]⟩) (fun i=>i) (fun i=>True) (i0:=0) ?_ trivial ?_
 · exact Wk.mk' kK (wG (wG (wG F3))) .nil .nil
 intro i _ K T;clear T;(repeat' first|intro hb hp|refine ac [] rfl hG y (.cons fR (.cons fR (.cons fR (.cons (Sub.any _) .nil)))) .nil U U U U ?_|refine am ?_|refine al ?_ ?_|fail)
 refine ae (ι:=Nat) (fun i=>⟨[(6,aI 20),(1,aI 0)],[],[]⟩) (fun i=>i) (fun i=>True) (i0:=0) ?_ trivial ?_
 · exact Wk.mk' kK (wG F1) .nil .nil
 intro i _ K T;refine wz ?_;all_goals exact aM U U wK U
def tx{gs:aw}:CallG gs prog 130 [.iv (.sl []),.any] [] [] [] (.tup []):=by
 have y:=Ah (gs:=gs);refine iG func130 ntmps130 (fun w0 E0 T=> ?_);(repeat' first|intro hb hp|refine ac [] rfl T y (.cons fR (.cons fR (.cons (Sub.any _) .nil))) .nil U U U U ?_|refine am ?_|refine al ?_ ?_|fail)
 all_goals exact aM U U wK U
def dJ(es:List (List IV))(hk: ∀e∈es,e.length=2)(T:es≠ [])(hm:es.length<=maxLen)(hl:es.length*40<=140737488355328):
 CallA prog 133 [.iv (.sl es)] [] [(1000,⟨57,.r es.flatten 0⟩)] [] (.bsh 1000 0 es.length 2):=by
 refine iA func133 ntmps133 (fun w0 E0=> ?_);(repeat' first|intro hb hp|(refine LW.is ?_;first|apply ag;rfl;apply jZ;rfl;rfl;exact T|apply eA;rfl;rfl;rfl;rfl;rfl|apply kC 1000;rfl;rfl;rfl;exact hk;exact T;exact hm;exact hl;rfl)|refine am ?_|refine al ?_ ?_|fail)
 all_goals(apply L.ends;rfl;rfl;exact fR;exact Wk.mk' kK .nil B1 .nil)
def vQ:CallA prog 133 [.iv (.sl [])] [] [] [] .emp:=by
 refine iA func133 ntmps133 (fun w0 E0=> ?_);(repeat' first|intro T hp|apply mu;rfl;rfl;rfl;rintro (_|_)|(refine LW.is ?_;first|apply eA;rfl;rfl;rfl;rfl;rfl|apply ag;rfl;apply tH;rfl;exact Sub.bslE _ _;rfl)|refine am ?_|refine al ?_ ?_|fail)
 all_goals(apply L.ends;rfl;rfl;(first|exact fR|exact Sub.nilsEmp);exact Wk.mk' kK .nil .nil .nil)
def sQ(es:List (List IV))(v:List IV)(i:Nat)(hk: ∀e∈es,e.length=2)(hv:v.length=2)(a3:es≠ [])(hi:i<=es.length)(hm:es.length+1<=maxLen)(hl:(es.length+1)*40<=140737488355328):
 CallA prog 137 [.bsh 1000 0 es.length 2,aI (i:Int),.bsl 1001 0 1 1] [(1000,⟨57,.r es.flatten 0⟩),(1001,⟨57,.r [v].flatten 0⟩)] [(1002,⟨57,.r (es.take i++v::es.drop i).flatten 0⟩),(1000,⟨57,.l []⟩),(1001,⟨57,.l []⟩)] [] (.bsh 1002 0 (es.length+1) 2):=by
 have bh:=ao es hk;have a9:0<es.length:=gU a3;have ad:=aD hk dD a3;have T: ∀e∈ [v],e.length=2:=by simpa using hv
 have bi: [v].flatten.length=2:=by simpa using hv
 have a0:=tS (i:=i) hk hv;have a1:=tT (v:=v) hi;have a2: ∀e∈es.take i,e.length=2:=bv hk;have bl:(es.take i).length=i:=by simp;omega
 have bm:=ao _ a2;have a6: ∀e∈es.take i++ [v],e.length=2:=cF a2 T;have bp:(es.take i++ [v]).length=i+1:=by simp;omega
 have a7: ∀e∈es.take (i+1)++es.drop i,e.length=2:=cF (bv hk) (bN hk);have bP: [v].length=1:=rfl;have a4:i<es.length->(es.take (i+1)++es.drop i).length=es.length+1:=fun h=>by simp;omega
 refine iA func137 ntmps137 (fun w0 E0=> ?_);refine L.openRow 0 rfl rfl (.inl ad) C (fun cap bR bS=> ?_);generalize bW:cap*2 - es.flatten.length=mm;have hz:(((1:Nat):Int)==0)=false:=rfl;by_cases a5:i=es.length
 · have hb:(((i:Nat):Int)==((es.length:Nat):Int))=true:=by simp[a5]
   subst a5;by_cases ar:es.length+1<=cap
   · (repeat' first|intro hb hp|(refine LW.is ?_;first|apply ag;rfl;apply cx;rfl;rfl;omega;omega;rfl;rfl;rfl|apply nT (i':=0);rfl;rfl;rfl;rfl;rfl;exact .inl ad;exact hk;exact T;rfl;exact Nat.le_refl 1;omega;exact ar;exact Nat.le_refl _;omega;exact JT;rfl;rfl)|refine am ?_|refine al ?_ ?_|fail)
     all_goals(apply cu 6 1002 (k:=2) (n:=es.length+1);rfl;rfl;rfl;exact a0;exact a1;omega;omega)
     all_goals refine cT 1001 rfl (Go.Abs.row_ne (.inl (aD T dD sP))) ?_
     all_goals(apply L.ends;rfl;rfl;exact fR;exact Wk.mk' kK .nil B3 .nil)
   · (repeat' first|intro hb hp|(refine LW.is ?_;first|apply ag;rfl;apply cx;rfl;rfl;omega;omega;rfl;rfl;rfl|apply qz 1002 (i':=0);rfl;rfl;rfl;rfl;rfl;exact hk;exact T;rfl;exact Nat.one_pos;exact Nat.le_refl 1;exact Nat.le_refl _;omega;exact hm;exact hl;rfl;exact JS;rfl)|refine am ?_|refine al ?_ ?_|fail)
     all_goals refine cT 1000 rfl (Go.Abs.row_ne (.inl ad)) ?_
     all_goals refine cT 1001 rfl (Go.Abs.row_ne (.inl (aD T dD sP))) ?_
     all_goals(apply L.ends;rfl;rfl;exact fR;exact Wk.mk' kK .nil B3 .nil)
 · have hb:(((i:Nat):Int)==((es.length:Nat):Int))=false:=by simp;omega
   have aR:i<es.length:=C;have a4:=a4 aR;by_cases ar:es.length+1<=cap
   · have a8:decide ((cap:Int)<(es.length:Int)+((1:Nat):Int))=false:=by simp;omega
     (repeat' first|intro hb hp|(refine LW.is ?_;first|apply ag;rfl;apply cx;rfl;rfl;omega;omega;rfl;rfl;rfl|apply ag;rfl;apply fa;rfl;rfl;omega;omega;rfl|apply ag;rfl;apply lr;rfl;rfl;rfl;rfl;rfl;decide;omega;exact ad|apply ii (es:=es.take (i+1)++es.drop i) (es':= [v]) (i:=i) (i':=0) (cnt:=1) (er:=es.take i++v::es.drop i);rfl;rfl;rfl;rfl;rfl;exact a7;exact T;decide;omega;rfl;(show min _ _=_;omega);decide;omega;omega;(simp;omega);(simp;omega);exact JU aR;rfl)|(refine DR.is ?_;first|apply bg;rfl;apply cx;rfl;rfl;omega;omega;rfl;rfl;rfl|apply jx (es:=es) (es':=es) (i:=i+1) (i':=i) (cnt:=es.length - i) (er:=es.take (i+1)++es.drop i);rfl;rfl;rfl;rfl;rfl;exact hk;exact hk;decide;omega;omega;(show min _ _=_;omega);omega;omega;omega;omega;omega;exact JV hi;rfl)|refine am ?_|refine al ?_ ?_|fail)
     all_goals(apply cu 6 1002 (k:=2) (n:=es.length+1);rfl;rfl;rfl;exact a0;exact a1;omega;omega)
     all_goals refine cT 1001 rfl (Go.Abs.row_ne (.inl (aD T dD sP))) ?_
     all_goals(apply L.ends;rfl;rfl;exact fR;exact Wk.mk' kK .nil B3 .nil)
   · have a8:decide ((cap:Int)<(es.length:Int)+((1:Nat):Int))=true:=by simp;omega
     (repeat' first|intro hb hp|refine L.openRow 9 (id:=2000) (n:=es.length+1) (k:=2) (ty:=57) (xs:=(es.take i).flatten) (m:=(es.length+1 - i)*2) rfl rfl (.inr C) C (fun ba b1 b2=> ?_)|(refine LW.is ?_;first|apply ag;rfl;apply cx;rfl;rfl;omega;omega;rfl;rfl;rfl|apply ag;rfl;apply fa;rfl;rfl;omega;omega;rfl|apply qy 2000 (n:=i) (m:=es.length+1 - i) (nr:=es.length+1);rfl;rfl;rfl;omega;rfl;exact hk;omega;omega;omega;omega;omega;rfl;rfl;omega;rfl|apply ii (es:=es.take i) (es':= [v]) (i:=i) (i':=0) (cnt:=1) (er:=es.take i++ [v]);rfl;rfl;rfl;rfl;rfl;exact a2;exact T;decide;omega;rfl;(show min _ _=_;omega);decide;omega;omega;omega;omega;exact JX hi;rfl)|(refine DR.is ?_;first|apply bg;rfl;apply cx;rfl;rfl;omega;omega;rfl;rfl;rfl|apply jx (es:=es.take i++ [v]) (es':=es) (i:=i+1) (i':=i) (cnt:=es.length - i) (er:=es.take i++v::es.drop i);rfl;rfl;rfl;rfl;rfl;exact a6;exact hk;decide;omega;omega;(show min _ _=_;omega);omega;omega;omega;omega;omega;exact JW hi;rfl)|refine am ?_|refine al ?_ ?_|fail)
     all_goals(apply cu 6 1002 (k:=2) (n:=es.length+1);rfl;rfl;rfl;exact a0;exact a1;omega;omega)
     all_goals refine cT 1000 rfl (Go.Abs.row_ne (.inl ad)) ?_
     all_goals refine cT 1001 rfl (Go.Abs.row_ne (.inl (aD T dD sP))) ?_
     all_goals(apply L.ends;rfl;rfl;exact fR;exact Wk.mk' kK .nil B3 .nil)
def AZ(v:List IV)(hv:v.length=2):
 CallA prog 137 [.emp,aI 0,.iv (.sl [v])] [] [] [] (.iv (.sl [v])):=by
 have T: ∀e∈ [v],e.length=2:=by simpa using hv
 refine iA func137 ntmps137 (fun w0 E0=> ?_);(repeat' first|intro hb hp|apply xf;rfl;rfl;rfl;exact T;exact cN _ _;exact(by simp[maxLen]);exact sP;rfl|(refine LW.is ?_;first|apply ag;rfl;apply jR;rfl;rfl;exact bV;decide;decide;rfl)|refine am ?_|refine al ?_ ?_|fail)
 all_goals refine aU ?_
 all_goals rfl
def jg(es:List (List IV))(hk: ∀e∈es,e.length=3)(T:es≠ [])(hm:es.length<=maxLen)(hl:es.length*48<=140737488355328):
 CallA prog 49 [.iv (.sl es)] [] [(1000,⟨67,.r es.flatten 0⟩)] [] (.bsh 1000 0 es.length 3):=by
 refine iA func49 ntmps49 (fun w0 E0=> ?_);(repeat' first|intro hb hp|(refine LW.is ?_;first|apply ag;rfl;apply jZ;rfl;rfl;exact T|apply eA;rfl;rfl;rfl;rfl;rfl|apply kC 1000;rfl;rfl;rfl;exact hk;exact T;exact hm;exact hl;rfl)|refine am ?_|refine al ?_ ?_|fail)
 all_goals(apply L.ends;rfl;rfl;exact fR;exact Wk.mk' kK .nil B1 .nil)
def gH:CallA prog 49 [.iv (.sl [])] [] [] [] .emp:=by
 refine iA func49 ntmps49 (fun w0 E0=> ?_);(repeat' first|intro T hp|apply mu;rfl;rfl;rfl;rintro (_|_)|(refine LW.is ?_;first|apply eA;rfl;rfl;rfl;rfl;rfl|apply ag;rfl;apply tH;rfl;exact Sub.bslE _ _;rfl)|refine am ?_|refine al ?_ ?_|fail)
 all_goals(apply L.ends;rfl;rfl;(first|exact fR|exact Sub.nilsEmp);exact Wk.mk' kK .nil .nil .nil)
def AY(es:List (List IV))(v:List IV)(i:Nat)(hk: ∀e∈es,e.length=3)(hv:v.length=3)(a3:es≠ [])(hi:i<=es.length)(hm:es.length+1<=maxLen)(hl:(es.length+1)*48<=140737488355328):
 CallA prog 140 [.bsh 1000 0 es.length 3,aI (i:Int),.bsl 1001 0 1 1] [(1000,⟨67,.r es.flatten 0⟩),(1001,⟨67,.r [v].flatten 0⟩)] [(1002,⟨67,.r (es.take i++v::es.drop i).flatten 0⟩),(1000,⟨67,.l []⟩),(1001,⟨67,.l []⟩)] [] (.bsh 1002 0 (es.length+1) 3):=by
 have bh:=ao es hk;have a9:0<es.length:=gU a3;have ad:=aD hk dD a3;have T: ∀e∈ [v],e.length=3:=by simpa using hv
 have bi: [v].flatten.length=3:=by simpa using hv
 have a0:=tS (i:=i) hk hv;have a1:=tT (v:=v) hi;have a2: ∀e∈es.take i,e.length=3:=bv hk;have bl:(es.take i).length=i:=by simp;omega
 have bm:=ao _ a2;have a6: ∀e∈es.take i++ [v],e.length=3:=cF a2 T;have bp:(es.take i++ [v]).length=i+1:=by simp;omega
 have a7: ∀e∈es.take (i+1)++es.drop i,e.length=3:=cF (bv hk) (bN hk);have bP: [v].length=1:=rfl;have a4:i<es.length->(es.take (i+1)++es.drop i).length=es.length+1:=fun h=>by simp;omega
 refine iA func140 ntmps140 (fun w0 E0=> ?_);refine L.openRow 0 rfl rfl (.inl ad) C (fun cap bR bS=> ?_);generalize bW:cap*3 - es.flatten.length=mm;have hz:(((1:Nat):Int)==0)=false:=rfl;by_cases a5:i=es.length
 · have hb:(((i:Nat):Int)==((es.length:Nat):Int))=true:=by simp[a5]
   subst a5;by_cases ar:es.length+1<=cap
   · (repeat' first|intro hb hp|(refine LW.is ?_;first|apply ag;rfl;apply cx;rfl;rfl;omega;omega;rfl;rfl;rfl|apply nT (i':=0);rfl;rfl;rfl;rfl;rfl;exact .inl ad;exact hk;exact T;rfl;exact Nat.le_refl 1;omega;exact ar;exact Nat.le_refl _;omega;exact JT;rfl;rfl)|refine am ?_|refine al ?_ ?_|fail)
     all_goals(apply cu 6 1002 (k:=3) (n:=es.length+1);rfl;rfl;rfl;exact a0;exact a1;omega;omega)
     all_goals refine cT 1001 rfl (Go.Abs.row_ne (.inl (aD T dD sP))) ?_
     all_goals(apply L.ends;rfl;rfl;exact fR;exact Wk.mk' kK .nil B3 .nil)
   · (repeat' first|intro hb hp|(refine LW.is ?_;first|apply ag;rfl;apply cx;rfl;rfl;omega;omega;rfl;rfl;rfl|apply qz 1002 (i':=0);rfl;rfl;rfl;rfl;rfl;exact hk;exact T;rfl;exact Nat.one_pos;exact Nat.le_refl 1;exact Nat.le_refl _;omega;exact hm;exact hl;rfl;exact JS;rfl)|refine am ?_|refine al ?_ ?_|fail)
     all_goals refine cT 1000 rfl (Go.Abs.row_ne (.inl ad)) ?_
     all_goals refine cT 1001 rfl (Go.Abs.row_ne (.inl (aD T dD sP))) ?_
     all_goals(apply L.ends;rfl;rfl;exact fR;exact Wk.mk' kK .nil B3 .nil)
 · have hb:(((i:Nat):Int)==((es.length:Nat):Int))=false:=by simp;omega
   have aR:i<es.length:=C;have a4:=a4 aR;by_cases ar:es.length+1<=cap
   · have a8:decide ((cap:Int)<(es.length:Int)+((1:Nat):Int))=false:=by simp;omega
     (repeat' first|intro hb hp|(refine LW.is ?_;first|apply ag;rfl;apply cx;rfl;rfl;omega;omega;rfl;rfl;rfl|apply ag;rfl;apply fa;rfl;rfl;omega;omega;rfl|apply ag;rfl;apply lr;rfl;rfl;rfl;rfl;rfl;decide;omega;exact ad|apply ii (es:=es.take (i+1)++es.drop i) (es':= [v]) (i:=i) (i':=0) (cnt:=1) (er:=es.take i++v::es.drop i);rfl;rfl;rfl;rfl;rfl;exact a7;exact T;decide;omega;rfl;(show min _ _=_;omega);decide;omega;omega;(simp;omega);(simp;omega);exact JU aR;rfl)|(refine DR.is ?_;first|apply bg;rfl;apply cx;rfl;rfl;omega;omega;rfl;rfl;rfl|apply jx (es:=es) (es':=es) (i:=i+1) (i':=i) (cnt:=es.length - i) (er:=es.take (i+1)++es.drop i);rfl;rfl;rfl;rfl;rfl;exact hk;exact hk;decide;omega;omega;(show min _ _=_;omega);omega;omega;omega;omega;omega;exact JV hi;rfl)|refine am ?_|refine al ?_ ?_|fail)
     all_goals(apply cu 6 1002 (k:=3) (n:=es.length+1);rfl;rfl;rfl;exact a0;exact a1;omega;omega)
     all_goals refine cT 1001 rfl (Go.Abs.row_ne (.inl (aD T dD sP))) ?_
     all_goals(apply L.ends;rfl;rfl;exact fR;exact Wk.mk' kK .nil B3 .nil)
   · have a8:decide ((cap:Int)<(es.length:Int)+((1:Nat):Int))=true:=by simp;omega
     (repeat' first|intro hb hp|refine L.openRow 9 (id:=2000) (n:=es.length+1) (k:=3) (ty:=67) (xs:=(es.take i).flatten) (m:=(es.length+1 - i)*3) rfl rfl (.inr C) C (fun ba b1 b2=> ?_)|(refine LW.is ?_;first|apply ag;rfl;apply cx;rfl;rfl;omega;omega;rfl;rfl;rfl|apply ag;rfl;apply fa;rfl;rfl;omega;omega;rfl|apply qy 2000 (n:=i) (m:=es.length+1 - i) (nr:=es.length+1);rfl;rfl;rfl;omega;rfl;exact hk;omega;omega;omega;omega;omega;rfl;rfl;omega;rfl|apply ii (es:=es.take i) (es':= [v]) (i:=i) (i':=0) (cnt:=1) (er:=es.take i++ [v]);rfl;rfl;rfl;rfl;rfl;exact a2;exact T;decide;omega;rfl;(show min _ _=_;omega);decide;omega;omega;omega;omega;exact JX hi;rfl)|(refine DR.is ?_;first|apply bg;rfl;apply cx;rfl;rfl;omega;omega;rfl;rfl;rfl|apply jx (es:=es.take i++ [v]) (es':=es) (i:=i+1) (i':=i) (cnt:=es.length - i) (er:=es.take i++v::es.drop i);rfl;rfl;rfl;rfl;rfl;exact a6;exact hk;decide;omega;omega;(show min _ _=_;omega);omega;omega;omega;omega;omega;exact JW hi;rfl)|refine am ?_|refine al ?_ ?_|fail)
     all_goals(apply cu 6 1002 (k:=3) (n:=es.length+1);rfl;rfl;rfl;exact a0;exact a1;omega;omega)
     all_goals refine cT 1000 rfl (Go.Abs.row_ne (.inl ad)) ?_
     all_goals refine cT 1001 rfl (Go.Abs.row_ne (.inl (aD T dD sP))) ?_
     all_goals(apply L.ends;rfl;rfl;exact fR;exact Wk.mk' kK .nil B3 .nil)
def AX(v:List IV)(hv:v.length=3):
 CallA prog 140 [.emp,aI 0,.iv (.sl [v])] [] [] [] (.iv (.sl [v])):=by
 have T: ∀e∈ [v],e.length=3:=by simpa using hv
 refine iA func140 ntmps140 (fun w0 E0=> ?_);(repeat' first|intro hb hp|apply xf;rfl;rfl;rfl;exact T;exact cN _ _;exact(by simp[maxLen]);exact sP;rfl|(refine LW.is ?_;first|apply ag;rfl;apply jR;rfl;rfl;exact bV;decide;decide;rfl)|refine am ?_|refine al ?_ ?_|fail)
 all_goals refine aU ?_
 all_goals rfl
end Go.Proofs.Y
namespace Go.Proofs.Y
open Go.Abs
def tQ(ty:Int)(v:A3):Prop:=(v.k=0\/v.k=ty)/\(ty≠3->au v=true)
def gz(ty:Int):tQ ty af:=⟨.inl U,fun _=>by decide⟩
def jU(n:Int):tQ 3 (dW n):=by
 unfold dW;split
 · exact⟨.inr U,fun h=>absurd U h⟩
 · exact gz 3
def JH(op:Int)(a b:A3):tQ 1 (tw op a b):=by
 unfold tw;simp only;generalize (if op=4 then a.n - b.n else a.n+b.n)=n;cases h:au ⟨1,n,[]⟩ with
 |true=>rw[if_pos U];exact⟨.inr U,fun _=>h⟩
 |false=>rw[if_neg dD];exact gz 1
def JG{op:Int}(a b:A3):(op=3\/op=4->tQ 1 (pT op a b))/\(op≠3->op≠4->tQ 3 (pT op a b)):=by
 unfold pT;constructor
 · intro h;rw[if_neg C,if_neg C];split
   · exact gz 1
   · rw[if_neg C,if_neg C];split
     · exact gz 1
     · exact JH op a b
 · intro h3 h4;split
   · exact jU _
   · split
     · exact jU _
     · split
       · exact gz 3
       · split
         · exact jU _
         · split
           · exact jU _
           · rw[if_pos (.inr ⟨h3,h4⟩)];exact gz 3
def HH{op:Int}: ∀vs:List A3,(op=3\/op=4->tQ 1 (mx op vs))/\(op≠3->op≠4->tQ 3 (mx op vs))
 | [] =>⟨fun _=>gz 1,fun _ _=>gz 3⟩
 | [a] =>⟨fun h=>by rw[mx,if_neg C,if_neg C];exact gz 1,fun _ _=>by
     rw[mx];split
     · exact jU _
     · split
       · exact jU _
       · exact gz 3⟩
 | [a,b] =>JG a b
 |a::b::c::t=>⟨fun _=>gz 1,fun _ _=>gz 3⟩
def KL(ts:List A4)(row:List A3):Prop:= ∀(s name:Str) (p k:Int),eF ts s name=(p,k,0)->0<=p/\ ∃v,row[p.toNat]?=some v/\tQ k v
def FQ{ts:List A4}{row:List A3}(hr:KL ts row){e b:Ex}{ty:Int}(hg:e.op=1->au e.v=true)(h:an ts e=(b,ty,0)):tQ ty (aC row b):=by
 obtain⟨op,v,s,name,n,l⟩:=e;rw[iJ] at h;generalize eG (l.map fun x=>(an ts x).2.2)=f at*
 generalize (l.map fun x=>(an ts x).1)=es at*
 generalize (l.map fun x=>(an ts x).2.1)=ar at*
 unfold bQ at h;by_cases hf:f=0
 case neg=>rw[if_pos hf] at h;simp only[Prod.mk.injEq] at h;exact absurd h.2.2 hf
 rw[if_neg (by simp[hf])] at h;by_cases h1:op=1
 · rw[if_pos h1] at h;simp only[Prod.mk.injEq] at h;obtain⟨rfl,rfl,_⟩:=h;subst h1;rw[eP];exact⟨.inr U,fun _=>hg U⟩
 rw[if_neg h1] at h;by_cases h2:op=2
 · rw[if_pos h2] at h;simp only[Prod.mk.injEq] at h;obtain⟨rfl,h3,h4⟩:=h;subst h2;obtain⟨p0,w,hw,hk⟩:=hr s name (eF ts s name).1 ty (by rw[<-h3,<-h4]);rw[eP,oC,uH,if_pos p0,hw];exact hk
 rw[if_neg h2] at h;have ad: ∀n,aC row (.mk op v s name n es)=mx op (es.map (aC row)):=fun n=>by rw[eP,jO _ _ _ _ h1 h2]
 have hr:=HH (op:=op) (es.map (aC row));have hb: ∀{x:BR},x=wC->x=(b,ty,0)->False:=fun h1 h2=>by rw[h1] at h2;simp[wC] at h2
 by_cases T:op=3\/op=4
 · rw[if_pos T] at h;split at h
   · simp only[Prod.mk.injEq] at h;obtain⟨rfl,rfl,_⟩:=h;rw[ad];exact hr.1 T
   · exact(hb U h).elim
 rw[if_neg T] at h;have h3:op≠3:=fun e=>T (.inl e)
 have h4:op≠4:=fun e=>T (.inr e)
 split at h
 · split at h
   · simp only[Prod.mk.injEq] at h;obtain⟨rfl,rfl,_⟩:=h;rw[ad];exact hr.2 h3 h4
   · exact(hb U h).elim
 · split at h
   · split at h
     · simp only[Prod.mk.injEq] at h;obtain⟨rfl,rfl,_⟩:=h;rw[ad];exact hr.2 h3 h4
     · exact(hb U h).elim
   · split at h
     · simp only[Prod.mk.injEq] at h;obtain⟨rfl,rfl,_⟩:=h;rw[ad];exact hr.2 h3 h4
     · exact(hb U h).elim
def JI{ty:Int}{v:A3}(h:tQ 0 v):tQ ty v:=⟨.inl (h.1.elim id id),fun _=>h.2 dD⟩
def xy{ts:List A4}{row:List A3}(hr:KL ts row){e b:Ex}{k:Int}(hg:e.op=1->au e.v=true)(h:dw ts e k=(b,0)):tQ k (aC row b):=by
 unfold dw at h;obtain⟨⟨b',ty,f⟩,hb⟩: ∃r,an ts e=r:=⟨_,rfl⟩
 rw[hb] at h;dsimp only at h;by_cases T:f=0
 case neg=>rw[if_pos T] at h;simp only[Prod.mk.injEq] at h;exact absurd h.2 T
 subst T;rw[if_neg sP] at h;by_cases hc:((ty !=k) && (ty !=0))=true
 · rw[if_pos hc] at h;simp at h
 rw[if_neg hc] at h;simp only[Prod.mk.injEq] at h;obtain⟨rfl,_⟩:=h;have:=FQ hr hg hb;by_cases hk:ty=k
 · rw[<-hk];exact this
 · have h0:ty=0:=by
    simp only[aE,bne_iff_ne,not_and,Decidable.not_not] at hc;exact hc hk
   subst h0;exact JI this
def ow{row:List A3}: ∀{cs:List B8} {i:Nat},oz row i cs=true-> ∀(j:Nat) (c:B8),cs[j]?=some c->De c (row.getD (i+j) af)=true
 | [],i,h,j,c,hc=>by simp at hc
 |c0::cs,i,h,j,c,hc=>by
  rw[oz,List.zipIdx_cons,List.all_cons,aE] at h;cases j with
  |zero=>simp at hc;subst hc;exact h.1
  |succ j=>
   have:=ow (row:=row) (cs:=cs) (i:=i+1) h.2 j c (by simpa using hc);rw[show i+(j+1)=i+1+j by omega];exact this
def EE{c:B8}{v:A3}(h:De c v=true):tQ c.t v:=by
 unfold De at h;simp only[Bool.not_eq_true',Bool.or_eq_false_iff,Bool.not_eq_false',Bool.and_eq_false_iff,bne_eq_false_iff_eq] at h;refine⟨?_,fun _=>h.1⟩;rcases h.2 with h|h
 · exact .inr h
 · exact .inl h.2
def Id{t:A4}{s name:Str}{p k:Int}(h:eF [t] s name=(p,k,0)):p=aV t name/\0<=aV t name/\k=eQ t (aV t name):=by
 unfold eF at h;simp only[iE] at h;by_cases T:Fz s name t=true
 · rw[if_pos T,if_neg dD] at h;have h0:0<=aV t name:=by unfold Fz at T;simp only[aE,decide_eq_true_eq] at T;exact T.1
   rw[if_neg C] at h;simp only[Prod.mk.injEq] at h;exact⟨by omega,h0,h.2.1.symm⟩
 · rw[if_neg T] at h;simp at h
def II{t:A4}{name:Str}(h:0<=aV t name): ∃c,t.cols[(aV t name).toNat]?=some c/\c.n=name:=by
 obtain⟨x,T,hp,_⟩:=LG (p:=fun c:B8=>c.n==name) (l:=t.cols) (i:=(aV t name).toNat) (show aV t name=_ by omega);exact⟨x,T,by simpa using hp⟩
def Hj{t:A4}{row:List A3}(h:jK t row=true):KL [t] row:=by
 simp only[jK,aE,beq_iff_eq] at h;intro s name p k hf;obtain⟨rfl,h0,rfl⟩:=Id hf;refine⟨h0,?_⟩;obtain⟨c,hc,_⟩:=II h0;have hi:=(gS hc).1;have T:=ow h.2 _ _ hc;rw[Nat.zero_add] at T;refine⟨row.getD (aV t name).toNat af,cV af C,?_⟩;have:eQ t (aV t name)=c.t:=by rw[eQ,List.getD_eq_getElem?_getD,hc];rfl
 rw[this];exact EE T
def vu{d:Int}{e:Ex}(h:bX d e=true):e.op=1->au e.v=true:=by
 obtain⟨op,v,s,name,n,l⟩:=e;intro h1;have h1:op=1:=h1;subst h1;rw[gD] at h;cases hl:lookM tv 1 with
 |none=>rw[hl] at h;simp at h
 |some k=>
  rw[hl] at h;simp only[aE,Bool.not_eq_true'] at h;have:=h.2.1;show au v=true;cases T:au v with
  |true=>rfl
  |false=>simp[gl,T] at this
structure I5 (c:B0) (s:A9) (b:A9):Prop where
 tab:(ab c s.table).2=true
 sets: ∀x∈b.sets,0<=aV (ab c s.table).1 x.co/\ ∃y∈s.sets,dw [(ab c s.table).1] y.e (eQ (ab c s.table).1 (aV (ab c s.table).1 x.co))=(x.e,0)
 wh:dN [(ab c s.table).1] s.wh=(b.wh,0)
 good:dI c=true
 form: ∀e∈dq s,bX 1 e=true
 len:b.sets.length=s.sets.length
def se{c:B0}{s:A9}(h:gh c s=true):dI c=true/\ ∀e∈dq s,bX 1 e=true:=by
 simp only[gh,Bool.not_eq_true',Bool.or_eq_false_iff,Bool.not_eq_false'] at h;refine⟨h.1.1.1,fun e he=> ?_⟩;have:=List.any_eq_false.1 h.2 e he;simpa using this
def mS{l:List Int}(h:eG l=0): ∀x∈l,x=0:=by
 intro x hx;unfold eG at h;cases T:l.find? (fun f=>f !=0) with
 |none=>have:=List.find?_eq_none.1 T x hx;simpa using this
 |some y=>
  rw[T] at h;have:=List.find?_some T;simp at h this;omega
def Cn{c:B0}{s b:A9}(hk:s.kind=4\/s.kind=5\/s.kind=6)(h:aJ c s=(b,0)):I5 c s b:=by
 unfold aJ at h;cases hf:gh c s with
 |false=>rw[hf,if_pos U] at h;simp at h
 |true=>
 rw[hf,if_neg dD] at h;obtain⟨hg,a0⟩:=se hf;by_cases T:(eL c s).2=0
 case neg=>rw[if_pos T] at h;simp only[Prod.mk.injEq] at h;exact absurd h.2 T
 rw[if_neg (by simp[T])] at h;simp only[Prod.mk.injEq] at h;obtain⟨h,_⟩:=h;have ad:eL c s=if(ab c s.table).2 then eN s (ab c s.table).1 else(s,3):=by
  rw[eL,if_neg C,if_neg C,if_neg C,if_neg C]
 rw[ad] at h T;cases ht:(ab c s.table).2 with
 |false=>rw[ht,if_neg dD] at T;simp at T
 |true=>
 rw[ht,if_pos U] at h T;unfold eN at h T;by_cases he:rowsE s (ab c s.table).1=0
 case neg=>rw[if_pos he] at T;exact absurd T he
 rw[if_neg (by simp[he])] at h T;by_cases hs:setsE s (ab c s.table).1=0
 case neg=>rw[if_pos hs] at T;exact absurd T hs
 rw[if_neg (by simp[hs])] at h T;dsimp only at h T;refine⟨ht,fun x hx=> ?_,by rw[<-h];exact Prod.ext U T,hg,a0,by rw[<-h];simp⟩;rw[<-h] at hx;obtain⟨p,ar,rfl⟩:=mM hx;have h0:=mS hs _ (List.mem_map_of_mem (f:=fun p=>(lm (ab c s.table).1 s.sets p).2) ar);have hy:p.1∈s.sets:=by
  obtain⟨q,i⟩:=p;exact gE (List.mem_zipIdx_iff_getElem?.1 ar)
 unfold lm at h0|-;by_cases hc:aV (ab c s.table).1 p.1.co<0
 · rw[if_pos hc] at h0;simp at h0
 rw[if_neg hc] at h0|-;split at h0
 · simp at h0
 rename_i aR;rw[if_neg aR];exact⟨Int.not_lt.1 hc,p.1,hy,Prod.ext U h0⟩
def zip_all{α:Type}{p:α×Nat->Bool}{l:List α}:l.zipIdx.all p=true↔ ∀i x,l[i]?=some x->p (x,i)=true:=by
 rw[List.all_eq_true];constructor
 · intro h i x T;exact h (x,i) (gE (nL T))
 · rintro h ⟨x,i⟩ hm;exact h i x (List.mem_zipIdx_iff_getElem?.1 hm)
def pg{α:Type}(f:α->Str)(d:α)(l:List α):(∀i x,l[i]?=some x->0<i->f (l.getD (i - 1) d)<f x)↔(l.map f).Pairwise (· < ·):=by
 constructor
 · intro h;have key: ∀j,j<l.length-> ∀i,i<j->f (l.getD i d)<f (l.getD j d):=by
    intro j;induction j with
    |zero=>intro _ i hi;omega
    |succ j ih=>
     intro T i hi;have h1:=h (j+1) (l.getD (j+1) d) (cV d T) C;rw[Nat.add_sub_cancel] at h1;rcases Nat.lt_or_eq_of_le (Nat.lt_succ_iff.1 hi) with h2|rfl
     · exact dn (ih C i h2) h1
     · exact h1
   rw[List.pairwise_iff_getElem];intro i j hi T ad;rw[lM] at hi T;have:=key j T i ad;simpa[List.getD_eq_getElem?_getD,hi,T] using this
 · intro h i x hx hi;obtain⟨ar,rfl⟩:=gS hx;have h1:i - 1<l.length:=C;have:=List.pairwise_iff_getElem.1 h (i - 1) i (by simpa using h1) (by simpa using ar) C;simpa[List.getD_eq_getElem?_getD,h1] using this
def EX(c:B0)(i:Nat)(t:A4):qw c i t=true↔cv t=true/\(0<i->(c.ts.getD (i - 1) ⟨[],[]⟩).n<t.n):=by
 unfold qw;rw[iy];rcases Nat.eq_zero_or_pos i with rfl|hi
 · cases cv t<;>simp
 · have:(0:Int)<(i:Int):=C;cases cv t<;>simp[hi,this]
def Fy(c:B0)(i:Nat)(x:A7):sU c i x=true↔(bF x.n=true/\(ab c x.tb).2=true/\0<=aV (ab c x.tb).1 x.co)/\(0<i->(c.is.getD (i - 1) ⟨[],[],[]⟩).n<x.n):=by
 unfold sU;rw[iy];rcases Nat.eq_zero_or_pos i with rfl|hi
 · cases bF x.n<;>cases(ab c x.tb).2<;>simp
 · have:(0:Int)<(i:Int):=C;cases bF x.n<;>cases(ab c x.tb).2<;>simp[hi,this]
structure C5 (c:B0):Prop where
 tabs: ∀t∈c.ts,cv t=true
 tn:(c.ts.map A4.n).Pairwise (· < ·)
 idx: ∀x∈c.is,bF x.n=true/\(ab c x.tb).2=true/\0<=aV (ab c x.tb).1 x.co
 xn:(c.is.map A7.n).Pairwise (· < ·)
 tl:c.ts.length<=3
 il:c.is.length<=4
def sa(c:B0):dI c=true↔C5 c:=by
 unfold dI yB zd;simp only[aE,zip_all,EX,Fy,decide_eq_true_eq];constructor
 · rintro ⟨h1,h2,h3,h4⟩;refine⟨fun t ht=> ?_,(pg A4.n ⟨[],[]⟩ c.ts).1 (fun i x T=>(h1 i x T).2),fun x T=> ?_,(pg A7.n ⟨[],[],[]⟩ c.is).1 (fun i x T=>(h2 i x T).2),by omega,by omega⟩
   · obtain⟨i,hi⟩:=List.getElem?_of_mem ht;exact(h1 i t hi).1
   · obtain⟨i,hi⟩:=List.getElem?_of_mem T;exact(h2 i x hi).1
 · intro h;exact⟨fun i x T=>⟨h.tabs x (gE T),(pg A4.n ⟨[],[]⟩ c.ts).2 h.tn i x T⟩,fun i x T=>⟨h.idx x (gE T),(pg A7.n ⟨[],[],[]⟩ c.is).2 h.xn i x T⟩,by have:=h.tl;omega,by have:=h.il;omega⟩
def bU{c:B0}{n:Str}(h:(ab c n).2=true):(ab c n).1∈c.ts/\(ab c n).1.n=n:=by
 unfold ab at h|-;cases T:c.ts.find? (fun t=>t.n==n) with
 |none=>rw[T] at h;cases h
 |some t=>exact⟨List.mem_of_find?_eq_some T,by have:=List.find?_some T;simpa using this⟩
def findT_none{c:B0}{n:Str}:(ab c n).2=false↔ ∀t∈c.ts,t.n≠n:=by
 unfold ab;cases T:c.ts.find? (fun t=>t.n==n) with
 |none=>simp only[true_iff];intro t ht;have:=List.find?_eq_none.1 T t ht;simpa using this
 |some t=>simp only[Bool.true_eq_false,false_iff];intro h;exact h t (List.mem_of_find?_eq_some T) (by have:=List.find?_some T;simpa using this)
def findT_some{c:B0}{n:Str}:(ab c n).2=true↔ ∃t∈c.ts,t.n=n:=by
 constructor
 · intro h;exact⟨_,(bU h).1,(bU h).2⟩
 · rintro ⟨t,ht,rfl⟩;rw[<-Bool.not_eq_false];intro h;exact findT_none.1 h t ht U
def pm{α:Type}{f:α->Str}: ∀{l:List α},(l.map f).Pairwise (· < ·)-> ∀a∈l,∀b∈l,f a=f b->a=b
 | [],_,a,ha,_,_,_=>by cases ha
 |x::l,h,a,ha,b,T,e=>by
  rw[List.map_cons,List.pairwise_cons] at h;rcases List.mem_cons.1 ha with h1|h1<;>rcases List.mem_cons.1 T with h2|h2
  · rw[h1,h2]
  · have:=h.1 (f b) (List.mem_map_of_mem h2);rw[<-e,h1] at this;exact absurd this (List.lt_irrefl _)
  · have:=h.1 (f a) (List.mem_map_of_mem h1);rw[e,h2] at this;exact absurd this (List.lt_irrefl _)
  · exact pm h.2 a h1 b h2 e
def Ij{c:B0}(hn:(c.ts.map A4.n).Pairwise (· < ·)){t:A4}(ht:t∈c.ts):ab c t.n=(t,true):=by
 have h:(ab c t.n).2=true:=findT_some.2 ⟨t,ht,rfl⟩;obtain⟨h1,h2⟩:=bU h;exact Prod.ext (pm hn _ h1 _ ht h2) h
def tri{x y:Str}(h: ¬x<y)(T:x≠y):y<x:=by
 cases h1:Op.bytesLess y x with
 |true=>rw[iy] at h1;exact of_decide_eq_true h1
 |false=>exact absurd (ve (by rw[iy];exact decide_eq_false h) h1) T
def xJ{ks:List Str}{k:Str}(h:ks.Pairwise (· < ·))(hk:k∉ks):(ks.take (aX ks k)++k::ks.drop (aX ks k)).Pairwise (· < ·):=by
 have hf:=nv k h;have ha: ∀a∈ks.take (aX ks k),a<k:=by
  intro a ha;obtain⟨i,hi⟩:=List.getElem?_of_mem ha;rw[List.getElem?_take] at hi;split at hi
  · rename_i T;have:=uM hi T;simpa using this
  · cases hi
 have hb: ∀b∈ks.drop (aX ks k),k<b:=by
  intro b hb;obtain⟨i,hi⟩:=List.getElem?_of_mem hb;rw[List.getElem?_drop] at hi;refine tri (fun T=> ?_) (fun e=>hk (e▸mD hb));have:=hf.le hi (by simpa using T);unfold aX at this;omega
 refine List.pairwise_append.2 ⟨h.sublist (List.take_sublist _ _),List.pairwise_cons.2 ⟨hb,h.sublist (List.drop_sublist _ _)⟩,fun a h1 b h2=> ?_⟩;rcases List.mem_cons.1 h2 with rfl|h2
 · exact ha a h1
 · exact dn (ha a h1) (hb b h2)
def ins_mem{α:Type}{l:List α}{k:Nat}{x y:α}:y∈l.take k++x::l.drop k↔y=x\/y∈l:=by
 have:y∈l↔y∈l.take k\/y∈l.drop k:=by rw[<-List.mem_append,List.take_append_drop]
 rw[this];simp only[List.mem_append,List.mem_cons];constructor
 · rintro (h|h|h)
   · exact .inr (.inl h)
   · exact .inl h
   · exact .inr (.inr h)
 · rintro (h|h|h)
   · exact .inr (.inl h)
   · exact .inl h
   · exact .inr (.inr h)
def bD(c:B0)(s:A9):B0:=
 if s.kind=1 then⟨c.ts.take (aX (c.ts.map A4.n) s.name)++⟨s.name,s.cols⟩::c.ts.drop (aX (c.ts.map A4.n) s.name),c.is⟩
 else if s.kind=2 then⟨c.ts,c.is.take (aX (c.is.map A7.n) s.name)++⟨s.name,s.table,s.col⟩::c.is.drop (aX (c.is.map A7.n) s.name)⟩
 else if s.kind=3 then⟨c.ts.filter (fun x=> !(x.n==s.name)),c.is.filter (fun x=> !(x.tb==s.name))⟩
 else c
def xL{c d:B0}(hc:(c.ts.map A4.n).Pairwise (· < ·))(T:(d.ts.map A4.n).Pairwise (· < ·)){x:A7}(h:bF x.n=true/\(ab c x.tb).2=true/\0<=aV (ab c x.tb).1 x.co)(hm:(ab c x.tb).1∈d.ts):
 bF x.n=true/\(ab d x.tb).2=true/\0<=aV (ab d x.tb).1 x.co:=by
 obtain⟨h1,h2,h3⟩:=h;have e:=Ij T hm;rw[(bU h2).2] at e;rw[e];exact⟨h1,rfl,h3⟩
def yp{c:B0}{s:A9}(h:C5 c)(hk:s.kind=1)(hg:cv ⟨s.name,s.cols⟩=true)(hn:(ab c s.name).2=false)(hl:c.ts.length<3):C5 (bD c s)/\(ab (bD c s) s.name).2=true:=by
 have e:bD c s=⟨c.ts.take (aX (c.ts.map A4.n) s.name)++⟨s.name,s.cols⟩::c.ts.drop (aX (c.ts.map A4.n) s.name),c.is⟩:=by simp[bD,hk]
 rw[e];have hr:((c.ts.take (aX (c.ts.map A4.n) s.name)++⟨s.name,s.cols⟩::c.ts.drop (aX (c.ts.map A4.n) s.name):List A4).map A4.n).Pairwise (· < ·):=by
  rw[pA,List.map_cons,List.map_take,List.map_drop];exact xJ h.tn (fun hm=>by obtain⟨t,ht,he⟩:=mM hm;exact findT_none.1 hn t ht he)
 refine⟨⟨fun t ht=> ?_,hr,fun x T=>xL h.tn hr (h.idx x T) ?_,h.xn,?_,h.il⟩,findT_some.2 ⟨⟨s.name,s.cols⟩,ins_mem.2 (.inl U),rfl⟩⟩
 · rcases ins_mem.1 ht with rfl|ht
   · exact hg
   · exact h.tabs t ht
 · exact ins_mem.2 (.inr (bU (h.idx x T).2.1).1)
 · simp only[gV,lT,lC,lD];omega
def Ch{c:B0}{s:A9}(h:C5 c)(hk:s.kind=2)(hg:bF s.name=true)(ht:(ab c s.table).2=true)(T:0<=aV (ab c s.table).1 s.col)(hn: ∀x∈c.is,x.n≠s.name)(hl:c.is.length<4):C5 (bD c s):=by
 have e:bD c s=⟨c.ts,c.is.take (aX (c.is.map A7.n) s.name)++⟨s.name,s.table,s.col⟩::c.is.drop (aX (c.is.map A7.n) s.name)⟩:=by simp[bD,hk]
 rw[e];refine⟨h.tabs,h.tn,fun x hx=> ?_,?_,h.tl,?_⟩
 · rcases ins_mem.1 hx with rfl|hx
   · exact⟨hg,ht,T⟩
   · exact h.idx x hx
 · rw[pA,List.map_cons,List.map_take,List.map_drop];exact xJ h.xn (fun hm=>by obtain⟨t,ht,he⟩:=mM hm;exact hn t ht he)
 · simp only[gV,lT,lC,lD];omega
def Ci{c:B0}{s:A9}(h:C5 c)(hk:s.kind=3):C5 (bD c s)/\(ab (bD c s) s.name).2=false:=by
 have e:bD c s=⟨c.ts.filter (fun x=> !(x.n==s.name)),c.is.filter (fun x=> !(x.tb==s.name))⟩:=by simp[bD,hk]
 rw[e];have hr:((c.ts.filter (fun x=> !(x.n==s.name))).map A4.n).Pairwise (· < ·):=h.tn.sublist (List.Sublist.map _ (List.filter_sublist));refine⟨⟨fun t ht=>h.tabs t (List.mem_filter.1 ht).1,hr,fun x hx=> ?_,h.xn.sublist (List.Sublist.map _ (List.filter_sublist)),Nat.le_trans (List.length_filter_le _ _) h.tl,Nat.le_trans (List.length_filter_le _ _) h.il⟩,?_⟩
 · obtain⟨T,ad⟩:=List.mem_filter.1 hx;refine xL h.tn hr (h.idx x T) (List.mem_filter.2 ⟨(bU (h.idx x T).2.1).1,?_⟩);rw[(bU (h.idx x T).2.1).2];exact ad
 · refine findT_none.2 (fun t ht=> ?_);have:=(List.mem_filter.1 ht).2;simpa using this
def py{c:B0}{s b:A9}(h:aJ c s=(b,0)):gh c s=true/\eL c s=(b,0):=by
 unfold aJ at h;split at h
 · cases h
 · rename_i T;split at h
   · rename_i h1;exact absurd (Prod.mk.inj h).2 h1
   · rename_i h1;simp only[ne_eq,Decidable.not_not] at h1;exact⟨by simpa using T,by rw[<-h];exact Prod.ext U h1⟩
def sd{c:B0}{s:A9}(h:gh c s=true):1<=s.kind/\s.kind<=7:=by
 simp only[gh,Bool.not_eq_true',Bool.or_eq_false_iff,decide_eq_false_iff_not] at h;obtain⟨⟨⟨_,h1⟩,h2⟩,_⟩:=h;omega
def BK(c:B0)(s:A9):(iH c s).1.kind=s.kind/\(iH c s).1.name=s.name:=by
 unfold iH;refine⟨?_,?_⟩<;>dsimp only<;>repeat' split
 all_goals rfl
def BO(s:A9)(t:A4):(eN s t).1.kind=s.kind/\(eN s t).1.name=s.name:=by
 unfold eN;repeat' split
 all_goals exact⟨rfl,rfl⟩
def eD{c:B0}{s b:A9}(h:eL c s=(b,0)):b.kind=s.kind/\b.name=s.name:=by
 have e:b=(eL c s).1:=by rw[h]
 rw[e];unfold eL;split
 · exact⟨rfl,rfl⟩
 split
 · exact⟨rfl,rfl⟩
 split
 · exact⟨rfl,rfl⟩
 split
 · exact BK c s
 split
 · exact BO s _
 · exact⟨rfl,rfl⟩
structure H2 (c:B0) (s b:A9):Prop where
 good:C5 (bD c b)
 crt:s.kind=1->(ab (bD c b) s.name).2=true
 drp:s.kind=3->(ab (bD c b) s.name).2=false
 len:s.kind<=3-> ¬(c.ts.length=(bD c b).ts.length/\c.is.length=(bD c b).is.length)
 tne:b.kind=2\/b.kind=3->c.ts≠ []
 base:C5 c
def qt{c:B0}{s b:A9}(h:aJ c s=(b,0)):H2 c s b:=by
 obtain⟨hf,T⟩:=py h;have hg:=(sa c).1 (se hf).1;obtain⟨ar,aR⟩:=sd hf;obtain⟨ad,a0⟩:=eD T;by_cases h1:s.kind=1
 · have he:px c s=0/\b=s:=by
    unfold eL at T;rw[if_pos h1] at T;exact⟨(Prod.mk.inj T).2,(Prod.mk.inj T).1.symm⟩
   obtain⟨he,rfl⟩:=he;unfold px at he;split at he
   · cases he
   · rename_i a1;split at he
     · cases he
     · rename_i a2;split at he
       · cases he
       · rename_i a3;obtain⟨w1,w2⟩:=yp hg h1 (by simpa using a1) (by simpa using a2) C;refine⟨w1,fun _=>w2,fun h3=>by omega,fun _ hl=> ?_,fun hh=>by omega,hg⟩;have:=hl.1;simp only[bD,h1,if_pos,gV,lT,lC,lD] at this;omega
 by_cases h2:s.kind=2
 · have he:va c s=0/\b=s:=by
    unfold eL at T;rw[if_neg h1,if_pos h2] at T;exact⟨(Prod.mk.inj T).2,(Prod.mk.inj T).1.symm⟩
   obtain⟨he,rfl⟩:=he;unfold va at he;split at he
   · cases he
   · rename_i a1;split at he
     · cases he
     · rename_i a2;split at he
       · cases he
       · rename_i a3;split at he
         · cases he
         · rename_i a4;simp only[not_or,Bool.not_eq_false,Int.not_lt] at a2;have w:=Ch hg h2 (by simpa using a1) a2.1 a2.2 (fun x hx e=>a3 (List.any_eq_true.2 ⟨x,hx,by simpa using e⟩)) C;refine⟨w,fun h=>by omega,fun h=>by omega,fun _ hl=> ?_,fun _ e=> ?_,hg⟩
           · have:=hl.2;simp only[bD,h1,h2,if_pos,if_neg,gV,lT,lC,lD] at this;simp at this;omega
           · have:=(bU a2.1).1;rw[e] at this;cases this
 by_cases h3:s.kind=3
 · have he:(ab c s.name).2=true/\b=s:=by
    unfold eL at T;rw[if_neg h1,if_neg h2,if_pos h3] at T;refine⟨?_,(Prod.mk.inj T).1.symm⟩;have:=(Prod.mk.inj T).2;split at this
    · assumption
    · cases this
   obtain⟨he,rfl⟩:=he;obtain⟨w1,w2⟩:=Ci hg h3;refine⟨w1,fun h=>by omega,fun _=>w2,fun _ hl=> ?_,fun _ e=> ?_,hg⟩
   · have:=hl.1;have e:(bD c b).ts=c.ts.filter (fun x=> !(x.n==b.name)):=by simp[bD,h3]
     rw[e] at this;have h4:=List.length_filter_eq_length_iff.1 this.symm;have:=h4 _ (bU he).1;rw[(bU he).2] at this;simp at this
   · have:=(bU he).1;rw[e] at this;cases this
 · have e:bD c b=c:=by simp only[bD,ad,h1,h2,h3,if_false]
   exact⟨by rw[e];exact hg,fun h=>absurd h h1,fun h=>absurd h h3,fun h=>by omega,fun hh=>by omega,hg⟩
end Go.Proofs.Y
namespace Go.Abs
section
variable {P:Program}{c:C7}{st:St}{ops:Array Oper}{Q:Exit->Act->World->Prop}{rest:List Oper}{o:Oper}
def L.callXG{gs:aw}{f:FuncId}{args:Array Operand}{aR:Array TypeId}{avs:List AV}{bxi:List (Nat×A5)}{ad:AV}{d:Nat}(hg:o.guard=none)(hd:o.dst=some d)(a0:Nat.ble (d+1) c.nt=true)(hG:Glob gs c.E0 c.w0)
 (ho:o.op= .call {callee:= .value (.func f),args:=args,argTypes:=aR}) (a1:dP P f=true) (hc:CallG gs P f avs bxi bxi [] ad) (ha:Subs (args.toList.map st.ev) avs)
 (a2:E3 st.bx bxi) (T:bxi.all (fun p=> !p.2.cs.isEmpty && AV.mentsIn (keys bxi) p.2.cs)=true) (a3:AV.mentIn (keys bxi) ad=true)
 (h:L c ⟨(d,ad)::st.fr,bxi++st.bx,st.tk⟩ (wpList P ops Q rest)):L c st (wpList P ops Q (o::rest)):=
 mY [] hg hd a0 hG (fun E a w hi=>by
  refine⟨args.toList.map a.eval,?_,(hi.evs args).sub ha⟩;have ar:(args.toList.map a.eval).toArray=args.map a.eval:=by apply Array.ext';simp
  rw[ar];simp[execOp,ho,resolve,Act.eval,Deferred.ofValue,invoke,eJ a1]) hc a2 U (by
   simp only[dV,aE,List.all_eq_true] at T|-;exact⟨fun p hp=>(T p hp).1,fun id a4=>by simpa using a4⟩) U (by
   simp only[aE,List.all_eq_true] at T|-;exact fun p hp=>(T p hp).2) a3 h
def nd{fr:List (Nat×AV)}{bx:List (Nat×A5)}{tk:List (Nat×C9)}{d:Nat}{ty:TypeId}{pos:String}{ad:Array Edge}{gs:aw}{f:FuncId}{args:Array Operand}{ar:Array TypeId}{avs:List AV}{bxi:List (Nat×A5)}{T:AV}(aR:Nat.ble (d+1) c.nt=true)(hG:Glob gs c.E0 c.w0)[a0:A0 P f]
 (hc:CallG gs P f avs bxi bxi [] T) (ha:AV.pub.pubs (args.toList.map (St.ev ⟨fr,bx,tk⟩))=avs) (a1:E3 bx bxi) (a2:bxi.all (fun p=> !p.2.cs.isEmpty && AV.mentsIn (keys bxi) p.2.cs)=true) (a3:AV.mentIn (keys bxi) T=true)
 (h:LW P c ⟨(d,T)::fr,bxi++bx,tk⟩ ops Q rest):
 LW P c ⟨fr,bx,tk⟩ ops Q (⟨some d,.call {callee:= .value (.func f),args:=args,argTypes:=ar},ty,pos,ad,none⟩::rest):=
 .mk (L.callXG (st:=⟨fr,bx,tk⟩) U U aR hG U a0.h hc (.of_pub ha) a1 a2 a3 (LW.out h))
end
end Go.Abs
namespace Go.Proofs.Y
open Go.Abs Go.Proofs.Tryz
attribute [local irreducible] L Code.wp bodyPost Exit.then Exit.inBlock
def mj(s:A9)(a:Str)(x:IV):CallA prog 142 [.agg [.iv (S a),.iv x],.ptr 1000 0] [(1000,⟨80,.l (s.cs.map .iv)⟩)] [(1000,⟨80,.l (s.cs.map .iv)⟩)] [] (aB (a==s.name)):=by
 refine iA func142 ntmps142 (fun w0 E0=> ?_);refine wz ?_;all_goals exact L.ends U U fR (Wk.mk' ax .nil B1 .nil)
def ro(s:A9)(a b:Str)(x:IV):CallA prog 144 [.agg [.iv (S a),.iv (S b),.iv x],.ptr 1000 0] [(1000,⟨80,.l (s.cs.map .iv)⟩)] [(1000,⟨80,.l (s.cs.map .iv)⟩)] [] (aB (b==s.name)):=by
 refine iA func144 ntmps144 (fun w0 E0=> ?_);refine wz ?_;all_goals exact L.ends U U fR (Wk.mk' ax .nil B1 .nil)
def yZ{gs:aw}{f:FuncId}{b:A5}[A0 prog f](p:A4->Bool)(l:List A4)(a0:l≠ [])(hl:l.length<=140737488355328)(ad: [(1001,b)].all (fun p=> !p.2.cs.isEmpty && AV.mentsIn (keys [(1001,b)]) p.2.cs)=true)
 (hc: ∀y∈l,CallG gs prog f ([.agg (y.c.map .iv)] ++ [.ptr 1001 0]) [(1001,b)] [(1001,b)] [] (aB (p y))):
 CallG gs prog 183 [.bsh 1000 0 l.length 2,.fn f [.ptr 1001 0]] [(1000,⟨57,.r (l.map A4.c).flatten 0⟩),(1001,b)] [(1000,⟨57,.r (l.map A4.c).flatten 0⟩),(1001,b)] [] (aI (iB p l)):=by
 refine iG func183 ntmps183 (fun w0 E0 hG=> ?_);have hk: ∀e∈l.map A4.c,e.length=2:=by intro e he;obtain⟨t,_,rfl⟩:=mM he;rfl
 refine wz ?_;refine ae (ι:=Nat) (fun i=>⟨[(8,aI (i:Int)),(7,aI (l.length:Int)),(0,.bsh 1000 0 l.length 2),(1,.fn f [.ptr 1001 0])],[(1000,⟨57,.r (l.map A4.c).flatten 0⟩),(1001,b)],[]⟩) (fun i=>l.length - i) (fun i=> ∀y∈l.take i,p y=false) (i0:=0) ?_ sP ?_
 · exact Wk.mkX ax F4 (fun s v h=>h) .nil
 intro i hI K hK;cases hx:l[i]? with
 |none=>
  have ar:decide ((i:Int)<(l.length:Int))=false:=by have:=gO hx;exact decide_eq_false C
  rw[jE (fG hI hx)];refine wz ?_;apply L.ends;rfl;rfl;exact fR;exact Wk.mkX ax .nil (fun s v h=>h) .nil
 |some y=>
  have aR:=(gS hx).1;have ar:decide ((i:Int)<(l.length:Int))=true:=decide_eq_true C;have T:=hc y (gE hx);have g1:((i:Nat):Int)<(l.length:Int):=C;have g4:(0+((i:Nat):Int).toNat)*2=i*2:=by rw[iN,Nat.zero_add]
  have g5:((A5.mk 57 (.r (l.map A4.c).flatten 0)).cs.drop (i*2)).take 2=y.c.map .iv:=xh hk (by rw[gP,hx];rfl);cases hq:p y with
  |true=>
   rw[hq] at T;rw[gC hI hx hq];(repeat' first|intro hb hp|refine aZ (f:=f) (bxi:= [(1001,b)]) U hG U T U B1 ad U ?_|(refine LW.is ?_;first|refine ag U (ay U U C g1 g4) ?_|refine ag U (cO U U g5 U) ?_)|refine am ?_|refine al ?_ ?_|fail)
   apply L.ends;rfl;rfl;exact fR;exact Wk.mk' ax .nil B2 .nil
  |false=>
   rw[hq] at T;(repeat' first|intro hb hp|refine aZ (f:=f) (bxi:= [(1001,b)]) U hG U T U B1 ad U ?_|(refine LW.is ?_;first|refine ag U (ay U U C g1 g4) ?_|refine ag U (cO U U g5 U) ?_)|refine am ?_|refine al ?_ ?_|fail)
   refine hK _ (i+1) (gN hI hx hq) C ?_;exact Wk.mk' ax F4 B2 .nil
def yY{gs:aw}{f:FuncId}{b:A5}[A0 prog f](p:A7->Bool)(l:List A7)(a0:l≠ [])(hl:l.length<=140737488355328)(ad: [(1001,b)].all (fun p=> !p.2.cs.isEmpty && AV.mentsIn (keys [(1001,b)]) p.2.cs)=true)
 (hc: ∀y∈l,CallG gs prog f ([.agg (y.c.map .iv)] ++ [.ptr 1001 0]) [(1001,b)] [(1001,b)] [] (aB (p y))):
 CallG gs prog 111 [.bsh 1000 0 l.length 3,.fn f [.ptr 1001 0]] [(1000,⟨67,.r (l.map A7.c).flatten 0⟩),(1001,b)] [(1000,⟨67,.r (l.map A7.c).flatten 0⟩),(1001,b)] [] (aI (iB p l)):=by
 refine iG func111 ntmps111 (fun w0 E0 hG=> ?_);have hk: ∀e∈l.map A7.c,e.length=3:=by intro e he;obtain⟨t,_,rfl⟩:=mM he;rfl
 refine wz ?_;refine ae (ι:=Nat) (fun i=>⟨[(8,aI (i:Int)),(7,aI (l.length:Int)),(0,.bsh 1000 0 l.length 3),(1,.fn f [.ptr 1001 0])],[(1000,⟨67,.r (l.map A7.c).flatten 0⟩),(1001,b)],[]⟩) (fun i=>l.length - i) (fun i=> ∀y∈l.take i,p y=false) (i0:=0) ?_ sP ?_
 · exact Wk.mkX ax F4 (fun s v h=>h) .nil
 intro i hI K hK;cases hx:l[i]? with
 |none=>
  have ar:decide ((i:Int)<(l.length:Int))=false:=by have:=gO hx;exact decide_eq_false C
  rw[jE (fG hI hx)];refine wz ?_;apply L.ends;rfl;rfl;exact fR;exact Wk.mkX ax .nil (fun s v h=>h) .nil
 |some y=>
  have aR:=(gS hx).1;have ar:decide ((i:Int)<(l.length:Int))=true:=decide_eq_true C;have T:=hc y (gE hx);have g1:((i:Nat):Int)<(l.length:Int):=C;have g4:(0+((i:Nat):Int).toNat)*3=i*3:=by rw[iN,Nat.zero_add]
  have g5:((A5.mk 67 (.r (l.map A7.c).flatten 0)).cs.drop (i*3)).take 3=y.c.map .iv:=xh hk (by rw[gP,hx];rfl);cases hq:p y with
  |true=>
   rw[hq] at T;rw[gC hI hx hq];(repeat' first|intro hb hp|refine aZ (f:=f) (bxi:= [(1001,b)]) U hG U T U B1 ad U ?_|(refine LW.is ?_;first|refine ag U (ay U U C g1 g4) ?_|refine ag U (cO U U g5 U) ?_)|refine am ?_|refine al ?_ ?_|fail)
   apply L.ends;rfl;rfl;exact fR;exact Wk.mk' ax .nil B2 .nil
  |false=>
   rw[hq] at T;(repeat' first|intro hb hp|refine aZ (f:=f) (bxi:= [(1001,b)]) U hG U T U B1 ad U ?_|(refine LW.is ?_;first|refine ag U (ay U U C g1 g4) ?_|refine ag U (cO U U g5 U) ?_)|refine am ?_|refine al ?_ ?_|fail)
   refine hK _ (i+1) (gN hI hx hq) C ?_;exact Wk.mk' ax F4 B2 .nil
def yK{k i mm:Nat}{es:List (List IV)}{e:List IV}(hk: ∀e∈es,e.length=k)(h:es[i]?=some e){t:TypeId}:((A5.mk t (.r es.flatten mm)).cs.drop (i*k)).take k=e.map .iv:=by
 have h1:=(gS h).1;have T:=ao es hk;have he:e.length=k:=hk e (gE h);have h2:(i+1)*k<=es.length*k:=mR k h1;rw[Nat.add_mul,Nat.one_mul] at h2;rw[A5.cs_r,List.drop_append_of_le_length (by rw[lM];omega),tA (by rw[lD,lM];omega),<-List.map_drop,<-List.map_take,sg es i e hk h]
structure DI {α:Type} (p:α->Bool) (ts cur:List α) (i j:Nat):Prop where
 l:cur.length=ts.length
 a:cur.take i=(ts.take j).filter (fun x=> !p x)
 d:cur.drop j=ts.drop j
 lt:i<j
 le:j<=ts.length
def DI.at{α:Type}{p:α->Bool}{ts cur:List α}{i j:Nat}(h:DI p ts cur i j):cur[j]?=ts[j]?:=by
 have:=congrArg (fun l=>l[0]?) h.d;simpa using this
def DI.keep{α:Type}{p:α->Bool}{ts cur:List α}{i j:Nat}{x:α}(h:DI p ts cur i j)(T:ts[j]?=some x)(hp:p x=false):DI p ts (cur.set i x) (i+1) (j+1):=by
 have hj:=(gS T).1;have hl:=h.l;have ad:=h.lt;refine⟨by rw[List.length_set];exact hl,?_,?_,by omega,by omega⟩
 · rw[List.take_add_one (l:=ts),T,List.filter_append,<-h.a,List.take_add_one,List.take_set_of_le nR,List.getElem?_set_self C];simp[hp]
 · rw[List.drop_set_of_lt C,<-List.drop_drop,h.d,List.drop_drop]
def DI.drop{α:Type}{p:α->Bool}{ts cur:List α}{i j:Nat}{x:α}(h:DI p ts cur i j)(T:ts[j]?=some x)(hp:p x=true):DI p ts cur i (j+1):=by
 have hj:=(gS T).1;have ad:=h.lt;refine⟨h.l,?_,?_,by omega,by omega⟩
 · rw[List.take_add_one (l:=ts),T,List.filter_append,<-h.a];simp[hp]
 · rw[<-List.drop_drop,h.d,List.drop_drop]
def DI.first{α:Type}{p:α->Bool}{ts:List α}{i:Nat}{x:α}(h: ∀y∈ts.take i,p y=false)(T:ts[i]?=some x)(hp:p x=true):DI p ts ts i (i+1):=by
 have hj:=(gS T).1;refine⟨rfl,?_,rfl,by omega,by omega⟩;rw[List.take_add_one,T,List.filter_append,List.filter_eq_self.2 (fun y hy=>by rw[h y hy];rfl)];simp[hp]
def DI.full{α:Type}{p:α->Bool}{ts cur:List α}{i j:Nat}(h:DI p ts cur i j)(T:ts[j]?=none):cur.take i=ts.filter (fun x=> !p x)/\(ts.filter (fun x=> !p x)).length=i:=by
 have e:cur.take i=ts.filter (fun x=> !p x):=by rw[h.a,tL (gO T)]
 refine⟨e,?_⟩;rw[<-e,lT,h.l];have:=h.lt;have:=h.le;omega
def Iu{gs:aw}{f:FuncId}{s:A9}[A0 prog f](p:A4->Bool)(l:List A4)(a3:l≠ [])(hl:l.length<=140737488355328)(aR: [(1001,(A5.mk 80 (.l (s.cs.map .iv))))].all (fun p=> !p.2.cs.isEmpty && AV.mentsIn (keys [(1001,(A5.mk 80 (.l (s.cs.map .iv))))]) p.2.cs)=true)
 (a8:([(1000,⟨57,.r (l.map A4.c).flatten 0⟩),(1001,(A5.mk 80 (.l (s.cs.map .iv))))]:List (Nat×A5)).all (fun p=> !p.2.cs.isEmpty && AV.mentsIn (keys [(1000,⟨57,.r (l.map A4.c).flatten 0⟩),(1001,(A5.mk 80 (.l (s.cs.map .iv))))]) p.2.cs)=true)
 (hc: ∀y∈l,CallG gs prog f ([.agg [.iv (S y.n),.iv (.sl (y.cols.map B8.c))]] ++ [.ptr 1001 0]) [(1001,(A5.mk 80 (.l (s.cs.map .iv))))] [(1001,(A5.mk 80 (.l (s.cs.map .iv))))] [] (aB (p y))) (a9:l.filter (fun x=> !p x)≠ [])
 (i0:Nat) (x0:A4) (ar: ∀y∈l.take i0,p y=false) (a0:l[i0]?=some x0) (a4:p x0=true):
 CallG gs prog 141 [.bsh 1000 0 l.length 2,.fn f [.ptr 1001 0]] [(1000,⟨57,.r (l.map A4.c).flatten 0⟩),(1001,(A5.mk 80 (.l (s.cs.map .iv))))] [(1002,⟨57,.r ((l.filter (fun x=> !p x)).map A4.c).flatten 0⟩),(1000,⟨57,.l []⟩),(1001,(A5.mk 80 (.l (s.cs.map .iv))))] [] (.bsh 1002 0 (l.filter (fun x=> !p x)).length 2):=by
 refine iG func141 ntmps141 (fun w0 E0 hG=> ?_);have hk: ∀e∈l.map A4.c,e.length=2:=by intro e he;obtain⟨t,_,rfl⟩:=mM he;rfl
 have ba:(l.map A4.c).flatten.length=l.length*2:=by rw[ao _ hk,lM]
 have a5:(l.map A4.c).flatten≠ []:=aD hk dD (by simpa using a3);have kx:=yZ (gs:=gs) (f:=f) (b:=(A5.mk 80 (.l (s.cs.map .iv)))) p l a3 hl aR hc;rw[gC ar a0 a4] at kx;have b1:=(gS a0).1;have he:((i0:Int)== -1)=false:=beq_eq_false_iff_ne.2 C;(repeat' first|intro hb hp|refine nd (bxi:= [(1000,⟨57,.r (l.map A4.c).flatten 0⟩),(1001,(A5.mk 80 (.l (s.cs.map .iv))))]) U hG kx U B2 a8 U ?_|refine am ?_|refine al ?_ ?_|fail)
 refine L.openRow 0 U U (.inl a5) C (fun cap b2 b3=> ?_);obtain⟨mm,a6⟩: ∃mm,mm=cap*2 - (l.map A4.c).flatten.length:=⟨_,rfl⟩
 rw[<-a6];rw[ba] at a6;refine ae (ι:=List A4×Nat×Nat) (fun x=>⟨[(5,aI (x.2.1:Int)),(6,aI (x.2.2:Int)),(0,.bsl 1000 0 l.length cap),(1,.fn f [.ptr 1001 0])],[(1000,⟨57,.r (x.1.map A4.c).flatten mm⟩),(1001,(A5.mk 80 (.l (s.cs.map .iv))))],[]⟩) (fun x=>l.length - x.2.2) (fun x=>DI p l x.1 x.2.1 x.2.2) (i0:=(l,i0,i0+1)) ?_ (.first ar a0 a4) ?_
 · exact Wk.mk' kK (wF (wG F2)) B2 .nil
 rintro ⟨cur,i,j⟩ hD K hK;dsimp only at hD hK|-;have bP:=hD.lt;have bR:=hD.le;have bh:=hD.l;have a1: ∀e∈cur.map A4.c,e.length=2:=by intro e he;obtain⟨t,_,rfl⟩:=mM he;rfl
 have T:(cur.map A4.c).length=l.length:=by rw[lM,bh]
 have bi:i<(cur.map A4.c).length:=by rw[T];omega
 cases hx:l[j]? with
 |none=>
  obtain⟨a7,a2⟩:=hD.full hx;have bl:(cur.map A4.c).take i=(l.filter (fun x=> !p x)).map A4.c:=by rw[<-List.map_take,a7]
  have hj:=gO hx;have bm:decide ((j:Int)<(l.length:Int))=false:=decide_eq_false C;generalize b4:l.filter (fun x=> !p x)=kept at*
  (repeat' first|intro hb hp|(refine LW.is ?_;first|refine ag U (cx (off':=i*2) (n':=l.length - i) (cap':=cap - i) U U C C C C C) ?_|refine gf (j:=i) U U a1 U (by rw[T];omega) C (by rw[T];omega) bl U ?_|refine ag U (fa (n':=i) U U C C C) ?_)|refine am ?_|refine al ?_ ?_|fail)
  have bS:0<i:=by rw[<-a2];exact gU a9
  have bp: ∀e∈kept.map A4.c,e.length=2:=by intro e he;obtain⟨t,_,rfl⟩:=mM he;rfl
  all_goals(apply cu 4 1002 (k:=2) (n:=i);rfl;rfl;rfl;exact bp;(rw[lM];exact a2);omega;(rw[T];omega))
  all_goals exact L.ends U U (Sub.of_eq (congrArg (fun z=>AV.bsh 1002 0 z 2) a2.symm)) wK
 |some y=>
  have bW:=(gS hx).1;have bm:decide ((j:Int)<(l.length:Int))=true:=decide_eq_true C;have ad:=hc y (gE hx);have g1:((j:Nat):Int)<(l.length:Int):=C;have g4:0+((j:Nat):Int).toNat*2=j*2:=by rw[iN,Nat.zero_add]
  have h1:((i:Nat):Int)<(l.length:Int):=C;have h4:0+((i:Nat):Int).toNat*2=i*2:=by rw[iN,Nat.zero_add]
  have g5:((A5.mk 57 (.r (cur.map A4.c).flatten mm)).cs.drop (j*2)).take 2= [.iv (S y.n),.iv (.sl (y.cols.map B8.c))]:=yK a1 (by rw[gP,hD.at,hx];rfl);cases hq:p y with
  |true=>
   rw[hq] at ad;(repeat' first|intro hb hp|refine aZ (f:=f) (bxi:= [(1001,(A5.mk 80 (.l (s.cs.map .iv))))]) U hG U ad U B1 aR U ?_|(refine LW.is ?_;first|refine ag U (cD U U C g1 g4) ?_|refine ag U (cO U U g5 U) ?_)|refine am ?_|refine al ?_ ?_|fail)
   refine hK _ (cur,i,j+1) (hD.drop hx hq) oD ?_;exact Wk.mk' kK F4 B2 .nil
  |false=>
   rw[hq] at ad;(repeat' first|intro hb hp|refine aZ (f:=f) (bxi:= [(1001,(A5.mk 80 (.l (s.cs.map .iv))))]) U hG U ad U B1 aR U ?_|(refine LW.is ?_;first|refine ag U (cD U U C g1 g4) ?_|refine ag U (cD U U C h1 h4) ?_|refine ag U (cO U U g5 U) ?_|refine dR (i:=i) (e:=y.c) (er:=(cur.set i y).map A4.c) U U U U U U a1 U bi List.map_set.symm ?_)|refine am ?_|refine al ?_ ?_|fail)
   refine hK _ (cur.set i y,i+1,j+1) (hD.keep hx hq) oD ?_;exact Wk.mk' kK F4 B2 .nil
def Bv{gs:aw}{f:FuncId}{s:A9}[A0 prog f](p:A4->Bool)(l:List A4)(a2:l≠ [])(hl:l.length<=140737488355328)(aR: [(1001,(A5.mk 80 (.l (s.cs.map .iv))))].all (fun p=> !p.2.cs.isEmpty && AV.mentsIn (keys [(1001,(A5.mk 80 (.l (s.cs.map .iv))))]) p.2.cs)=true)
 (a7:([(1000,⟨57,.r (l.map A4.c).flatten 0⟩),(1001,(A5.mk 80 (.l (s.cs.map .iv))))]:List (Nat×A5)).all (fun p=> !p.2.cs.isEmpty && AV.mentsIn (keys [(1000,⟨57,.r (l.map A4.c).flatten 0⟩),(1001,(A5.mk 80 (.l (s.cs.map .iv))))]) p.2.cs)=true)
 (hc: ∀y∈l,CallG gs prog f ([.agg [.iv (S y.n),.iv (.sl (y.cols.map B8.c))]] ++ [.ptr 1001 0]) [(1001,(A5.mk 80 (.l (s.cs.map .iv))))] [(1001,(A5.mk 80 (.l (s.cs.map .iv))))] [] (aB (p y))) (a8:l.filter (fun x=> !p x)= [])
 (i0:Nat) (x0:A4) (ar: ∀y∈l.take i0,p y=false) (a0:l[i0]?=some x0) (a3:p x0=true):
 CallG gs prog 141 [.bsh 1000 0 l.length 2,.fn f [.ptr 1001 0]] [(1000,⟨57,.r (l.map A4.c).flatten 0⟩),(1001,(A5.mk 80 (.l (s.cs.map .iv))))] [(1000,⟨57,.l []⟩),(1001,(A5.mk 80 (.l (s.cs.map .iv))))] [] (.iv (.sl [])):=by
 refine iG func141 ntmps141 (fun w0 E0 hG=> ?_);have hk: ∀e∈l.map A4.c,e.length=2:=by intro e he;obtain⟨t,_,rfl⟩:=mM he;rfl
 have a9:(l.map A4.c).flatten.length=l.length*2:=by rw[ao _ hk,lM]
 have a4:(l.map A4.c).flatten≠ []:=aD hk dD (by simpa using a2);have kx:=yZ (gs:=gs) (f:=f) (b:=(A5.mk 80 (.l (s.cs.map .iv)))) p l a2 hl aR hc;rw[gC ar a0 a3] at kx;have bS:=(gS a0).1;have he:((i0:Int)== -1)=false:=beq_eq_false_iff_ne.2 C;(repeat' first|intro hb hp|refine nd (bxi:= [(1000,⟨57,.r (l.map A4.c).flatten 0⟩),(1001,(A5.mk 80 (.l (s.cs.map .iv))))]) U hG kx U B2 a7 U ?_|refine am ?_|refine al ?_ ?_|fail)
 refine L.openRow 0 U U (.inl a4) C (fun cap bW b1=> ?_);obtain⟨mm,a5⟩: ∃mm,mm=cap*2 - (l.map A4.c).flatten.length:=⟨_,rfl⟩
 rw[<-a5];rw[a9] at a5;refine ae (ι:=List A4×Nat×Nat) (fun x=>⟨[(5,aI (x.2.1:Int)),(6,aI (x.2.2:Int)),(0,.bsl 1000 0 l.length cap),(1,.fn f [.ptr 1001 0])],[(1000,⟨57,.r (x.1.map A4.c).flatten mm⟩),(1001,(A5.mk 80 (.l (s.cs.map .iv))))],[]⟩) (fun x=>l.length - x.2.2) (fun x=>DI p l x.1 x.2.1 x.2.2) (i0:=(l,i0,i0+1)) ?_ (.first ar a0 a3) ?_
 · exact Wk.mk' kK (wF (wG F2)) B2 .nil
 rintro ⟨cur,i,j⟩ hD K hK;dsimp only at hD hK|-;have bp:=hD.lt;have bP:=hD.le;have ba:=hD.l;have a1: ∀e∈cur.map A4.c,e.length=2:=by intro e he;obtain⟨t,_,rfl⟩:=mM he;rfl
 have T:(cur.map A4.c).length=l.length:=by rw[lM,ba]
 have bh:i<(cur.map A4.c).length:=by rw[T];omega
 cases hx:l[j]? with
 |none=>
  obtain⟨a6,bi⟩:=hD.full hx;have bl:(cur.map A4.c).take i=(l.filter (fun x=> !p x)).map A4.c:=by rw[<-List.map_take,a6]
  have hj:=gO hx;have bm:decide ((j:Int)<(l.length:Int))=false:=decide_eq_false C;generalize b2:l.filter (fun x=> !p x)=kept at*
  (repeat' first|intro hb hp|(refine LW.is ?_;first|refine ag U (cx (off':=i*2) (n':=l.length - i) (cap':=cap - i) U U C C C C C) ?_|refine gf (j:=i) U U a1 U (by rw[T];omega) C (by rw[T];omega) bl U ?_|refine ag U (fa (n':=i) U U C C C) ?_)|refine am ?_|refine al ?_ ?_|fail)
  subst a8;all_goals refine cT 1000 U (Go.Abs.row_ne (.inr (by rw[T];omega))) ?_
  all_goals exact L.ends U U (bi▸Sub.bsl0 _ _ _) wK
 |some y=>
  have bR:=(gS hx).1;have bm:decide ((j:Int)<(l.length:Int))=true:=decide_eq_true C;have ad:=hc y (gE hx);have g1:((j:Nat):Int)<(l.length:Int):=C;have g4:0+((j:Nat):Int).toNat*2=j*2:=by rw[iN,Nat.zero_add]
  have h1:((i:Nat):Int)<(l.length:Int):=C;have h4:0+((i:Nat):Int).toNat*2=i*2:=by rw[iN,Nat.zero_add]
  have g5:((A5.mk 57 (.r (cur.map A4.c).flatten mm)).cs.drop (j*2)).take 2= [.iv (S y.n),.iv (.sl (y.cols.map B8.c))]:=yK a1 (by rw[gP,hD.at,hx];rfl);cases hq:p y with
  |true=>
   rw[hq] at ad;(repeat' first|intro hb hp|refine aZ (f:=f) (bxi:= [(1001,(A5.mk 80 (.l (s.cs.map .iv))))]) U hG U ad U B1 aR U ?_|(refine LW.is ?_;first|refine ag U (cD U U C g1 g4) ?_|refine ag U (cO U U g5 U) ?_)|refine am ?_|refine al ?_ ?_|fail)
   refine hK _ (cur,i,j+1) (hD.drop hx hq) oD ?_;exact Wk.mk' kK F4 B2 .nil
  |false=>
   rw[hq] at ad;(repeat' first|intro hb hp|refine aZ (f:=f) (bxi:= [(1001,(A5.mk 80 (.l (s.cs.map .iv))))]) U hG U ad U B1 aR U ?_|(refine LW.is ?_;first|refine ag U (cD U U C g1 g4) ?_|refine ag U (cD U U C h1 h4) ?_|refine ag U (cO U U g5 U) ?_|refine dR (i:=i) (e:=y.c) (er:=(cur.set i y).map A4.c) U U U U U U a1 U bh List.map_set.symm ?_)|refine am ?_|refine al ?_ ?_|fail)
   refine hK _ (cur.set i y,i+1,j+1) (hD.keep hx hq) oD ?_;exact Wk.mk' kK F4 B2 .nil
def Is{gs:aw}{f:FuncId}{s:A9}[A0 prog f](p:A7->Bool)(l:List A7)(a3:l≠ [])(hl:l.length<=140737488355328)(aR: [(1001,(A5.mk 80 (.l (s.cs.map .iv))))].all (fun p=> !p.2.cs.isEmpty && AV.mentsIn (keys [(1001,(A5.mk 80 (.l (s.cs.map .iv))))]) p.2.cs)=true)
 (a8:([(1000,⟨67,.r (l.map A7.c).flatten 0⟩),(1001,(A5.mk 80 (.l (s.cs.map .iv))))]:List (Nat×A5)).all (fun p=> !p.2.cs.isEmpty && AV.mentsIn (keys [(1000,⟨67,.r (l.map A7.c).flatten 0⟩),(1001,(A5.mk 80 (.l (s.cs.map .iv))))]) p.2.cs)=true)
 (hc: ∀y∈l,CallG gs prog f ([.agg [.iv (S y.n),.iv (S y.tb),.iv (S y.co)]] ++ [.ptr 1001 0]) [(1001,(A5.mk 80 (.l (s.cs.map .iv))))] [(1001,(A5.mk 80 (.l (s.cs.map .iv))))] [] (aB (p y))) (a9:l.filter (fun x=> !p x)≠ [])
 (i0:Nat) (x0:A7) (ar: ∀y∈l.take i0,p y=false) (a0:l[i0]?=some x0) (a4:p x0=true):
 CallG gs prog 143 [.bsh 1000 0 l.length 3,.fn f [.ptr 1001 0]] [(1000,⟨67,.r (l.map A7.c).flatten 0⟩),(1001,(A5.mk 80 (.l (s.cs.map .iv))))] [(1002,⟨67,.r ((l.filter (fun x=> !p x)).map A7.c).flatten 0⟩),(1000,⟨67,.l []⟩),(1001,(A5.mk 80 (.l (s.cs.map .iv))))] [] (.bsh 1002 0 (l.filter (fun x=> !p x)).length 3):=by
 refine iG func143 ntmps143 (fun w0 E0 hG=> ?_);have hk: ∀e∈l.map A7.c,e.length=3:=by intro e he;obtain⟨t,_,rfl⟩:=mM he;rfl
 have ba:(l.map A7.c).flatten.length=l.length*3:=by rw[ao _ hk,lM]
 have a5:(l.map A7.c).flatten≠ []:=aD hk dD (by simpa using a3);have kx:=yY (gs:=gs) (f:=f) (b:=(A5.mk 80 (.l (s.cs.map .iv)))) p l a3 hl aR hc;rw[gC ar a0 a4] at kx;have b1:=(gS a0).1;have he:((i0:Int)== -1)=false:=beq_eq_false_iff_ne.2 C;(repeat' first|intro hb hp|refine nd (bxi:= [(1000,⟨67,.r (l.map A7.c).flatten 0⟩),(1001,(A5.mk 80 (.l (s.cs.map .iv))))]) U hG kx U B2 a8 U ?_|refine am ?_|refine al ?_ ?_|fail)
 refine L.openRow 0 U U (.inl a5) C (fun cap b2 b3=> ?_);obtain⟨mm,a6⟩: ∃mm,mm=cap*3 - (l.map A7.c).flatten.length:=⟨_,rfl⟩
 rw[<-a6];rw[ba] at a6;refine ae (ι:=List A7×Nat×Nat) (fun x=>⟨[(5,aI (x.2.1:Int)),(6,aI (x.2.2:Int)),(0,.bsl 1000 0 l.length cap),(1,.fn f [.ptr 1001 0])],[(1000,⟨67,.r (x.1.map A7.c).flatten mm⟩),(1001,(A5.mk 80 (.l (s.cs.map .iv))))],[]⟩) (fun x=>l.length - x.2.2) (fun x=>DI p l x.1 x.2.1 x.2.2) (i0:=(l,i0,i0+1)) ?_ (.first ar a0 a4) ?_
 · exact Wk.mk' kK (wF (wG F2)) B2 .nil
 rintro ⟨cur,i,j⟩ hD K hK;dsimp only at hD hK|-;have bP:=hD.lt;have bR:=hD.le;have bh:=hD.l;have a1: ∀e∈cur.map A7.c,e.length=3:=by intro e he;obtain⟨t,_,rfl⟩:=mM he;rfl
 have T:(cur.map A7.c).length=l.length:=by rw[lM,bh]
 have bi:i<(cur.map A7.c).length:=by rw[T];omega
 cases hx:l[j]? with
 |none=>
  obtain⟨a7,a2⟩:=hD.full hx;have bl:(cur.map A7.c).take i=(l.filter (fun x=> !p x)).map A7.c:=by rw[<-List.map_take,a7]
  have hj:=gO hx;have bm:decide ((j:Int)<(l.length:Int))=false:=decide_eq_false C;generalize b4:l.filter (fun x=> !p x)=kept at*
  (repeat' first|intro hb hp|(refine LW.is ?_;first|refine ag U (cx (off':=i*3) (n':=l.length - i) (cap':=cap - i) U U C C C C C) ?_|refine gf (j:=i) U U a1 U (by rw[T];omega) C (by rw[T];omega) bl U ?_|refine ag U (fa (n':=i) U U C C C) ?_)|refine am ?_|refine al ?_ ?_|fail)
  have bS:0<i:=by rw[<-a2];exact gU a9
  have bp: ∀e∈kept.map A7.c,e.length=3:=by intro e he;obtain⟨t,_,rfl⟩:=mM he;rfl
  all_goals(apply cu 4 1002 (k:=3) (n:=i);rfl;rfl;rfl;exact bp;(rw[lM];exact a2);omega;(rw[T];omega))
  all_goals exact L.ends U U (Sub.of_eq (congrArg (fun z=>AV.bsh 1002 0 z 3) a2.symm)) wK
 |some y=>
  have bW:=(gS hx).1;have bm:decide ((j:Int)<(l.length:Int))=true:=decide_eq_true C;have ad:=hc y (gE hx);have g1:((j:Nat):Int)<(l.length:Int):=C;have g4:0+((j:Nat):Int).toNat*3=j*3:=by rw[iN,Nat.zero_add]
  have h1:((i:Nat):Int)<(l.length:Int):=C;have h4:0+((i:Nat):Int).toNat*3=i*3:=by rw[iN,Nat.zero_add]
  have g5:((A5.mk 67 (.r (cur.map A7.c).flatten mm)).cs.drop (j*3)).take 3= [.iv (S y.n),.iv (S y.tb),.iv (S y.co)]:=yK a1 (by rw[gP,hD.at,hx];rfl);cases hq:p y with
  |true=>
   rw[hq] at ad;(repeat' first|intro hb hp|refine aZ (f:=f) (bxi:= [(1001,(A5.mk 80 (.l (s.cs.map .iv))))]) U hG U ad U B1 aR U ?_|(refine LW.is ?_;first|refine ag U (cD U U C g1 g4) ?_|refine ag U (cO U U g5 U) ?_)|refine am ?_|refine al ?_ ?_|fail)
   refine hK _ (cur,i,j+1) (hD.drop hx hq) oD ?_;exact Wk.mk' kK F4 B2 .nil
  |false=>
   rw[hq] at ad;(repeat' first|intro hb hp|refine aZ (f:=f) (bxi:= [(1001,(A5.mk 80 (.l (s.cs.map .iv))))]) U hG U ad U B1 aR U ?_|(refine LW.is ?_;first|refine ag U (cD U U C g1 g4) ?_|refine ag U (cD U U C h1 h4) ?_|refine ag U (cO U U g5 U) ?_|refine dR (i:=i) (e:=y.c) (er:=(cur.set i y).map A7.c) U U U U U U a1 U bi List.map_set.symm ?_)|refine am ?_|refine al ?_ ?_|fail)
   refine hK _ (cur.set i y,i+1,j+1) (hD.keep hx hq) oD ?_;exact Wk.mk' kK F4 B2 .nil
def Bu{gs:aw}{f:FuncId}{s:A9}[A0 prog f](p:A7->Bool)(l:List A7)(a2:l≠ [])(hl:l.length<=140737488355328)(aR: [(1001,(A5.mk 80 (.l (s.cs.map .iv))))].all (fun p=> !p.2.cs.isEmpty && AV.mentsIn (keys [(1001,(A5.mk 80 (.l (s.cs.map .iv))))]) p.2.cs)=true)
 (a7:([(1000,⟨67,.r (l.map A7.c).flatten 0⟩),(1001,(A5.mk 80 (.l (s.cs.map .iv))))]:List (Nat×A5)).all (fun p=> !p.2.cs.isEmpty && AV.mentsIn (keys [(1000,⟨67,.r (l.map A7.c).flatten 0⟩),(1001,(A5.mk 80 (.l (s.cs.map .iv))))]) p.2.cs)=true)
 (hc: ∀y∈l,CallG gs prog f ([.agg [.iv (S y.n),.iv (S y.tb),.iv (S y.co)]] ++ [.ptr 1001 0]) [(1001,(A5.mk 80 (.l (s.cs.map .iv))))] [(1001,(A5.mk 80 (.l (s.cs.map .iv))))] [] (aB (p y))) (a8:l.filter (fun x=> !p x)= [])
 (i0:Nat) (x0:A7) (ar: ∀y∈l.take i0,p y=false) (a0:l[i0]?=some x0) (a3:p x0=true):
 CallG gs prog 143 [.bsh 1000 0 l.length 3,.fn f [.ptr 1001 0]] [(1000,⟨67,.r (l.map A7.c).flatten 0⟩),(1001,(A5.mk 80 (.l (s.cs.map .iv))))] [(1000,⟨67,.l []⟩),(1001,(A5.mk 80 (.l (s.cs.map .iv))))] [] (.iv (.sl [])):=by
 refine iG func143 ntmps143 (fun w0 E0 hG=> ?_);have hk: ∀e∈l.map A7.c,e.length=3:=by intro e he;obtain⟨t,_,rfl⟩:=mM he;rfl
 have a9:(l.map A7.c).flatten.length=l.length*3:=by rw[ao _ hk,lM]
 have a4:(l.map A7.c).flatten≠ []:=aD hk dD (by simpa using a2);have kx:=yY (gs:=gs) (f:=f) (b:=(A5.mk 80 (.l (s.cs.map .iv)))) p l a2 hl aR hc;rw[gC ar a0 a3] at kx;have bS:=(gS a0).1;have he:((i0:Int)== -1)=false:=beq_eq_false_iff_ne.2 C;(repeat' first|intro hb hp|refine nd (bxi:= [(1000,⟨67,.r (l.map A7.c).flatten 0⟩),(1001,(A5.mk 80 (.l (s.cs.map .iv))))]) U hG kx U B2 a7 U ?_|refine am ?_|refine al ?_ ?_|fail)
 refine L.openRow 0 U U (.inl a4) C (fun cap bW b1=> ?_);obtain⟨mm,a5⟩: ∃mm,mm=cap*3 - (l.map A7.c).flatten.length:=⟨_,rfl⟩
 rw[<-a5];rw[a9] at a5;refine ae (ι:=List A7×Nat×Nat) (fun x=>⟨[(5,aI (x.2.1:Int)),(6,aI (x.2.2:Int)),(0,.bsl 1000 0 l.length cap),(1,.fn f [.ptr 1001 0])],[(1000,⟨67,.r (x.1.map A7.c).flatten mm⟩),(1001,(A5.mk 80 (.l (s.cs.map .iv))))],[]⟩) (fun x=>l.length - x.2.2) (fun x=>DI p l x.1 x.2.1 x.2.2) (i0:=(l,i0,i0+1)) ?_ (.first ar a0 a3) ?_
 · exact Wk.mk' kK (wF (wG F2)) B2 .nil
 rintro ⟨cur,i,j⟩ hD K hK;dsimp only at hD hK|-;have bp:=hD.lt;have bP:=hD.le;have ba:=hD.l;have a1: ∀e∈cur.map A7.c,e.length=3:=by intro e he;obtain⟨t,_,rfl⟩:=mM he;rfl
 have T:(cur.map A7.c).length=l.length:=by rw[lM,ba]
 have bh:i<(cur.map A7.c).length:=by rw[T];omega
 cases hx:l[j]? with
 |none=>
  obtain⟨a6,bi⟩:=hD.full hx;have bl:(cur.map A7.c).take i=(l.filter (fun x=> !p x)).map A7.c:=by rw[<-List.map_take,a6]
  have hj:=gO hx;have bm:decide ((j:Int)<(l.length:Int))=false:=decide_eq_false C;generalize b2:l.filter (fun x=> !p x)=kept at*
  (repeat' first|intro hb hp|(refine LW.is ?_;first|refine ag U (cx (off':=i*3) (n':=l.length - i) (cap':=cap - i) U U C C C C C) ?_|refine gf (j:=i) U U a1 U (by rw[T];omega) C (by rw[T];omega) bl U ?_|refine ag U (fa (n':=i) U U C C C) ?_)|refine am ?_|refine al ?_ ?_|fail)
  subst a8;all_goals refine cT 1000 U (Go.Abs.row_ne (.inr (by rw[T];omega))) ?_
  all_goals exact L.ends U U (bi▸Sub.bsl0 _ _ _) wK
 |some y=>
  have bR:=(gS hx).1;have bm:decide ((j:Int)<(l.length:Int))=true:=decide_eq_true C;have ad:=hc y (gE hx);have g1:((j:Nat):Int)<(l.length:Int):=C;have g4:0+((j:Nat):Int).toNat*3=j*3:=by rw[iN,Nat.zero_add]
  have h1:((i:Nat):Int)<(l.length:Int):=C;have h4:0+((i:Nat):Int).toNat*3=i*3:=by rw[iN,Nat.zero_add]
  have g5:((A5.mk 67 (.r (cur.map A7.c).flatten mm)).cs.drop (j*3)).take 3= [.iv (S y.n),.iv (S y.tb),.iv (S y.co)]:=yK a1 (by rw[gP,hD.at,hx];rfl);cases hq:p y with
  |true=>
   rw[hq] at ad;(repeat' first|intro hb hp|refine aZ (f:=f) (bxi:= [(1001,(A5.mk 80 (.l (s.cs.map .iv))))]) U hG U ad U B1 aR U ?_|(refine LW.is ?_;first|refine ag U (cD U U C g1 g4) ?_|refine ag U (cO U U g5 U) ?_)|refine am ?_|refine al ?_ ?_|fail)
   refine hK _ (cur,i,j+1) (hD.drop hx hq) oD ?_;exact Wk.mk' kK F4 B2 .nil
  |false=>
   rw[hq] at ad;(repeat' first|intro hb hp|refine aZ (f:=f) (bxi:= [(1001,(A5.mk 80 (.l (s.cs.map .iv))))]) U hG U ad U B1 aR U ?_|(refine LW.is ?_;first|refine ag U (cD U U C g1 g4) ?_|refine ag U (cD U U C h1 h4) ?_|refine ag U (cO U U g5 U) ?_|refine dR (i:=i) (e:=y.c) (er:=(cur.set i y).map A7.c) U U U U U U a1 U bh List.map_set.symm ?_)|refine am ?_|refine al ?_ ?_|fail)
   refine hK _ (cur.set i y,i+1,j+1) (hD.keep hx hq) oD ?_;exact Wk.mk' kK F4 B2 .nil
def jf{α:Type}{p:α->Bool}: ∀{l:List α},(¬ ∀y∈l,p y=false)-> ∃i x,(∀y∈l.take i,p y=false)/\l[i]?=some x/\p x=true
 | [],h=>absurd (fun y T=>by cases T) h
 |x::l,h=>by
  cases hp:p x with
  |true=>exact⟨0,x,by simp,rfl,hp⟩
  |false=>
   obtain⟨i,z,h1,h2,h3⟩:=jf (l:=l) (fun hn=>h (fun y T=>by
    rcases List.mem_cons.1 T with rfl|T
    · exact hp
    · exact hn y T))
   exact⟨i+1,z,fun y T=>by
    rw[List.take_succ_cons] at T;rcases List.mem_cons.1 T with rfl|T
    · exact hp
    · exact h1 y T,by simpa using h2,h3⟩
def Kr{gs:aw}{f:FuncId}{s:A9}[A0 prog f](p:A4->Bool)(l:List A4)(T:l≠ [])(hl:l.length<=140737488355328)(ar: [(1001,(A5.mk 80 (.l (s.cs.map .iv))))].all (fun p=> !p.2.cs.isEmpty && AV.mentsIn (keys [(1001,(A5.mk 80 (.l (s.cs.map .iv))))]) p.2.cs)=true)
 (aR:([(1000,⟨57,.r (l.map A4.c).flatten 0⟩),(1001,(A5.mk 80 (.l (s.cs.map .iv))))]:List (Nat×A5)).all (fun p=> !p.2.cs.isEmpty && AV.mentsIn (keys [(1000,⟨57,.r (l.map A4.c).flatten 0⟩),(1001,(A5.mk 80 (.l (s.cs.map .iv))))]) p.2.cs)=true)
 (hc: ∀y∈l,CallG gs prog f ([.agg [.iv (S y.n),.iv (.sl (y.cols.map B8.c))]] ++ [.ptr 1001 0]) [(1001,(A5.mk 80 (.l (s.cs.map .iv))))] [(1001,(A5.mk 80 (.l (s.cs.map .iv))))] [] (aB (p y))) (a0: ∀y∈l,p y=false):
 CallG gs prog 141 [.bsh 1000 0 l.length 2,.fn f [.ptr 1001 0]] [(1000,⟨57,.r (l.map A4.c).flatten 0⟩),(1001,(A5.mk 80 (.l (s.cs.map .iv))))] [(1002,⟨57,.r (l.map A4.c).flatten 0⟩),(1000,⟨57,.l []⟩),(1001,(A5.mk 80 (.l (s.cs.map .iv))))] [] (.bsh 1002 0 l.length 2):=by
 have hk: ∀e∈l.map A4.c,e.length=2:=by intro e he;obtain⟨t,_,rfl⟩:=mM he;rfl
 have a1:(l.map A4.c).flatten.length=l.length*2:=by rw[ao _ hk,lM]
 have ad:(l.map A4.c).flatten≠ []:=aD hk dD (by simpa using T);have a2:0<l.length:=gU T;refine iG func141 ntmps141 (fun w0 E0 hG=> ?_);have kx:=yZ (gs:=gs) (f:=f) (b:=(A5.mk 80 (.l (s.cs.map .iv)))) p l T hl ar hc;rw[jE a0] at kx;(repeat' first|intro hb hp|refine nd (bxi:= [(1000,⟨57,.r (l.map A4.c).flatten 0⟩),(1001,(A5.mk 80 (.l (s.cs.map .iv))))]) U hG kx U B2 aR U ?_|refine am ?_|refine al ?_ ?_|fail)
 all_goals(refine L.openRow 4 (id:=1000) (n:=l.length) (k:=2) U U (.inl ad) C (fun cap a3 a4=> ?_))
 all_goals(apply cu 4 1002 (k:=2) (n:=l.length);rfl;rfl;rfl;exact hk;exact lM _;omega;(rw[a1];omega))
 all_goals exact L.ends U U fR wK
def vL{gs:aw}{f:FuncId}{s:A9}[A0 prog f](p:A4->Bool)(l:List A4)(ad:l≠ [])(hl:l.length<=140737488355328)(ar: [(1001,(A5.mk 80 (.l (s.cs.map .iv))))].all (fun p=> !p.2.cs.isEmpty && AV.mentsIn (keys [(1001,(A5.mk 80 (.l (s.cs.map .iv))))]) p.2.cs)=true)
 (aR:([(1000,⟨57,.r (l.map A4.c).flatten 0⟩),(1001,(A5.mk 80 (.l (s.cs.map .iv))))]:List (Nat×A5)).all (fun p=> !p.2.cs.isEmpty && AV.mentsIn (keys [(1000,⟨57,.r (l.map A4.c).flatten 0⟩),(1001,(A5.mk 80 (.l (s.cs.map .iv))))]) p.2.cs)=true)
 (hc: ∀y∈l,CallG gs prog f ([.agg [.iv (S y.n),.iv (.sl (y.cols.map B8.c))]] ++ [.ptr 1001 0]) [(1001,(A5.mk 80 (.l (s.cs.map .iv))))] [(1001,(A5.mk 80 (.l (s.cs.map .iv))))] [] (aB (p y))) (a0:l.filter (fun x=> !p x)≠ []):
 CallG gs prog 141 [.bsh 1000 0 l.length 2,.fn f [.ptr 1001 0]] [(1000,⟨57,.r (l.map A4.c).flatten 0⟩),(1001,(A5.mk 80 (.l (s.cs.map .iv))))] [(1002,⟨57,.r ((l.filter (fun x=> !p x)).map A4.c).flatten 0⟩),(1000,⟨57,.l []⟩),(1001,(A5.mk 80 (.l (s.cs.map .iv))))] [] (.bsh 1002 0 (l.filter (fun x=> !p x)).length 2):=by
 by_cases T: ∀y∈l,p y=false
 · have e:l.filter (fun x=> !p x)=l:=List.filter_eq_self.2 (fun y hy=>by rw[T y hy];rfl);rw[e];exact Kr p l ad hl ar aR hc T
 · obtain⟨i,x,h1,h2,h3⟩:=jf T;exact Iu p l ad hl ar aR hc a0 i x h1 h2 h3
def Kq{gs:aw}{f:FuncId}{s:A9}[A0 prog f](p:A7->Bool)(l:List A7)(T:l≠ [])(hl:l.length<=140737488355328)(ar: [(1001,(A5.mk 80 (.l (s.cs.map .iv))))].all (fun p=> !p.2.cs.isEmpty && AV.mentsIn (keys [(1001,(A5.mk 80 (.l (s.cs.map .iv))))]) p.2.cs)=true)
 (aR:([(1000,⟨67,.r (l.map A7.c).flatten 0⟩),(1001,(A5.mk 80 (.l (s.cs.map .iv))))]:List (Nat×A5)).all (fun p=> !p.2.cs.isEmpty && AV.mentsIn (keys [(1000,⟨67,.r (l.map A7.c).flatten 0⟩),(1001,(A5.mk 80 (.l (s.cs.map .iv))))]) p.2.cs)=true)
 (hc: ∀y∈l,CallG gs prog f ([.agg [.iv (S y.n),.iv (S y.tb),.iv (S y.co)]] ++ [.ptr 1001 0]) [(1001,(A5.mk 80 (.l (s.cs.map .iv))))] [(1001,(A5.mk 80 (.l (s.cs.map .iv))))] [] (aB (p y))) (a0: ∀y∈l,p y=false):
 CallG gs prog 143 [.bsh 1000 0 l.length 3,.fn f [.ptr 1001 0]] [(1000,⟨67,.r (l.map A7.c).flatten 0⟩),(1001,(A5.mk 80 (.l (s.cs.map .iv))))] [(1002,⟨67,.r (l.map A7.c).flatten 0⟩),(1000,⟨67,.l []⟩),(1001,(A5.mk 80 (.l (s.cs.map .iv))))] [] (.bsh 1002 0 l.length 3):=by
 have hk: ∀e∈l.map A7.c,e.length=3:=by intro e he;obtain⟨t,_,rfl⟩:=mM he;rfl
 have a1:(l.map A7.c).flatten.length=l.length*3:=by rw[ao _ hk,lM]
 have ad:(l.map A7.c).flatten≠ []:=aD hk dD (by simpa using T);have a2:0<l.length:=gU T;refine iG func143 ntmps143 (fun w0 E0 hG=> ?_);have kx:=yY (gs:=gs) (f:=f) (b:=(A5.mk 80 (.l (s.cs.map .iv)))) p l T hl ar hc;rw[jE a0] at kx;(repeat' first|intro hb hp|refine nd (bxi:= [(1000,⟨67,.r (l.map A7.c).flatten 0⟩),(1001,(A5.mk 80 (.l (s.cs.map .iv))))]) U hG kx U B2 aR U ?_|refine am ?_|refine al ?_ ?_|fail)
 all_goals(refine L.openRow 4 (id:=1000) (n:=l.length) (k:=3) U U (.inl ad) C (fun cap a3 a4=> ?_))
 all_goals(apply cu 4 1002 (k:=3) (n:=l.length);rfl;rfl;rfl;exact hk;exact lM _;omega;(rw[a1];omega))
 all_goals exact L.ends U U fR wK
def JR{gs:aw}{f:FuncId}{s:A9}:
 CallG gs prog 111 [.iv (.sl []),.fn f [.ptr 1001 0]] [(1001,(A5.mk 80 (.l (s.cs.map .iv))))] [(1001,(A5.mk 80 (.l (s.cs.map .iv))))] [] (aI (-1)):=by
 refine iG func111 ntmps111 (fun w0 E0 T=> ?_);refine wz ?_;refine ae (ι:=Nat) (fun i=>⟨[(8,aI 0),(7,aI 0),(0,.iv (.sl [])),(1,.fn f [.ptr 1001 0])],[(1001,(A5.mk 80 (.l (s.cs.map .iv))))],[]⟩) (fun i=>i) (fun i=>True) (i0:=0) ?_ trivial ?_
 · exact Wk.mk' ax (wG (wG F2)) B1 .nil
 intro i _ K hK;refine wz ?_;all_goals exact L.ends U U sE (Wk.mk' ax .nil B1 .nil)
def EH{gs:aw}{f:FuncId}{s:A9}:
 CallG gs prog 143 [.iv (.sl []),.fn f [.ptr 1001 0]] [(1001,(A5.mk 80 (.l (s.cs.map .iv))))] [(1001,(A5.mk 80 (.l (s.cs.map .iv))))] [] (.iv (.sl [])):=by
 refine iG func143 ntmps143 (fun w0 E0 T=> ?_);have hz:([(1001,(A5.mk 80 (.l (s.cs.map .iv))))]:List (Nat×A5)).all (fun p=> !p.2.cs.isEmpty && AV.mentsIn (keys [(1001,(A5.mk 80 (.l (s.cs.map .iv))))]) p.2.cs)=true:=by first|rfl|kernel_rfl|(simp[keys,A9.cs,AV.mentsIn,AV.mentIn];done)
 have kx:=JR (gs:=gs) (f:=f) (s:=s);(repeat' first|intro hb hp|refine nd (bxi:= [(1001,(A5.mk 80 (.l (s.cs.map .iv))))]) U T kx U B1 hz U ?_|refine am ?_|refine al ?_ ?_|fail)
 all_goals exact L.ends U U fR (Wk.mk' ax .nil B1 .nil)
def It{gs:aw}{f:FuncId}{s:A9}[A0 prog f](p:A7->Bool)(l:List A7)(ad:l≠ [])(hl:l.length<=140737488355328)(ar: [(1001,(A5.mk 80 (.l (s.cs.map .iv))))].all (fun p=> !p.2.cs.isEmpty && AV.mentsIn (keys [(1001,(A5.mk 80 (.l (s.cs.map .iv))))]) p.2.cs)=true)
 (aR:([(1000,⟨67,.r (l.map A7.c).flatten 0⟩),(1001,(A5.mk 80 (.l (s.cs.map .iv))))]:List (Nat×A5)).all (fun p=> !p.2.cs.isEmpty && AV.mentsIn (keys [(1000,⟨67,.r (l.map A7.c).flatten 0⟩),(1001,(A5.mk 80 (.l (s.cs.map .iv))))]) p.2.cs)=true)
 (hc: ∀y∈l,CallG gs prog f ([.agg [.iv (S y.n),.iv (S y.tb),.iv (S y.co)]] ++ [.ptr 1001 0]) [(1001,(A5.mk 80 (.l (s.cs.map .iv))))] [(1001,(A5.mk 80 (.l (s.cs.map .iv))))] [] (aB (p y))) (a0:l.filter (fun x=> !p x)≠ []):
 CallG gs prog 143 [.bsh 1000 0 l.length 3,.fn f [.ptr 1001 0]] [(1000,⟨67,.r (l.map A7.c).flatten 0⟩),(1001,(A5.mk 80 (.l (s.cs.map .iv))))] [(1002,⟨67,.r ((l.filter (fun x=> !p x)).map A7.c).flatten 0⟩),(1000,⟨67,.l []⟩),(1001,(A5.mk 80 (.l (s.cs.map .iv))))] [] (.bsh 1002 0 (l.filter (fun x=> !p x)).length 3):=by
 by_cases T: ∀y∈l,p y=false
 · have e:l.filter (fun x=> !p x)=l:=List.filter_eq_self.2 (fun y hy=>by rw[T y hy];rfl);rw[e];exact Kq p l ad hl ar aR hc T
 · obtain⟨i,x,h1,h2,h3⟩:=jf T;exact Is p l ad hl ar aR hc a0 i x h1 h2 h3
abbrev fD:FuncId:=129
abbrev nI(s:A9):List (Nat×A5):= [(1012,⟨80,.l (s.cs.map .iv)⟩)]
def sy{s:A9}:(nI s).all (fun p=>AV.mentsIn ([] ++keys (nI s)) p.2.cs)=true:=by simp[keys,A9.cs,AV.mentsIn,AV.mentIn]
def nX{s:A9}{l:List (List A3)}{b:A5}(h:l≠ []):dV [] ((1000,bu l)::nI s) ((1000,b)::nI s)=true:=by
 have:=lz h;cases T:(l.map ai).flatten with
 |nil=>exact absurd T this
 |cons x xs=>simp only[dV,keys,bu,T];rfl
def uC{L:List Nat}{s:A9}{l:List (List A3)}:((1000,bu l)::nI s).all (fun p=>AV.mentsIn L p.2.cs)=true:=by
 have:=cZ (L:=L) (l:=l) (id:=1000);simp only[List.all_cons,List.all_nil,Bool.and_true] at this;simp only[List.all_cons,List.all_nil,Bool.and_true,this,Bool.true_and];simp[A9.cs,AV.mentsIn,AV.mentIn]
def BN{gs:aw}(s:A9)(T:s.wh.Ok)(x:List A3):CallG gs prog fD ([.iv (.sl (x.map A3.c))] ++ [.ptr 1012 0]) (nI s) (nI s) [] (aB (!bL s.wh x)):=by
 have kh:=(xM s.wh T x).toG (gs:=gs);refine iG func129 ntmps129 (fun w0 E0 hG=> ?_);(repeat' first|intro hb hp|refine dK (ha:=rfl) U hG kh U ?_|refine am ?_|refine al ?_ ?_|fail)
 all_goals exact L.ends U U sE wK
def za{gs:aw}{s:A9}[A0 prog fD](p:List A3->Bool)(l:List (List A3))(aR:l≠ [])(hl:l.length<=1000000)
 (hc: ∀y∈l,CallG gs prog fD ([.iv (.sl (y.map A3.c))] ++ [.ptr 1012 0]) (nI s) (nI s) [] (aB (p y))):
 CallG gs prog 176 [.bsh 1000 0 l.length 1,.fn fD [.ptr 1012 0]] ((1000,bu l)::nI s) ((1000,bu l)::nI s) [] (aI (iB p l)):=by
 refine iG func176 ntmps176 (fun w0 E0 hG=> ?_);refine wz ?_;refine ae (ι:=Nat) (fun i=>⟨[(8,aI (i:Int)),(7,aI (l.length:Int)),(0,.bsh 1000 0 l.length 1),(1,.fn fD [.ptr 1012 0])],(1000,bu l)::nI s,[]⟩) (fun i=>l.length - i) (fun i=> ∀y∈l.take i,p y=false) (i0:=0) ?_ sP ?_
 · exact Wk.mkX ax F4 (fun s v h=>h) .nil
 intro i hI K hK;cases hx:l[i]? with
 |none=>
  have ad:decide ((i:Int)<(l.length:Int))=false:=by have:=gO hx;exact decide_eq_false C
  rw[jE (fG hI hx)];refine wz ?_;apply L.ends;rfl;rfl;exact fR;exact Wk.mk' kK .nil B2 .nil
 |some y=>
  have ar:=(gS hx).1;have ad:decide ((i:Int)<(l.length:Int))=true:=decide_eq_true C;have T:=hc y (gE hx);have p1:(0:Int)<=(i:Int):=C;have b1:(i:Int)<(l.length:Int):=C;have o1:(0+((i:Nat):Int).toNat)*1=i:=nG U;cases hq:p y with
  |true=>
   rw[hq] at T;rw[gC hI hx hq];(repeat' first|intro hb hp|(refine LW.is ?_;first|refine ag U (ay U U p1 b1 o1) ?_|refine ag U (bc (es:=l.map ai) (k:=1) (i:=i) (f:=0) U U (jB l) C (ph hx) U) ?_|refine iZ (f:=fD) U hG U T U (.cons U .nil) U sy U ?_)|refine am ?_|refine al ?_ ?_|fail)
   all_goals exact L.ends U U fR wK
  |false=>
   rw[hq] at T;(repeat' first|intro hb hp|(refine LW.is ?_;first|refine ag U (ay U U p1 b1 o1) ?_|refine ag U (bc (es:=l.map ai) (k:=1) (i:=i) (f:=0) U U (jB l) C (ph hx) U) ?_|refine iZ (f:=fD) U hG U T U (.cons U .nil) U sy U ?_)|refine am ?_|refine al ?_ ?_|fail)
   refine hK _ (i+1) (fun z hz=>by
    rw[dv hx] at hz;rcases mA hz with hz|hz
    · exact hI z hz
    · rw[List.mem_singleton.1 hz];exact hq) C ?_
   exact Wk.mk' kK (wG F3) B2 .nil
def Iv{gs:aw}{s:A9}[A0 prog fD](p:List A3->Bool)(l:List (List A3))(a0:l≠ [])(hl:l.length<=1000000)
 (hc: ∀y∈l,CallG gs prog fD ([.iv (.sl (y.map A3.c))] ++ [.ptr 1012 0]) (nI s) (nI s) [] (aB (p y))) (a7:l.filter (fun x=> !p x)≠ [])
 (i0:Nat) (x0:List A3) (aR: ∀y∈l.take i0,p y=false) (a1:l[i0]?=some x0) (a3:p x0=true):
 CallG gs prog 128 [.bsh 1000 0 l.length 1,.fn fD [.ptr 1012 0]] ((1000,bu l)::nI s) ((1002,bu (l.filter (fun x=> !p x)))::(1000,⟨35,.l []⟩)::nI s) [] (.bsh 1002 0 (l.filter (fun x=> !p x)).length 1):=by
 refine iG func128 ntmps128 (fun w0 E0 hG=> ?_);have hk:=jB l;have a8:(l.map ai).flatten.length=l.length*1:=by rw[ao _ hk,lM]
 have a4:(l.map ai).flatten≠ []:=lz a0;have kx:=za (gs:=gs) (s:=s) p l a0 hl hc;rw[gC aR a1 a3] at kx;have bS:=(gS a1).1;have he:((i0:Int)== -1)=false:=beq_eq_false_iff_ne.2 C;(repeat' first|intro hb hp|apply ac [];rfl;exact hG;exact kx;exact fS;exact B2;rfl;exact nX a0;exact uC;rfl|refine am ?_|refine al ?_ ?_|fail)
 refine L.openRow 0 (id:=1000) (n:=l.length) (k:=1) U U (.inl a4) C (fun cap bW b1=> ?_);obtain⟨mm,a5⟩: ∃mm,mm=cap*1 - (l.map ai).flatten.length:=⟨_,rfl⟩
 rw[<-a5];rw[a8] at a5;refine ae (ι:=List (List A3)×Nat×Nat) (fun x=>⟨[(5,aI (x.2.1:Int)),(6,aI (x.2.2:Int)),(0,.bsl 1000 0 l.length cap),(1,.fn fD [.ptr 1012 0])],(1000,⟨35,.r (x.1.map ai).flatten mm⟩)::nI s,[]⟩) (fun x=>l.length - x.2.2) (fun x=>DI p l x.1 x.2.1 x.2.2) (i0:=(l,i0,i0+1)) ?_ (.first aR a1 a3) ?_
 · exact Wk.mk' kK (wF (wG F2)) B2 .nil
 rintro ⟨cur,i,j⟩ hD K hK;dsimp only at hD hK|-;have bm:=hD.lt;have bp:=hD.le;have a9:=hD.l;have T:=jB cur;have ad:(cur.map ai).length=l.length:=by rw[lM,a9]
 have ba:i<(cur.map ai).length:=by rw[ad];omega
 cases hx:l[j]? with
 |none=>
  obtain⟨a6,a2⟩:=hD.full hx;have bh:(cur.map ai).take i=(l.filter (fun x=> !p x)).map ai:=by rw[<-List.map_take,a6]
  have hj:=gO hx;have bi:decide ((j:Int)<(l.length:Int))=false:=decide_eq_false C;generalize b2:l.filter (fun x=> !p x)=kept at*
  (repeat' first|intro hb hp|(refine LW.is ?_;first|apply ag;rfl;apply cx (off':=i*1) (n':=l.length - i) (cap':=cap - i);rfl;rfl;omega;omega;omega;omega;omega|apply gf (j:=i);rfl;rfl;exact T;rfl;(rw[ad];omega);omega;(rw[ad];omega);exact bh;rfl|apply ag;rfl;apply fa (n':=i);rfl;rfl;omega;omega;omega)|refine am ?_|refine al ?_ ?_|fail)
  have bP:0<i:=by rw[<-a2];exact gU a7
  have bl:=jB kept;all_goals(apply cu 4 1002 (k:=1) (n:=i);rfl;rfl;rfl;exact bl;(rw[lM];exact a2);omega;(rw[ad];omega))
  all_goals(apply L.ends;rfl;rfl;exact Sub.of_eq (congrArg (fun z=>AV.bsh 1002 0 z 1) a2.symm);exact Wk.mk' kK .nil B3 .nil)
 |some y=>
  have bR:=(gS hx).1;have bi:decide ((j:Int)<(l.length:Int))=true:=decide_eq_true C;have ar:=hc y (gE hx);have g1:((j:Nat):Int)<(l.length:Int):=C;have g4:0+((j:Nat):Int).toNat*1=j:=C;have h1:((i:Nat):Int)<(l.length:Int):=C;have h4:0+((i:Nat):Int).toNat*1=i:=C;have gy:cur[j]?=some y:=by rw[hD.at,hx]
  cases hq:p y with
  |true=>
   rw[hq] at ar;(repeat' first|intro hb hp|(refine LW.is ?_;first|apply ag;rfl;apply cD;rfl;rfl;omega;(first|exact g1|exact h1);(first|exact g4|exact h4)|apply ag;rfl;apply bc (es:=cur.map ai) (k:=1) (i:=j) (f:=0);rfl;rfl;exact T;exact C;exact ph gy;rfl|apply iZ (f:=fD);rfl;exact hG;rfl;exact ar;rfl;exact(.cons U .nil);rfl;exact sy;rfl)|refine am ?_|refine al ?_ ?_|fail)
   refine hK _ (cur,i,j+1) (hD.drop hx hq) oD ?_;exact Wk.mk' kK (wF (wG F2)) B2 .nil
  |false=>
   rw[hq] at ar;(repeat' first|intro hb hp|(refine LW.is ?_;first|apply ag;rfl;apply cD;rfl;rfl;omega;(first|exact g1|exact h1);(first|exact g4|exact h4)|apply ag;rfl;apply bc (es:=cur.map ai) (k:=1) (i:=j) (f:=0);rfl;rfl;exact T;exact C;exact ph gy;rfl|apply dR (es:=cur.map ai) (i:=i) (e:= [.sl (y.map A3.c)]) (er:=(cur.set i y).map ai);rfl;rfl;rfl;rfl;rfl;rfl;exact T;exact C;exact ba;exact Jb|apply iZ (f:=fD);rfl;exact hG;rfl;exact ar;rfl;exact(.cons U .nil);rfl;exact sy;rfl)|refine am ?_|refine al ?_ ?_|fail)
   refine hK _ (cur.set i y,i+1,j+1) (hD.keep hx hq) oD ?_;exact Wk.mk' kK (wG (wG F2)) B2 .nil
def Iw{gs:aw}{s:A9}[A0 prog fD](p:List A3->Bool)(l:List (List A3))(a0:l≠ [])(hl:l.length<=1000000)
 (hc: ∀y∈l,CallG gs prog fD ([.iv (.sl (y.map A3.c))] ++ [.ptr 1012 0]) (nI s) (nI s) [] (aB (p y))) (a6:l.filter (fun x=> !p x)= [])
 (i0:Nat) (x0:List A3) (aR: ∀y∈l.take i0,p y=false) (a1:l[i0]?=some x0) (a2:p x0=true):
 CallG gs prog 128 [.bsh 1000 0 l.length 1,.fn fD [.ptr 1012 0]] ((1000,bu l)::nI s) ((1000,⟨35,.l []⟩)::nI s) [] (.iv (.sl [])):=by
 refine iG func128 ntmps128 (fun w0 E0 hG=> ?_);have hk:=jB l;have a7:(l.map ai).flatten.length=l.length*1:=by rw[ao _ hk,lM]
 have a3:(l.map ai).flatten≠ []:=lz a0;have kx:=za (gs:=gs) (s:=s) p l a0 hl hc;rw[gC aR a1 a2] at kx;have bP:=(gS a1).1;have he:((i0:Int)== -1)=false:=beq_eq_false_iff_ne.2 C;(repeat' first|intro hb hp|apply ac [];rfl;exact hG;exact kx;exact fS;exact B2;rfl;exact nX a0;exact uC;rfl|refine am ?_|refine al ?_ ?_|fail)
 refine L.openRow 0 (id:=1000) (n:=l.length) (k:=1) U U (.inl a3) C (fun cap bR bS=> ?_);obtain⟨mm,a4⟩: ∃mm,mm=cap*1 - (l.map ai).flatten.length:=⟨_,rfl⟩
 rw[<-a4];rw[a7] at a4;refine ae (ι:=List (List A3)×Nat×Nat) (fun x=>⟨[(5,aI (x.2.1:Int)),(6,aI (x.2.2:Int)),(0,.bsl 1000 0 l.length cap),(1,.fn fD [.ptr 1012 0])],(1000,⟨35,.r (x.1.map ai).flatten mm⟩)::nI s,[]⟩) (fun x=>l.length - x.2.2) (fun x=>DI p l x.1 x.2.1 x.2.2) (i0:=(l,i0,i0+1)) ?_ (.first aR a1 a2) ?_
 · exact Wk.mk' kK (wF (wG F2)) B2 .nil
 rintro ⟨cur,i,j⟩ hD K hK;dsimp only at hD hK|-;have bl:=hD.lt;have bm:=hD.le;have a8:=hD.l;have T:=jB cur;have ad:(cur.map ai).length=l.length:=by rw[lM,a8]
 have a9:i<(cur.map ai).length:=by rw[ad];omega
 cases hx:l[j]? with
 |none=>
  obtain⟨a5,ba⟩:=hD.full hx;have bh:(cur.map ai).take i=(l.filter (fun x=> !p x)).map ai:=by rw[<-List.map_take,a5]
  have hj:=gO hx;have bi:decide ((j:Int)<(l.length:Int))=false:=decide_eq_false C;generalize bW:l.filter (fun x=> !p x)=kept at*
  (repeat' first|intro hb hp|(refine LW.is ?_;first|apply ag;rfl;apply cx (off':=i*1) (n':=l.length - i) (cap':=cap - i);rfl;rfl;omega;omega;omega;omega;omega|apply gf (j:=i);rfl;rfl;exact T;rfl;(rw[ad];omega);omega;(rw[ad];omega);exact bh;rfl|apply ag;rfl;apply fa (n':=i);rfl;rfl;omega;omega;omega)|refine am ?_|refine al ?_ ?_|fail)
  subst a6;all_goals refine cT 1000 U (Go.Abs.row_ne (.inr (by rw[ad];omega))) ?_
  all_goals(apply L.ends;rfl;rfl;exact ba▸Sub.bsl0 _ _ _;exact Wk.mk' kK .nil B2 .nil)
 |some y=>
  have bp:=(gS hx).1;have bi:decide ((j:Int)<(l.length:Int))=true:=decide_eq_true C;have ar:=hc y (gE hx);have g1:((j:Nat):Int)<(l.length:Int):=C;have g4:0+((j:Nat):Int).toNat*1=j:=C;have h1:((i:Nat):Int)<(l.length:Int):=C;have h4:0+((i:Nat):Int).toNat*1=i:=C;have gy:cur[j]?=some y:=by rw[hD.at,hx]
  cases hq:p y with
  |true=>
   rw[hq] at ar;(repeat' first|intro hb hp|(refine LW.is ?_;first|apply ag;rfl;apply cD;rfl;rfl;omega;(first|exact g1|exact h1);(first|exact g4|exact h4)|apply ag;rfl;apply bc (es:=cur.map ai) (k:=1) (i:=j) (f:=0);rfl;rfl;exact T;exact C;exact ph gy;rfl|apply iZ (f:=fD);rfl;exact hG;rfl;exact ar;rfl;exact(.cons U .nil);rfl;exact sy;rfl)|refine am ?_|refine al ?_ ?_|fail)
   refine hK _ (cur,i,j+1) (hD.drop hx hq) oD ?_;exact Wk.mk' kK (wF (wG F2)) B2 .nil
  |false=>
   rw[hq] at ar;(repeat' first|intro hb hp|(refine LW.is ?_;first|apply ag;rfl;apply cD;rfl;rfl;omega;(first|exact g1|exact h1);(first|exact g4|exact h4)|apply ag;rfl;apply bc (es:=cur.map ai) (k:=1) (i:=j) (f:=0);rfl;rfl;exact T;exact C;exact ph gy;rfl|apply dR (es:=cur.map ai) (i:=i) (e:= [.sl (y.map A3.c)]) (er:=(cur.set i y).map ai);rfl;rfl;rfl;rfl;rfl;rfl;exact T;exact C;exact a9;exact Jb|apply iZ (f:=fD);rfl;exact hG;rfl;exact ar;rfl;exact(.cons U .nil);rfl;exact sy;rfl)|refine am ?_|refine al ?_ ?_|fail)
   refine hK _ (cur.set i y,i+1,j+1) (hD.keep hx hq) oD ?_;exact Wk.mk' kK (wG (wG F2)) B2 .nil
def Ks{gs:aw}{s:A9}[A0 prog fD](p:List A3->Bool)(l:List (List A3))(T:l≠ [])(hl:l.length<=1000000)
 (hc: ∀y∈l,CallG gs prog fD ([.iv (.sl (y.map A3.c))] ++ [.ptr 1012 0]) (nI s) (nI s) [] (aB (p y))) (ar: ∀y∈l,p y=false):
 CallG gs prog 128 [.bsh 1000 0 l.length 1,.fn fD [.ptr 1012 0]] ((1000,bu l)::nI s) ((1002,bu l)::(1000,⟨35,.l []⟩)::nI s) [] (.bsh 1002 0 l.length 1):=by
 refine iG func128 ntmps128 (fun w0 E0 hG=> ?_);have hk:=jB l;have aR:(l.map ai).flatten.length=l.length*1:=by rw[ao _ hk,lM]
 have ad:(l.map ai).flatten≠ []:=lz T;have a0:0<l.length:=gU T;have kx:=za (gs:=gs) (s:=s) p l T hl hc;rw[jE ar] at kx;(repeat' first|intro hb hp|apply ac [];rfl;exact hG;exact kx;exact fS;exact B2;rfl;exact nX T;exact uC;rfl|refine am ?_|refine al ?_ ?_|fail)
 all_goals(refine L.openRow 4 (id:=1000) (n:=l.length) (k:=1) U U (.inl ad) C (fun cap a1 a2=> ?_))
 all_goals(apply cu 4 1002 (k:=1) (n:=l.length);rfl;rfl;rfl;exact hk;exact lM _;omega;(rw[aR];omega))
 all_goals(apply L.ends;rfl;rfl;exact fR;exact Wk.mk' kK .nil B3 .nil)
def L.tail{ι:Type}(st:ι->St)(I:ι->Prop){c:C7}{T:St}{X0 X:Act->World->Prop}(hm:(∀i st',I i->Wk c st' (st i)->L c st' X)->L c T X0)(ht: ∀i,I i->L c (st i) X):L c T X0:=hm fun i st' hi hw=>L.wk hw (ht i hi)
def gAi(K:Nat):List (List A3)->AV
 | [] => .iv (.sl [])
 |x::l=> .bsh K 0 (l.length+1) 1
def Ia{K:Nat}{l:List (List A3)}(h:l≠ []):gAi K l= .bsh K 0 l.length 1:=by
 cases l with
 |nil=>exact absurd U h
 |cons a l=>rfl
def HR{gs:aw}:CallG gs prog 176 [.iv (.sl []),.any] [] [] [] (aI (-1)):=by
 refine iG func176 ntmps176 (fun w0 E0 T=> ?_);refine wz ?_;refine ae (ι:=Nat) (fun i=>⟨[(8,aI 0),(7,aI 0),(0,.iv (.sl []))],[],[]⟩) (fun i=>i) (fun i=>True) (i0:=0) ?_ trivial ?_
 · exact Wk.mk' kK (wG (wG F1)) .nil .nil
 intro i _ K hK;refine wz ?_;all_goals exact L.ends U U sE wK
def Iy{gs:aw}:CallG gs prog 128 [.iv (.sl []),.any] [] [] [] (.iv (.sl [])):=by
 have T:=HR (gs:=gs);refine iG func128 ntmps128 (fun w0 E0 hG=> ?_);(repeat' first|intro hb hp|refine ac [] rfl hG T (.cons fR (.cons (Sub.any _) .nil)) .nil U U U U ?_|refine am ?_|refine al ?_ ?_|fail)
 all_goals exact L.ends U U fR wK
def Ix{gs:aw}{s:A9}[A0 prog fD](p:List A3->Bool)(l:List (List A3))(ad:l≠ [])(hl:l.length<=1000000)
 (hc: ∀y∈l,CallG gs prog fD ([.iv (.sl (y.map A3.c))] ++ [.ptr 1012 0]) (nI s) (nI s) [] (aB (!p y))) (ar:l.filter p≠ []):
 CallG gs prog 128 [.bsh 1000 0 l.length 1,.fn fD [.ptr 1012 0]] ((1000,bu l)::nI s) ((1002,bu (l.filter p))::(1000,⟨35,.l []⟩)::nI s) [] (.bsh 1002 0 (l.filter p).length 1):=by
 have e:l.filter (fun x=> !(!p x))=l.filter p:=by simp
 by_cases T: ∀y∈l,(!p y)=false
 · have e2:l.filter p=l:=List.filter_eq_self.2 (fun y hy=>by simpa using T y hy);rw[e2];exact Ks (fun x=> !p x) l ad hl hc T
 · obtain⟨i,x,h1,h2,h3⟩:=jf T;have:=Iv (fun x=> !p x) l ad hl hc (by rw[e];exact ar) i x h1 h2 h3;rw[e] at this;exact this
def Di{gs:aw}{s:A9}[A0 prog fD](p:List A3->Bool)(l:List (List A3))(T:l≠ [])(hl:l.length<=1000000)
 (hc: ∀y∈l,CallG gs prog fD ([.iv (.sl (y.map A3.c))] ++ [.ptr 1012 0]) (nI s) (nI s) [] (aB (!p y))) (ad:l.filter p= []):
 CallG gs prog 128 [.bsh 1000 0 l.length 1,.fn fD [.ptr 1012 0]] ((1000,bu l)::nI s) ((1000,⟨35,.l []⟩)::nI s) [] (.iv (.sl [])):=by
 have e:l.filter (fun x=> !(!p x))=l.filter p:=by simp
 by_cases ar: ∀y∈l,(!p y)=false
 · have e2:l.filter p=l:=List.filter_eq_self.2 (fun y hy=>by simpa using ar y hy);exact absurd (e2.symm.trans ad) T
 · obtain⟨i,x,h1,h2,h3⟩:=jf ar;exact Iw (fun x=> !p x) l T hl hc (by rw[e];exact ad) i x h1 h2 h3
end Go.Proofs.Y
namespace Go.Abs
section
variable {P:Program}{c:C7}{st:St}{ops:Array Oper}{Q:Exit->Act->World->Prop}{rest:List Oper}{o:Oper}
def bm1{L:List Nat}{id:Nat}{t:TypeId}{xs:List IV}: [(id,A5.mk t (.r xs 0))].all (fun p=>AV.mentsIn L p.2.cs)=true:=by simp[AV.mentsIn_iv,AV.mentsIn]
def bo1{id:Nat}{t:TypeId}{xs:List IV}{b:A5}(h:xs≠ []):dV [] [(id,⟨t,.r xs 0⟩)] [(id,b)] =true:=by
 cases xs with
 |nil=>exact absurd U h
 |cons x l=>simp[dV,keys]
end
end Go.Abs
namespace Go.Proofs.Y
open Go.Abs Go.Proofs.Tryz
attribute [local irreducible] L Code.wp bodyPost Exit.then Exit.inBlock
def Cg{gs:aw}(c:B0)(s:A9)(ht:c.ts≠ [])(hi:c.is≠ [])(ar:c.ts.length<=3)(aR:c.is.length<=4)(k1:(s.kind==1)=false)(k2:(s.kind==2)=false)(k3:(s.kind==3)=false):
 CallG gs prog 99 [.agg (c.c.map .iv),.agg (s.cs.map .iv)] [] [] [] (.agg (c.c.map .iv)):=by
 refine iG func99 ntmps99 (fun w0 E0 hG=> ?_);have T: ∀e∈c.ts.map A4.c,e.length=2:=by intro e he;obtain⟨t,_,rfl⟩:=mM he;rfl
 have ad: ∀e∈c.is.map A7.c,e.length=3:=by intro e he;obtain⟨t,_,rfl⟩:=mM he;rfl
 have q1:=dJ (c.ts.map A4.c) T (by simpa using ht) (by rw[lM];simp[maxLen];omega) (by rw[lM];omega);have q2:=jg (c.is.map A7.c) ad (by simpa using hi) (by rw[lM];simp[maxLen];omega) (by rw[lM];omega);refine wz ?_;all_goals(apply L.pubB 11 4 (es:=c.ts.map A4.c) (k:=2);rfl;rfl;exact T;decide;exact(by simpa using ht);rfl;rfl;exact cN _ _;rfl;exact .cons .here (.cons .same .nil))
 all_goals(apply L.pubB 14 4 (es:=c.is.map A7.c) (k:=3);rfl;rfl;exact ad;decide;exact(by simpa using hi);rfl;rfl;exact cN _ _;rfl;exact .cons .same (.cons .here .nil))
 all_goals refine aU ?_
 all_goals rfl
def zD{gs:aw}(c:B0)(s:A9)(ht:c.ts≠ [])(hi:c.is≠ [])(a2:c.ts.length<=3)(a3:c.is.length<=4)(k1:(s.kind==1)=true)(hf:Falls (fun x=>decide (x<s.name)) (c.ts.map A4.n)):
 CallG gs prog 99 [.agg (c.c.map .iv),.agg (s.cs.map .iv)] [] [] [] (.agg ((B0.mk (c.ts.take (aX (c.ts.map A4.n) s.name)++⟨s.name,s.cols⟩::c.ts.drop (aX (c.ts.map A4.n) s.name)) c.is).c.map .iv)):=by
 refine iG func99 ntmps99 (fun w0 E0 hG=> ?_);have T: ∀e∈c.ts.map A4.c,e.length=2:=by intro e he;obtain⟨t,_,rfl⟩:=mM he;rfl
 have ad: ∀e∈c.is.map A7.c,e.length=3:=by intro e he;obtain⟨t,_,rfl⟩:=mM he;rfl
 have aR:aX (c.ts.map A4.n) s.name<=c.ts.length:=by have:=jc (fun x=>decide (x<s.name)) (c.ts.map A4.n);rwa [lM] at this
 have q1:=dJ (c.ts.map A4.c) T (by simpa using ht) (by rw[lM];simp[maxLen];omega) (by rw[lM];omega);have q2:=jg (c.is.map A7.c) ad (by simpa using hi) (by rw[lM];simp[maxLen];omega) (by rw[lM];omega);have q4:=sQ (c.ts.map A4.c) [S s.name,.sl (s.cols.map B8.c)] (aX (c.ts.map A4.n) s.name) T U (by simpa using ht) (by rw[lM];exact aR) (by rw[lM];simp[maxLen];omega) (by rw[lM];omega);rw[lM] at q1 q2 q4;have hE:(c.ts.map A4.c).take (aX (c.ts.map A4.n) s.name)++ [S s.name,.sl (s.cols.map B8.c)]::(c.ts.map A4.c).drop (aX (c.ts.map A4.n) s.name)=(c.ts.take (aX (c.ts.map A4.n) s.name)++⟨s.name,s.cols⟩::c.ts.drop (aX (c.ts.map A4.n) s.name):List A4).map A4.c:=by simp[List.map_take,List.map_drop,A4.c]
 rw[hE] at q4;have a0: ∀e∈(c.ts.take (aX (c.ts.map A4.n) s.name)++⟨s.name,s.cols⟩::c.ts.drop (aX (c.ts.map A4.n) s.name):List A4).map A4.c,e.length=2:=by intro e he;obtain⟨t,_,rfl⟩:=mM he;rfl
 have a1:((c.ts.take (aX (c.ts.map A4.n) s.name)++⟨s.name,s.cols⟩::c.ts.drop (aX (c.ts.map A4.n) s.name):List A4).map A4.c).length=c.ts.length+1:=by simp;omega
 have q3:=(EK (gs:=gs) c.ts s.name ht C hf).sws [(1000,11)] (args2:= [.bsh 11 0 c.ts.length 2,aS s.name,.fn 135 []]) (bx2:= [(11,⟨57,.r (c.ts.map A4.c).flatten 0⟩)]) (bx2':= [(11,⟨57,.r (c.ts.map A4.c).flatten 0⟩)]) (tk2':= []) (res2:= .tup [aI (aX (c.ts.map A4.n) s.name:Int),aB (bM (c.ts.map A4.n) s.name)]) U U U U U;have ar:(c.ts.map A4.c).flatten≠ []:=aD T dD (by simpa using ht);(repeat' first|intro hb hp|apply ac [];rfl;exact hG;exact q3;exact fS;exact B1;rfl;exact bo1 ar;exact bm1;rfl|(refine LW.is ?_;first|apply nW (es:= [[S s.name,.sl (s.cols.map B8.c)]]);rfl;rfl;rfl;rfl;rfl;rfl;rfl;rfl;rfl|apply nV;rfl;exact q4;rfl;rfl;rfl;exact ar;exact cN _ _;rfl;rfl;rfl)|refine am ?_|refine al ?_ ?_|fail)
 all_goals(apply L.pubB 38 4 (es:=(c.ts.take (aX (c.ts.map A4.n) s.name)++⟨s.name,s.cols⟩::c.ts.drop (aX (c.ts.map A4.n) s.name):List A4).map A4.c) (k:=2);rfl;rfl;exact a0;decide;exact sP;exact a1;rfl;exact cN _ _;rfl;exact .cons .here (.cons .same .nil))
 all_goals(apply L.pubB 14 4 (es:=c.is.map A7.c) (k:=3);rfl;rfl;exact ad;decide;exact(by simpa using hi);exact lM _;rfl;exact cN _ _;rfl;exact .cons .same (.cons .here .nil))
 all_goals refine aU ?_
 all_goals rfl
def ET{gs:aw}(c:B0)(s:A9)(ht:c.ts≠ [])(hi:c.is≠ [])(a2:c.ts.length<=3)(a3:c.is.length<=4)(k1:(s.kind==1)=false)(k2:(s.kind==2)=true)(hf:Falls (fun x=>decide (x<s.name)) (c.is.map A7.n)):
 CallG gs prog 99 [.agg (c.c.map .iv),.agg (s.cs.map .iv)] [] [] [] (.agg ((B0.mk c.ts (c.is.take (aX (c.is.map A7.n) s.name)++⟨s.name,s.table,s.col⟩::c.is.drop (aX (c.is.map A7.n) s.name))).c.map .iv)):=by
 refine iG func99 ntmps99 (fun w0 E0 hG=> ?_);have ad: ∀e∈c.ts.map A4.c,e.length=2:=by intro e he;obtain⟨t,_,rfl⟩:=mM he;rfl
 have T: ∀e∈c.is.map A7.c,e.length=3:=by intro e he;obtain⟨t,_,rfl⟩:=mM he;rfl
 have aR:aX (c.is.map A7.n) s.name<=c.is.length:=by have:=jc (fun x=>decide (x<s.name)) (c.is.map A7.n);rwa [lM] at this
 have q1:=dJ (c.ts.map A4.c) ad (by simpa using ht) (by rw[lM];simp[maxLen];omega) (by rw[lM];omega);have q2:=jg (c.is.map A7.c) T (by simpa using hi) (by rw[lM];simp[maxLen];omega) (by rw[lM];omega);have q4:=AY (c.is.map A7.c) [S s.name,S s.table,S s.col] (aX (c.is.map A7.n) s.name) T U (by simpa using hi) (by rw[lM];exact aR) (by rw[lM];simp[maxLen];omega) (by rw[lM];omega);rw[lM] at q1 q2 q4;have hE:(c.is.map A7.c).take (aX (c.is.map A7.n) s.name)++ [S s.name,S s.table,S s.col]::(c.is.map A7.c).drop (aX (c.is.map A7.n) s.name)=(c.is.take (aX (c.is.map A7.n) s.name)++⟨s.name,s.table,s.col⟩::c.is.drop (aX (c.is.map A7.n) s.name):List A7).map A7.c:=by simp[List.map_take,List.map_drop,A7.c]
 rw[hE] at q4;have a0: ∀e∈(c.is.take (aX (c.is.map A7.n) s.name)++⟨s.name,s.table,s.col⟩::c.is.drop (aX (c.is.map A7.n) s.name):List A7).map A7.c,e.length=3:=by intro e he;obtain⟨t,_,rfl⟩:=mM he;rfl
 have a1:((c.is.take (aX (c.is.map A7.n) s.name)++⟨s.name,s.table,s.col⟩::c.is.drop (aX (c.is.map A7.n) s.name):List A7).map A7.c).length=c.is.length+1:=by simp;omega
 have q3:=(KB (gs:=gs) c.is s.name hi C hf).sws [(1000,14)] (args2:= [.bsh 14 0 c.is.length 3,aS s.name,.fn 139 []]) (bx2:= [(14,⟨67,.r (c.is.map A7.c).flatten 0⟩)]) (bx2':= [(14,⟨67,.r (c.is.map A7.c).flatten 0⟩)]) (tk2':= []) (res2:= .tup [aI (aX (c.is.map A7.n) s.name:Int),aB (bM (c.is.map A7.n) s.name)]) U U U U U;have ar:(c.is.map A7.c).flatten≠ []:=aD T dD (by simpa using hi);(repeat' first|intro hb hp|apply ac [];rfl;exact hG;exact q3;exact fS;exact B1;rfl;exact bo1 ar;exact bm1;rfl|(refine LW.is ?_;first|apply nW (es:= [[S s.name,S s.table,S s.col]]);rfl;rfl;rfl;rfl;rfl;rfl;rfl;rfl;rfl|apply nV;rfl;exact q4;rfl;rfl;rfl;exact ar;exact cN _ _;rfl;rfl;rfl)|refine am ?_|refine al ?_ ?_|fail)
 all_goals(apply L.pubB 11 4 (es:=c.ts.map A4.c) (k:=2);rfl;rfl;exact ad;decide;exact(by simpa using ht);exact lM _;rfl;exact cN _ _;rfl;exact .cons .here (.cons .same .nil))
 all_goals(apply L.pubB 61 4 (es:=(c.is.take (aX (c.is.map A7.n) s.name)++⟨s.name,s.table,s.col⟩::c.is.drop (aX (c.is.map A7.n) s.name):List A7).map A7.c) (k:=3);rfl;rfl;exact a0;decide;exact sP;exact a1;rfl;exact cN _ _;rfl;exact .cons .same (.cons .here .nil))
 all_goals refine aU ?_
 all_goals rfl
end Go.Proofs.Y
