/- Several texts in one, each with its own sentence ahead of it. Conditions: each one says its own. -/
import Derived.Test.YthcjohcakdnmmaaGreatDoorZS19
import Derived.Test.YthcjohcakdnmmaaGreatDoorZS24
import Derived.Test.YthcjohcakdnmmaaGreatDoorZS26
set_option linter.all false
namespace Go.Proofs.YthcjohcakdnmmaaGreatDoor
open Go.Abs
set_option maxRecDepth 100000
attribute [local irreducible] L Code.wp bodyPost Exit.then Exit.inBlock
set_option linter.unusedVariables false
set_option linter.unusedSimpArgs false
structure Hid (p:Prop):Prop where
 out:p
theorem all_step{α:Type}(p:α×Nat→Bool){l:List α}{i:Nat}{x:α}(h:l[i]?=some x):(l.take (i+1)).zipIdx.all p=((l.take i).zipIdx.all p && p (x,i)):=by
 have hi:=(List.getElem?_eq_some_iff.1 h).1
 rw[List.take_add_one,h,List.zipIdx_append]
 simp only[Option.toList_some,List.zipIdx_singleton,List.all_append,List.all_cons,List.all_nil,Bool.and_true,List.length_take]
 rw[Nat.min_eq_left (by omega),Nat.zero_add]
set_option maxRecDepth 100000 in
set_option maxHeartbeats 8000000 in
theorem isTable_any{gs:Globs}(m:Int)(hgm:maxG m∈gs)(t:Tab)(hok:t.Ok):CallG gs Tryz.prog 14 [.agg (t.c.map .iv)] [] [] [] (aB (goodTabM t)):=by
 have kn:=isName_any m hgm t.n hok.n
 obtain⟨hn,hl,hcn⟩:=hok
 rw[←isTabR_eq,isTabR]
 refine CallG.intro _ Tryz.func14 rfl Tryz.ntmps14 rfl (fun w0 E0 hG=> ?_)
 have e1:decide ((0:Int)<((t.cols.map Col.c).length:Int))=decide (0<t.cols.length):=decide_eq_decide.2 (by rw[List.length_map];omega)
 replace e1:=Hid.mk e1
 have e2:decide (((t.cols.map Col.c).length:Int)<5)=decide (t.cols.length<5):=decide_eq_decide.2 (by rw[List.length_map];omega)
 replace e2:=Hid.mk e2
 generalize hb0:(namedM t.n && (decide (0<t.cols.length) && decide (t.cols.length<5)))=b0
 replace hb0:=Hid.mk hb0
 generalize namedM t.n=n0 at*
 apply L.cutK (ι:=Unit) (fun _=>⟨[(24,aI 0),(23,aI ((t.cols.map Col.c).length:Int)),(22,.iv (.sl (t.cols.map Col.c))),(1,.ptr 1 0),(3,aB b0)],[(1,⟨47,.l [aS t.n,.iv (.sl (t.cols.map Col.c))]⟩)],[]⟩) (fun _=>True)
 · intro hK
   (repeat' (first|refine wk1 ?_|refine wk2 (fun hb hp=> ?_) (fun hb hp=> ?_)|fail))
   all_goals(refine hK _ () trivial ?_;refine Wk.mk' (by intro id h;cases h) (.cons rfl (Sub.refl _) (.cons rfl (Sub.refl _) (.cons rfl (Sub.refl _) (.cons rfl (Sub.refl _) (.cons rfl (Sub.of_eq (congrArg aB ?_)) .nil))))) (.cons rfl rfl (Subs.refl _) .nil) .nil)
   all_goals(rw[←hb0.out,←e1.out,←e2.out];clear e1 e2 hb0 hK kn;(first|(simp only[*,Bool.true_and,Bool.and_true,Bool.false_or,Bool.or_false,Bool.or_true,Bool.true_or,Bool.false_and,Bool.and_false,Bool.not_true,Bool.not_false,decide_true,decide_false];done)|(simp only[*,Bool.true_and,Bool.and_true,Bool.false_or,Bool.or_false,Bool.or_true,Bool.true_or,Bool.false_and,Bool.and_false,Bool.not_true,Bool.not_false,decide_true,decide_false];simp;done)|(simp[*];done)|(simp_all;done)))
 rintro u0 _
 try dsimp only
 clear e1 e2 hb0 kn
 refine L.loopP (ι:=Nat) (fun i=>⟨[(24,aI (i:Int)),(23,aI ((t.cols.map Col.c).length:Int)),(22,.iv (.sl (t.cols.map Col.c))),(1,.ptr 1 0),(3,aB (b0 && (t.cols.take i).zipIdx.all (fun p=>colR t p.2 p.1)))],[(1,⟨47,.l [aS t.n,.iv (.sl (t.cols.map Col.c))]⟩)],[]⟩) (fun i=>t.cols.length - i) (fun i=>True) (i0:=0) ?_ trivial ?_
 · refine Wk.mk' (by intro id h;cases h) (.cons rfl (Sub.refl _) (.cons rfl (Sub.refl _) (.cons rfl (Sub.refl _) (.cons rfl (Sub.refl _) (.cons rfl (Sub.of_eq (congrArg aB ?_)) .nil))))) (.cons rfl rfl (Subs.refl _) .nil) .nil
   simp only[List.take_zero,List.zipIdx_nil,List.all_nil,Bool.and_true]
 intro i _ K hK
 cases hx:t.cols[i]? with
 |none=>
  have hlt:=ltF (l:=t.cols.map Col.c) (getFN hx)
  rw[take_all hx]
  clear hK
  generalize (b0 && t.cols.zipIdx.all (fun p=>colR t p.2 p.1))=b1
  (repeat' (first|refine wk1 ?_|refine wk2 (fun hb hp=> ?_) (fun hb hp=> ?_)|fail))
  all_goals refine wkf ?_
  all_goals rfl
 |some y=>
  have hlt:=ltT (l:=t.cols.map Col.c) (getF (f:=Col.c) hx)
  have hlt':=ltN hx
  have g1:(t.cols.map Col.c)[((i:Nat):Int).toNat]?=some [S y.n,I y.t,.im (.bool y.m)]:=by rw[Int.toNat_natCast,List.getElem?_map,hx];rfl
  have ky:=isName_any m hgm y.n (hcn y (List.mem_of_getElem? hx))
  have kf:=colOf_any t y.n hl
  have hst:=all_step (fun p=>colR t p.2 p.1) hx
  generalize hB:(b0 && (t.cols.take i).zipIdx.all (fun p=>colR t p.2 p.1))=B
  have hst2:(b0 && (t.cols.take (i+1)).zipIdx.all (fun p=>colR t p.2 p.1))=(B && colR t i y):=by rw[hst,←Bool.and_assoc,hB]
  rw[colR] at hst2
  clear hst hB hcn
  generalize namedM y.n=nb at*
  generalize colM t y.n=cm at*
  cases B with
  |false=>
   clear ky kf
   replace hst2:=Hid.mk hst2
   (repeat' (first|refine wk1 ?_|refine wk2 (fun hb hp=> ?_) (fun hb hp=> ?_)|fail))
   refine hK _ (i+1) trivial (by omega) (Wk.mk' (by intro id h;cases h) (.cons rfl (Sub.refl _) (.cons rfl (Sub.refl _) (.cons rfl (Sub.refl _) (.cons rfl (Sub.refl _) (.cons rfl (Sub.of_eq (congrArg aB ?_)) .nil))))) (.cons rfl rfl (Subs.refl _) .nil) .nil)
   rw[hst2.out];rfl
  |true=>
  cases nb with
  |false=>
   clear kf
   replace hst2:=Hid.mk hst2
   (repeat' (first|refine wk1 ?_|refine wk2 (fun hb hp=> ?_) (fun hb hp=> ?_)|fail))
   refine hK _ (i+1) trivial (by omega) (Wk.mk' (by intro id h;cases h) (.cons rfl (Sub.refl _) (.cons rfl (Sub.refl _) (.cons rfl (Sub.refl _) (.cons rfl (Sub.refl _) (.cons rfl (Sub.of_eq (congrArg aB ?_)) .nil))))) (.cons rfl rfl (Subs.refl _) .nil) .nil)
   rw[hst2.out];rfl
  |true=>
  cases t1:y.t==1 with
  |false=>
   cases t2:y.t==2 with
   |false=>
    rw[t1,t2] at hst2
    replace hst2:=Hid.mk hst2
    clear kf
    (repeat' (first|refine wk1 ?_|refine wk2 (fun hb hp=> ?_) (fun hb hp=> ?_)|fail))
    refine hK _ (i+1) trivial (by omega) (Wk.mk' (by intro id h;cases h) (.cons rfl (Sub.refl _) (.cons rfl (Sub.refl _) (.cons rfl (Sub.refl _) (.cons rfl (Sub.refl _) (.cons rfl (Sub.of_eq (congrArg aB ?_)) .nil))))) (.cons rfl rfl (Subs.refl _) .nil) .nil)
    rw[hst2.out];rfl
   |true=>
    cases q:cm==(i:Int) with
    |false=>
     rw[t1,t2,q] at hst2
     replace hst2:=Hid.mk hst2
     (repeat' (first|refine wk1 ?_|refine wk2 (fun hb hp=> ?_) (fun hb hp=> ?_)|fail))
     refine hK _ (i+1) trivial (by omega) (Wk.mk' (by intro id h;cases h) (.cons rfl (Sub.refl _) (.cons rfl (Sub.refl _) (.cons rfl (Sub.refl _) (.cons rfl (Sub.refl _) (.cons rfl (Sub.of_eq (congrArg aB ?_)) .nil))))) (.cons rfl rfl (Subs.refl _) .nil) .nil)
     rw[hst2.out];first|rfl|simp
    |true=>
     cases q0:decide ((0:Int)<(i:Int)) with
     |false=>
      rw[t1,t2,q,q0] at hst2
      replace hst2:=Hid.mk hst2
      (repeat' (first|refine wk1 ?_|refine wk2 (fun hb hp=> ?_) (fun hb hp=> ?_)|fail))
      refine hK _ (i+1) trivial (by omega) (Wk.mk' (by intro id h;cases h) (.cons rfl (Sub.refl _) (.cons rfl (Sub.refl _) (.cons rfl (Sub.refl _) (.cons rfl (Sub.refl _) (.cons rfl (Sub.of_eq (congrArg aB ?_)) .nil))))) (.cons rfl rfl (Subs.refl _) .nil) .nil)
      rw[hst2.out];first|rfl|simp
     |true=>
      rw[t1,t2,q,q0] at hst2
      replace hst2:=Hid.mk hst2
      (repeat' (first|refine wk1 ?_|refine wk2 (fun hb hp=> ?_) (fun hb hp=> ?_)|fail))
      refine hK _ (i+1) trivial (by omega) (Wk.mk' (by intro id h;cases h) (.cons rfl (Sub.refl _) (.cons rfl (Sub.refl _) (.cons rfl (Sub.refl _) (.cons rfl (Sub.refl _) (.cons rfl (Sub.of_eq (congrArg aB ?_)) .nil))))) (.cons rfl rfl (Subs.refl _) .nil) .nil)
      rw[hst2.out];first|rfl|simp
  |true=>
   cases q:cm==(i:Int) with
   |false=>
    rw[t1,q] at hst2
    replace hst2:=Hid.mk hst2
    (repeat' (first|refine wk1 ?_|refine wk2 (fun hb hp=> ?_) (fun hb hp=> ?_)|fail))
    refine hK _ (i+1) trivial (by omega) (Wk.mk' (by intro id h;cases h) (.cons rfl (Sub.refl _) (.cons rfl (Sub.refl _) (.cons rfl (Sub.refl _) (.cons rfl (Sub.refl _) (.cons rfl (Sub.of_eq (congrArg aB ?_)) .nil))))) (.cons rfl rfl (Subs.refl _) .nil) .nil)
    rw[hst2.out];first|rfl|simp
   |true=>
    cases q0:decide ((0:Int)<(i:Int)) with
    |false=>
     rw[t1,q,q0] at hst2
     replace hst2:=Hid.mk hst2
     (repeat' (first|refine wk1 ?_|refine wk2 (fun hb hp=> ?_) (fun hb hp=> ?_)|fail))
     refine hK _ (i+1) trivial (by omega) (Wk.mk' (by intro id h;cases h) (.cons rfl (Sub.refl _) (.cons rfl (Sub.refl _) (.cons rfl (Sub.refl _) (.cons rfl (Sub.refl _) (.cons rfl (Sub.of_eq (congrArg aB ?_)) .nil))))) (.cons rfl rfl (Subs.refl _) .nil) .nil)
     rw[hst2.out];first|rfl|simp
    |true=>
     rw[t1,q,q0] at hst2
     replace hst2:=Hid.mk hst2
     (repeat' (first|refine wk1 ?_|refine wk2 (fun hb hp=> ?_) (fun hb hp=> ?_)|fail))
     refine hK _ (i+1) trivial (by omega) (Wk.mk' (by intro id h;cases h) (.cons rfl (Sub.refl _) (.cons rfl (Sub.refl _) (.cons rfl (Sub.refl _) (.cons rfl (Sub.refl _) (.cons rfl (Sub.of_eq (congrArg aB ?_)) .nil))))) (.cons rfl rfl (Subs.refl _) .nil) .nil)
     rw[hst2.out];first|rfl|simp
end Go.Proofs.YthcjohcakdnmmaaGreatDoor
namespace Go.Abs
open Go.RowKit (Below)
set_option linter.unusedVariables false
theorem CallG.pubR{gs:Globs}{P:Program}{f:FuncId}{args:List AV}{k n:Nat}{ty:TypeId}{es:List (List IV)}(hk: ∀e∈es,e.length=k)(hk0:0<k)(hne:es≠ [])(hn:es.length=n)
 (h:CallG gs P f args [] [(1000,⟨ty,.r es.flatten 0⟩)] [] (.bsh 1000 0 n k)):CallG gs P f args [] [] [] (.iv (.sl es)):=by
 intro E w us h1 h2 h3
 refine(h E w us h1 h2 h3).mono ?_
 rintro e w' ⟨u,E',he,hu,hh⟩
 have:=L.pubS 1000 0 (c:=⟨1,w,E,keys []⟩) (st:=⟨[(0,.bsh 1000 0 n k)],[(1000,⟨ty,.r es.flatten 0⟩)],[]⟩) (X:=fun a w''=> ∃E2,RepA E2 w'' (.iv (.sl es)) (a.tmps.getD 0 undef)∧HInv ⟨0,w,E,keys []⟩ E2 [] [] w'') (v':= .iv (.sl es)) rfl rfl hk hk0 hne hn rfl .here (by
  rintro a w'' ⟨E2,hi⟩
  refine⟨E2,hi.slot 0 _ rfl,?_⟩
  have hi':=hi.heap.wk (st':=⟨[],[],[]⟩) (Wk.mk' (fun id hid=>by cases hid) .nil .nil .nil)
  exact⟨hi'.box,hi'.tok,hi'.bb,hi'.tt,hi'.bt,hi'.own,hi'.ownt,hi'.new,hi'.old,hi'.ins,hi'.kept⟩) ({tmps:= #[u],defers:= []}:Act) w' ⟨E',⟨rfl,rfl,(fun s v h=>by
   by_cases e:s=0
   · subst e;rw[lookup_cons_eq] at h;cases h;exact hu
   · rw[lookup_cons_ne e] at h;cases h),⟨hh.box,hh.tok,hh.bb,hh.tt,hh.bt,hh.own,hh.ownt,hh.new,hh.old,hh.ins,hh.kept⟩⟩⟩
 obtain⟨E2,hE1,hE2⟩:=this
 exact⟨u,E2,he,hE1,hE2⟩
end Go.Abs
namespace Go.Proofs.YthcjohcakdnmmaaGreatDoor
open Go.Abs
set_option maxRecDepth 100000
attribute [local irreducible] L Code.wp bodyPost Exit.then Exit.inBlock
set_option linter.unusedVariables false
set_option linter.unusedSimpArgs false
def oAv{α:Type}(N k:Nat):List α→AV
 | [] => .nils
 |_::l=> .bsh N 0 (l.length+1) k
def oBx{α:Type}(N:Nat)(t:TypeId)(f:α→List IV):List α→List (Nat×Box)
 | [] => []
 |x::l=> [(N,⟨t,.r ((x::l).map f).flatten 0⟩)]
theorem exl8(x:Ex):x.c.length=8:=by rw[Ex.c_cs];rfl
theorem oneOf{k:Nat}{x:List IV}(h:x.length=k): ∀e∈ [x],e.length=k:=fun e he=>by rw[List.mem_singleton.1 he];exact h
theorem flatK_ne{α:Type}{f:α→List IV}{k:Nat}(hf: ∀x,(f x).length=k)(hk:0<k)(x:α)(l:List α):((x::l).map f).flatten≠ []:=fun e=>by
 have:=congrArg List.length e
 rw[List.map_cons,List.flatten_cons,List.length_append,hf] at this
 simp only[List.length_nil] at this;omega
theorem map_len{α:Type}{f:α→List IV}{k:Nat}(hf: ∀x,(f x).length=k)(l:List α): ∀e∈l.map f,e.length=k:=fun e he=>by obtain⟨y,_,rfl⟩:=List.mem_map.1 he;exact hf y
theorem take_more{α:Type}{f:α→List IV}{n:Nat}(l:List α)(x:α)(hn:n=l.length):(l.map f).take n++ [f x] =(l++ [x]).map f:=by
 rw[List.take_of_length_le (by rw[List.length_map,hn];exact Nat.le_refl _),List.map_append];rfl
theorem takeA{α:Type}{l:List α}{i:Nat}{x:α}(h:l[i]?=some x):l.take (i+1)=l.take i++ [x]:=by rw[List.take_add_one,h];rfl
def exsSt(l F:List Ex)(i:Nat):St:=⟨[(8,aI (i:Int)),(7,aI ((l.map Ex.c).length:Int)),(6,.iv (.sl (l.map Ex.c))),(3,oAv 1000 8 F)],oBx 1000 34 Ex.c F,[]⟩
set_option maxHeartbeats 8000000 in
theorem copyEs_of{gs:Globs}(l:List Ex)(hl:l.length*104≤140737488355328)(ih: ∀x∈l,CallG gs Tryz.prog 21 [.iv (.sl (x.l.map Ex.c))] [] [] [] (.iv (.sl (x.l.map Ex.c)))):
 CallG gs Tryz.prog 21 [.iv (.sl (l.map Ex.c))] [] (oBx 1000 34 Ex.c l) [] (oAv 1000 8 l):=by
 refine CallG.intro _ Tryz.func21 rfl Tryz.ntmps21 rfl (fun w0 E0 hG=> ?_)
 (repeat' (first|refine wk1 ?_|refine wk2 (fun hb hp=> ?_) (fun hb hp=> ?_)|fail))
 refine L.loopP (ι:=Nat×List Ex) (fun i=>exsSt l i.2 i.1) (fun i=>l.length - i.1) (fun i=>l.take i.1=i.2) (i0:=(0,[])) ?_ rfl ?_
 · exact wkk
 rintro ⟨i,F⟩ hI K hK
 dsimp only at hI hK
 unfold exsSt at hK⊢
 cases hx:l[i]? with
 |none=>
  have hlt:=ltF (l:=l.map Ex.c) (getFN hx)
  rw[List.take_of_length_le (List.getElem?_eq_none_iff.1 hx)] at hI
  clear hK
  subst hI
  cases l with
  |nil=>
   dsimp only[oAv,oBx]
   (repeat' (first|refine wk1 ?_|refine wk2 (fun hb hp=> ?_) (fun hb hp=> ?_)|fail))
   all_goals(apply L.ends;exact rfl;exact rfl;exact Sub.of_eq rfl;exact Wk.mk' (by intro id h;cases h) .nil .nil .nil)
  |cons y t=>
   dsimp only[oAv,oBx]
   (repeat' (first|refine wk1 ?_|refine wk2 (fun hb hp=> ?_) (fun hb hp=> ?_)|fail))
   all_goals(apply L.ends;exact rfl;exact rfl;exact Sub.of_eq rfl;exact Wk.mk' (by intro id h;cases h) .nil (.cons rfl rfl (Subs.refl _) .nil) .nil)
 |some x=>
  have hlt:=ltT (l:=l.map Ex.c) (getF (f:=Ex.c) hx)
  have hlt':=ltN hx
  have ke:=ih x (List.mem_of_getElem? hx)
  have g1:(l.map Ex.c)[((i:Nat):Int).toNat]?=some x.c:=by rw[Int.toNat_natCast,List.getElem?_map,hx];rfl
  have hst:=takeA hx
  rw[hI] at hst
  have hFl:F.length=i:=by rw[←hI,List.length_take];omega
  clear ih
  generalize hL:l.length=m at*
  have hil:i<m:=by rw[←hL];exact(List.getElem?_eq_some_iff.1 hx).1
  obtain⟨op,v,s,name,n,xl⟩:=x
  have hxc:(Ex.mk op v s name n xl).c= [I op,I v.k,I v.n,S v.s,S s,S name,I n,.sl (xl.map Ex.c)]:=Ex.c_eq ..
  have ha:=fun(t:List Ex) (hn:t.length=i)=>take_more (f:=Ex.c) (n:=i) t (.mk op v s name n xl) hn.symm
  rw[hxc] at g1
  rw[hxc] at ha
  dsimp only[Ex.l] at ke
  cases F with
  |nil=>
   have hi0:i=0:=by simpa using hFl.symm
   dsimp only[oAv,oBx]
   (repeat' (first|(refine LW.is ?_;first|(apply s_nilR 1000 (news:= [[I op,I v.k,I v.n,S v.s,S s,S name,I n,.sl (xl.map Ex.c)]]);exact rfl;exact rfl;exact rfl;exact oneOf rfl;exact List.cons_ne_nil _ _;exact(by simp[maxLen]);exact(by simp);exact rfl))|(refine DR.is ?_;first|(apply d_nilR 1000 (news:= [[I op,I v.k,I v.n,S v.s,S s,S name,I n,.sl (xl.map Ex.c)]]);exact rfl;exact rfl;exact rfl;exact oneOf rfl;exact List.cons_ne_nil _ _;exact(by simp[maxLen]);exact(by simp);exact rfl))|refine wk1 ?_|refine wk2 (fun hb hp=> ?_) (fun hb hp=> ?_)|fail))
   rw[show [[I op,I v.k,I v.n,S v.s,S s,S name,I n,.sl (xl.map Ex.c)]] = [Ex.mk op v s name n xl].map Ex.c by rw[List.map_cons,hxc];rfl]
   refine hK _ (i+1,[.mk op v s name n xl]) hst (by dsimp only;omega) ?_
   (refine Wk.mk' (by intro id h;cases h) ?_ ?_ ?_<;>repeat' (first|exact WkF.nil|exact WkB.nil|exact WkT.nil|(refine WkF.cons rfl (Sub.refl _) ?_)|(refine WkF.cons rfl (Sub.of_eq rfl) ?_)|(refine WkB.cons rfl rfl (Subs.refl _) ?_)))
  |cons y t=>
   have hyt:(y::t).length=i:=hFl
   dsimp only[oAv,oBx]
   (repeat' (first|(refine LW.is ?_;first|(apply s_appendH 1004 (es:=(y::t).map Ex.c) (n:=t.length+1) (news:= [[I op,I v.k,I v.n,S v.s,S s,S name,I n,.sl (xl.map Ex.c)]]) (er:=(y::t++ [Ex.mk op v s name n xl]).map Ex.c) (nr:=(y::t++ [Ex.mk op v s name n xl]).length);exact rfl;exact rfl;exact rfl;exact rfl;exact .inl (flatK_ne exl8 (by decide) y t);exact map_len exl8 _;exact oneOf rfl;exact(by simp);exact List.cons_ne_nil _ _;exact(by simp only[maxLen,List.length_cons,List.length_nil] at hyt⊢;omega);exact(by simp only[List.length_cons,List.length_nil] at hyt⊢;omega);exact rfl;exact(by rw[←hxc];exact take_more (y::t) _ rfl);exact(by simp)))|(refine DR.is ?_;first|(apply d_appendH 1004 (es:=(y::t).map Ex.c) (n:=t.length+1) (news:= [[I op,I v.k,I v.n,S v.s,S s,S name,I n,.sl (xl.map Ex.c)]]) (er:=(y::t++ [Ex.mk op v s name n xl]).map Ex.c) (nr:=(y::t++ [Ex.mk op v s name n xl]).length);exact rfl;exact rfl;exact rfl;exact rfl;exact .inl (flatK_ne exl8 (by decide) y t);exact map_len exl8 _;exact oneOf rfl;exact(by simp);exact List.cons_ne_nil _ _;exact(by simp only[maxLen,List.length_cons,List.length_nil] at hyt⊢;omega);exact(by simp only[List.length_cons,List.length_nil] at hyt⊢;omega);exact rfl;exact(by rw[←hxc];exact take_more (y::t) _ rfl);exact(by simp)))|refine wk1 ?_|refine wk2 (fun hb hp=> ?_) (fun hb hp=> ?_)|fail))
   refine L.swap [(1000,1004)] rfl rfl rfl rfl ?_
   refine hK _ (i+1,y::t++ [.mk op v s name n xl]) hst (by dsimp only;omega) ?_
   (refine Wk.mk' (by intro id h;cases h) ?_ ?_ ?_<;>repeat' (first|exact WkF.nil|exact WkB.nil|exact WkT.nil|(refine WkF.cons rfl (Sub.refl _) ?_)|(refine WkF.cons rfl (Sub.of_eq rfl) ?_)|(refine WkB.cons rfl rfl (Subs.refl _) ?_)))
theorem copyEs_pub{gs:Globs}{l:List Ex}(h:CallG gs Tryz.prog 21 [.iv (.sl (l.map Ex.c))] [] (oBx 1000 34 Ex.c l) [] (oAv 1000 8 l)):CallG gs Tryz.prog 21 [.iv (.sl (l.map Ex.c))] [] [] [] (.iv (.sl (l.map Ex.c))):=by
 cases l with
 |nil=>exact fun E w us h1 h2 h3=>(h E w us h1 h2 h3).mono fun e w' ⟨u,E',he,hu,hh⟩=>⟨u,E',he,Sub.nils E' w' u hu,hh⟩
 |cons y t=>exact CallG.pubR (map_len exl8 _) (by decide) (by simp) (by simp) h
theorem copyE_pub{gs:Globs}: ∀e:Ex,e.OkS→CallG gs Tryz.prog 21 [.iv (.sl (e.l.map Ex.c))] [] [] [] (.iv (.sl (e.l.map Ex.c)))
 | .mk op v s name n l,ok=>by
   obtain⟨hl,h⟩:l.length*104≤140737488355328∧ ∀x∈l,x.OkS:=by cases ok with|mk hl _ _ h=>exact⟨hl,h⟩
   exact copyEs_pub (copyEs_of l hl (fun x hx=>copyE_pub x (h x hx)))
 termination_by e=>SizeOf.sizeOf e
 decreasing_by
  have:=List.sizeOf_lt_of_mem hx
  simp;omega
theorem copyEs_any{gs:Globs}(l:List Ex)(hl:l.length*104≤140737488355328)(ok: ∀x∈l,x.OkS):CallG gs Tryz.prog 21 [.iv (.sl (l.map Ex.c))] [] (oBx 1000 34 Ex.c l) [] (oAv 1000 8 l):=copyEs_of l hl (fun x hx=>copyE_pub x (ok x hx))
end Go.Proofs.YthcjohcakdnmmaaGreatDoor
