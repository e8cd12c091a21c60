/- Lemmas towards the law. Conditions: each one says its own. -/
import Derived.Test.YtnhmohbhgocbjaaGreatDoorZU13
set_option linter.all false
set_option maxHeartbeats 64000000
set_option maxRecDepth 100000
namespace Go.Proofs.Y
open Go.Abs Go.Proofs.Tryz
attribute [local irreducible] L Code.wp bodyPost Exit.then Exit.inBlock
variable [C3]
def jn(x:Ex):x.c.length=8:=by rw[aN];rfl
def jW:List IV:= [I 0,I 0,I 0,S [],S [],S [],I 0,.sl []]
def Hc{α:Type}(l:List α)(y z:α):(l++ [y]).set l.length z=l++ [z]:=by simp
def HJ(l:List Ex)(x:Ex):(l.map Ex.c++ [jW]).set l.length x.cs=(l++ [x]).map Ex.c:=by
 have:=Hc (l.map Ex.c) jW x.cs;rw[lM] at this;rw[this,pA,List.map_cons,List.map_nil,aN]
def Lb(l:List Ex): ∀e∈l.map Ex.c++ [jW],e.length=8:=fun e he=>by
 rcases mA he with h|h
 · exact dS jn l e h
 · rw[List.mem_singleton.1 h];rfl
def LK(O:IV):E8 80 [.ptr 1001 0,.ptr 1003 0] (sB 7 [] [] .nils .nils .nils .nils (.iv O)) (fun i n=>sB 7 [] [] .nils .nils .nils (.bsh i 0 n 1) (.iv O)) (fun l=>⟨9,.r (l.map Str.c).flatten 0⟩) aq where
 gn l h:=kH (f:=Str.c) (k:=1) (fun _=>rfl) dD h
 c0 r hr:=by
  have T:=Cc (dH r hr);generalize aq r=p at*
  obtain⟨x,r1⟩:=p;dsimp only at*
  refine iG func80 ntmps80 (fun w0 E0 hG=> ?_);(repeat' first|intro hb hp|(refine DR.is ?_;first|refine d_Q ?_|refine zt 1002 (news:= [Str.c x]) U U U (cJ U) (cN _ _) (by simp[maxLen]) sP U ?_)|refine am ?_|refine al ?_ ?_|fail)
  exact aM U U wK U
 c1 r l hr hl hn:=by
  have T:=Cc (dH r hr);generalize aq r=p at*
  obtain⟨x,r1⟩:=p;dsimp only at*
  refine iG func80 ntmps80 (fun w0 E0 hG=> ?_);(repeat' first|intro hb hp|(refine DR.is ?_;first|refine d_Q ?_|apply pw 1004 (es:=l.map Str.c) (n:=l.length) (news:= [Str.c x]) (er:=(l++ [x]).map Str.c) (nr:=l.length+1);rfl;rfl;rfl;rfl;exact .inl (row_ne (f:=Str.c) (k:=1) (fun _=>rfl) dD hl);exact dS (f:=Str.c) (k:=1) (fun _=>rfl) l;exact cJ U;exact(by rw[lM];exact Nat.le_refl _);exact cN _ _;exact(by simp[maxLen];omega);exact(by simp;omega);rfl;exact ij l x;rfl)|refine am ?_|refine al ?_ ?_|fail)
  exact aM U U wK U
def LN:E8 79 [.ptr 1001 0,.ptr 1003 0] (sB 7 [] [] .nils .nils .nils .nils .nils) (fun i n=>sB 7 [] [] .nils .nils .nils .nils (.bsh i 0 n 8)) (fun l=>⟨78,.r (l.map Ex.c).flatten 0⟩) (ma 6) where
 gn l h:=kH jn dD h
 c0 r hr:=by
  have T:=sZ r hr;generalize ma 6 r=p at*
  obtain⟨x,r1⟩:=p;dsimp only at*
  have he: [jW].set 0 x.cs= [x].map Ex.c:=by rw[List.map_cons,aN];rfl
  refine iG func79 ntmps79 (fun w0 E0 hG=> ?_);(repeat' first|intro hb hp|(refine DR.is ?_;first|refine d_Q ?_|refine zt 1002 (news:= [jW]) U U U (cJ U) (cN _ _) (by simp[maxLen]) sP U ?_|refine bg U (ay (off':=0) U U dD dD U) ?_|refine dU (es:= [jW]) (i:=0) (e:=x.cs) (er:= [x].map Ex.c) U U U U U U (cJ U) U Nat.one_pos he ?_)|refine am ?_|refine al ?_ ?_|fail)
  exact aM U U wK U
 c1 r l hr hl hn:=by
  have T:=sZ r hr;generalize ma 6 r=p at*
  obtain⟨x,r1⟩:=p;dsimp only at*
  refine iG func79 ntmps79 (fun w0 E0 hG=> ?_);(repeat' first|intro hb hp|(refine DR.is ?_;first|refine d_Q ?_|refine pw 1004 (es:=l.map Ex.c) (n:=l.length) (news:= [jW]) (er:=l.map Ex.c++ [jW]) (nr:=l.length+1) U U U U (.inl (row_ne jn dD hl)) (dS jn l) (cJ U) (by rw[lM];exact Nat.le_refl _) (cN _ _) (by simp[maxLen];omega) (by simp;omega) U (by rw[tL sP]) U ?_|refine bg U (ay (off':=l.length*8) U U C C (by rw[iN,Nat.zero_add])) ?_|refine dU (es:=l.map Ex.c++ [jW]) (i:=l.length) (e:=x.cs) (er:=(l++ [x]).map Ex.c) U U U U U U (Lb l) U sP (HJ l x) ?_)|refine am ?_|refine al ?_ ?_|fail)
  exact aM U U wK U
def tU:E8 75 [.ptr 1001 0,.ptr 1003 0] (⟨76,.l [.nils]⟩) (fun i n=>⟨76,.l [.bsh i 0 n 8]⟩) (fun l=>⟨78,.r (l.map Ex.c).flatten 0⟩) (ma 6) where
 gn l h:=kH jn dD h
 c0 r hr:=by
  have T:=sZ r hr;generalize ma 6 r=p at*
  obtain⟨x,r1⟩:=p;dsimp only at*
  have he: [jW].set 0 x.cs= [x].map Ex.c:=by rw[List.map_cons,aN];rfl
  refine iG func75 ntmps75 (fun w0 E0 hG=> ?_);(repeat' first|intro hb hp|(refine DR.is ?_;first|refine d_Q ?_|refine zt 1002 (news:= [jW]) U U U (cJ U) (cN _ _) (by simp[maxLen]) sP U ?_|refine bg U (ay (off':=0) U U dD dD U) ?_|refine dU (es:= [jW]) (i:=0) (e:=x.cs) (er:= [x].map Ex.c) U U U U U U (cJ U) U Nat.one_pos he ?_)|refine am ?_|refine al ?_ ?_|fail)
  exact aM U U wK U
 c1 r l hr hl hn:=by
  have T:=sZ r hr;generalize ma 6 r=p at*
  obtain⟨x,r1⟩:=p;dsimp only at*
  refine iG func75 ntmps75 (fun w0 E0 hG=> ?_);(repeat' first|intro hb hp|(refine DR.is ?_;first|refine d_Q ?_|refine pw 1004 (es:=l.map Ex.c) (n:=l.length) (news:= [jW]) (er:=l.map Ex.c++ [jW]) (nr:=l.length+1) U U U U (.inl (row_ne jn dD hl)) (dS jn l) (cJ U) (by rw[lM];exact Nat.le_refl _) (cN _ _) (by simp[maxLen];omega) (by simp;omega) U (by rw[tL sP]) U ?_|refine bg U (ay (off':=l.length*8) U U C C (by rw[iN,Nat.zero_add])) ?_|refine dU (es:=l.map Ex.c++ [jW]) (i:=l.length) (e:=x.cs) (er:=(l++ [x]).map Ex.c) U U U U U U (Lb l) U sP (HJ l x) ?_)|refine am ?_|refine al ?_ ?_|fail)
  exact aM U U wK U
def mIr{L:List Nat}{t:TypeId}{xs:List IV}:AV.mentsIn L (A5.mk t (.r xs 0)).cs=true:=by simp only[A5.cs_r,List.replicate_zero,List.append_nil];exact AV.mentsIn_iv _ _
def LO(tb:Str):E8 78 [.ptr 1003 0,.ptr 1001 0] (sB 6 [] tb .nils .nils .nils .nils .nils) (fun i n=>sB 6 [] tb .nils .nils (.bsh i 0 n 9) .nils .nils) (fun l=>⟨144,.r (l.map D4.c).flatten 0⟩) mB where
 gn l h:=kH (f:=D4.c) (k:=9) (fun _=>rfl) dD h
 c0 r hr:=by
  have k1:=Cc (dH r hr);have T:=(bw r).ok hr;have k2:=du (gs:=cH) (aq r).2 [[61]] T dD;have o2:=(bI (aq r).2 [[61]]).ok T;have k3:=sZ (aL (aq r).2 [[61]]) o2;unfold mB;generalize ma 6 (aL (aq r).2 [[61]])=p3 at*
  generalize aL (aq r).2 [[61]] =r2 at*
  generalize aq r=p1 at*
  obtain⟨nm,r1⟩:=p1;obtain⟨e,r3⟩:=p3;dsimp only at*
  refine iG func78 ntmps78 (fun w0 E0 hG=> ?_);(repeat' first|intro hb hp|(refine LW.is ?_;first|refine s_Q ?_|refine nU 1002 (news:= [D4.c (D4.mk nm e)]) U U U (cJ U) (cN _ _) (by simp[maxLen]) sP U ?_)|refine am ?_|refine al ?_ ?_|fail)
  exact aM U U wK U
 c1 r l hr hl hn:=by
  have k1:=Cc (dH r hr);have T:=(bw r).ok hr;have k2:=du (gs:=cH) (aq r).2 [[61]] T dD;have o2:=(bI (aq r).2 [[61]]).ok T;have k3:=sZ (aL (aq r).2 [[61]]) o2;unfold mB;generalize ma 6 (aL (aq r).2 [[61]])=p3 at*
  generalize aL (aq r).2 [[61]] =r2 at*
  generalize aq r=p1 at*
  obtain⟨nm,r1⟩:=p1;obtain⟨e,r3⟩:=p3;dsimp only at*
  refine iG func78 ntmps78 (fun w0 E0 hG=> ?_);(repeat' first|intro hb hp|(refine LW.is ?_;first|refine s_Q ?_|apply eU 1004 (es:=l.map D4.c) (n:=l.length) (news:= [D4.c (D4.mk nm e)]) (er:=(l++ [D4.mk nm e]).map D4.c) (nr:=l.length+1);rfl;rfl;rfl;rfl;exact .inl (row_ne (f:=D4.c) (k:=9) (fun _=>rfl) dD hl);exact dS (f:=D4.c) (k:=9) (fun _=>rfl) l;exact cJ U;exact(by rw[lM];exact Nat.le_refl _);exact cN _ _;exact(by simp[maxLen];omega);exact(by simp;omega);rfl;exact ij l (D4.mk nm e);rfl)|refine am ?_|refine al ?_ ?_|fail)
  exact aM U U wK U
def LP(tb:Str):E8 74 [.ptr 1003 0,.ptr 1001 0] (sB 4 [] tb .nils .nils .nils .nils .nils) (fun i n=>sB 4 [] tb .nils (.bsh i 0 n 1) .nils .nils .nils) (fun l=>⟨76,.r (l.map bf).flatten 0⟩) mE where
 gn l h:=kH (f:=bf) (k:=1) (fun _=>rfl) dD h
 c0 r hr:=by
  have k1:=du (gs:=cH) r [[40]] hr dD;have o1:=(bI r [[40]]).ok hr;unfold mE;have ad:=yW (step:=ma 6) (r:=aL r [[40]]);have o2:=(ig (ff 6) (aL r [[40]])).ok o1;have k3:=du (gs:=cH) (aP (ma 6) (aL r [[40]])).2 [[41]] o2 dD;have kb:=vc tU (aL r [[40]]);have kl:=vd tU (ff 6) (aL r [[40]]) o1;have hz:(aL r [[40]]).bad=true->aP (ma 6) (aL r [[40]])=([],aL r [[40]]):=fun h=>by unfold aP dM;rw[if_pos h]
  generalize hq:aP (ma 6) (aL r [[40]])=p at*
  generalize aL r [[40]] =r1 at*
  obtain⟨row,r2⟩:=p;dsimp only at*
  generalize aL r2 [[41]] =r3 at*
  clear hq;refine iG func74 ntmps74 (fun w0 E0 hG=> ?_);cases T:r1.bad with
  |true=>
   have hz:=hz T;cases hz;have kb:=(kb T).sws [(1001,2),(1002,1005)] (args2:= [.ptr 1000 0,.fn 75 [.ptr 2 0,.ptr 1003 0]]) (bx2:= [(1000,en r1),(2,⟨76,.l [.nils]⟩),(1003,pB)]) (bx2':= [(1000,en r1),(2,⟨76,.l [.nils]⟩),(1003,pB)]) (tk2':= []) (res2:= .tup []) U U U U U;(repeat' first|intro T hp|refine ac [] rfl hG kb fS B3 rfl rfl (by simp[-A5.cs_r,mIr,AV.mentsIn,AV.mentIn,keys]) U ?_|(refine LW.is ?_;first|refine s_Q ?_|refine nU 1002 (news:= [bf []]) U U U (cJ U) (cN _ _) (by simp[maxLen]) sP U ?_)|refine am ?_|refine al ?_ ?_|fail)
   exact aM U U wK U
  |false=>
   have ar:=ad T;have kl:=(kl T).sws [(1001,2),(1002,1005)] (args2:= [.ptr 1000 0,.fn 75 [.ptr 2 0,.ptr 1003 0]]) (bx2:= [(1000,en r1),(2,⟨76,.l [.nils]⟩),(1003,pB)]) (bx2':= [(1000,en r2),(2,⟨76,.l [.bsh 1005 0 row.length 8]⟩),(1003,pB),(1005,⟨78,.r (row.map Ex.c).flatten 0⟩)]) (tk2':= []) (res2:= .tup []) U U U U U;(repeat' first|intro T hp|refine L.pubB 1005 2 (es:=row.map Ex.c) (k:=8) U U (dS jn row) dD (by simpa using ar) (lM _) U (cN _ _) U (.cons .here .nil) ?_|refine ac [1005] U hG kl fS B3 U U (by simp[-A5.cs_r,mIr,AV.mentsIn,AV.mentIn,keys]) U ?_|(refine LW.is ?_;first|refine s_Q ?_|refine nU 1002 (news:= [bf row]) U U U (cJ U) (cN _ _) (by simp[maxLen]) sP U ?_)|refine am ?_|refine al ?_ ?_|fail)
   exact aM U U wK U
 c1 r l hr hl hn:=by
  have k1:=du (gs:=cH) r [[40]] hr dD;have o1:=(bI r [[40]]).ok hr;unfold mE;have ad:=yW (step:=ma 6) (r:=aL r [[40]]);have o2:=(ig (ff 6) (aL r [[40]])).ok o1;have k3:=du (gs:=cH) (aP (ma 6) (aL r [[40]])).2 [[41]] o2 dD;have kb:=vc tU (aL r [[40]]);have kl:=vd tU (ff 6) (aL r [[40]]) o1;have hz:(aL r [[40]]).bad=true->aP (ma 6) (aL r [[40]])=([],aL r [[40]]):=fun h=>by unfold aP dM;rw[if_pos h]
  generalize hq:aP (ma 6) (aL r [[40]])=p at*
  generalize aL r [[40]] =r1 at*
  obtain⟨row,r2⟩:=p;dsimp only at*
  generalize aL r2 [[41]] =r3 at*
  clear hq;have aR:(A5.mk 76 (.r (l.map bf).flatten 0)).cs.isEmpty=false:=kH (f:=bf) (k:=1) (fun _=>rfl) dD hl;refine iG func74 ntmps74 (fun w0 E0 hG=> ?_);cases T:r1.bad with
  |true=>
   have hz:=hz T;cases hz;have kb:=(kb T).sws [(1001,2),(1002,1005)] (args2:= [.ptr 1000 0,.fn 75 [.ptr 2 0,.ptr 1003 0]]) (bx2:= [(1000,en r1),(2,⟨76,.l [.nils]⟩),(1003,pB)]) (bx2':= [(1000,en r1),(2,⟨76,.l [.nils]⟩),(1003,pB)]) (tk2':= []) (res2:= .tup []) U U U U U;(repeat' first|intro T hp|refine ac [] rfl hG kb fS B3 rfl rfl (by simp[-A5.cs_r,mIr,AV.mentsIn,AV.mentIn,keys]) U ?_|(refine LW.is ?_;first|refine s_Q ?_|apply eU 1004 (es:=l.map bf) (n:=l.length) (news:= [bf []]) (er:=(l++ [[]]).map bf) (nr:=l.length+1);rfl;rfl;rfl;rfl;exact .inl (row_ne (f:=bf) (k:=1) (fun _=>rfl) dD hl);exact dS (f:=bf) (k:=1) (fun _=>rfl) l;exact cJ U;exact(by rw[lM];exact Nat.le_refl _);exact cN _ _;exact(by simp[maxLen];omega);exact(by simp;omega);rfl;exact ij l [];rfl)|refine am ?_|refine al ?_ ?_|fail)
   exact aM U U wK U
  |false=>
   have ar:=ad T;have kl:=(kl T).sws [(1001,2),(1002,1005)] (args2:= [.ptr 1000 0,.fn 75 [.ptr 2 0,.ptr 1003 0]]) (bx2:= [(1000,en r1),(2,⟨76,.l [.nils]⟩),(1003,pB)]) (bx2':= [(1000,en r2),(2,⟨76,.l [.bsh 1005 0 row.length 8]⟩),(1003,pB),(1005,⟨78,.r (row.map Ex.c).flatten 0⟩)]) (tk2':= []) (res2:= .tup []) U U U U U;(repeat' first|intro T hp|refine L.pubB 1005 2 (es:=row.map Ex.c) (k:=8) (by simp[-A5.cs_r,keys,List.lookup,aR]) U (dS jn row) dD (by simpa using ar) (lM _) U (cN _ _) U (.cons .here .nil) ?_|refine ac [1005] U hG kl fS B3 U U (by simp[-A5.cs_r,mIr,AV.mentsIn,AV.mentIn,keys]) U ?_|(refine LW.is ?_;first|refine s_Q ?_|apply eU 1004 (es:=l.map bf) (n:=l.length) (news:= [bf row]) (er:=(l++ [row]).map bf) (nr:=l.length+1);rfl;rfl;rfl;rfl;exact .inl (row_ne (f:=bf) (k:=1) (fun _=>rfl) dD hl);exact dS (f:=bf) (k:=1) (fun _=>rfl) l;exact cJ U;exact(by rw[lM];exact Nat.le_refl _);exact cN _ _;exact(by simp[maxLen];omega);exact(by simp;omega);rfl;exact ij l row;rfl)|refine am ?_|refine al ?_ ?_|fail)
   exact aM U U wK U
end Go.Proofs.Y
namespace Go.Abs
open Go.RowKit (Below)
def CallG.pubB(K j:Nat){gs:aw}{P:Program}{f:FuncId}{args:List AV}{bxi T bx2:List (Nat×A5)}{k n:Nat}{ty:TypeId}{es:List (List IV)}{bj:A5}{cs:List AV}(ar:(keys bxi).all (fun i=>(i !=K) && (match T.lookup i with|some b=> !b.cs.isEmpty|none=>false))=true)(hb:T.lookup K=some ⟨ty,.r es.flatten 0⟩)(hk: ∀e∈es,e.length=k)(aR:0<k)(a0:es≠ [])(hn:es.length=n)
 (hj:T.lookup j=some bj) (a1:bj.cs≠ []) (a2:(j==K)=false) (hp:EY K n k (.sl es) bj.cs cs) (hw:E3 ((j,⟨bj.ty,.l cs⟩)::(K,⟨ty,.l []⟩)::T) bx2) (hl: ∀id∈keys bxi,(bx2.lookup id).isSome=true)
 (h:CallG gs P f args bxi T [] (.tup [])):CallG gs P f args bxi bx2 [] (.tup []):=by
 intro E w us h1 h2 h3;refine(h E w us h1 h2 h3).mono ?_;rintro e w' ⟨u,E',he,hu,hh⟩;have a3:u= .tuple #[]:=by
  cases hu with
  | @tup _ us hl _=>have:us= []:=by simpa using hl
                    rw[this]
 have:=L.pubB K j (c:=⟨0,w,E,keys bxi⟩) (st:=⟨[],T,[]⟩) (X:=fun _ ad=> ∃E2,C4 ⟨0,w,E,keys bxi⟩ E2 bx2 [] ad) ar hb hk aR a0 hn hj a1 a2 hp (by
  rintro a ad ⟨E2,hi⟩;exact⟨E2,hi.heap.wk (st':=⟨[],bx2,[]⟩) (Wk.mk' hl .nil hw .nil)⟩) ({tmps:= #[],defers:= []}:Act) w' ⟨E',⟨rfl,rfl,fun s v h=>by simp at h,hh⟩⟩
 obtain⟨E2,a4⟩:=this;exact⟨u,E2,he,by rw[a3];exact .tup (us:= []) U (fun i c u h=>by simp at h),a4⟩
end Go.Abs
namespace Go.Proofs.Y
open Go.Abs Go.Proofs.Tryz
attribute [local irreducible] L Code.wp bodyPost Exit.then Exit.inBlock
variable [C3]
def oc{α:Type}{f:FuncId}[A0 prog f]{caps:List AV}{b0:A5}{b:Nat->Nat->A5}{step:Rd->α×Rd}{c:α->List IV}{ty:TypeId}(k:Nat)(T:IV->List AV)(h:E8 f caps b0 b (fun l=>⟨ty,.r (l.map c).flatten 0⟩) step)(hs: ∀r,Sf r (step r).2)
 (hk: ∀x,(c x).length=k) (ad:0<k) (h0:Subs b0.cs (T (.sl []))) (hp: ∀n es,EY 1002 n k (.sl es) (b 1002 n).cs (T (.sl es))) (r:Rd) (hr:C6 r):
 CallG cH prog 71 [.ptr 1000 0,.fn f caps] [(1000,en r),(1001,b0),(1003,pB)] [(1000,en (aP step r).2),(1001,⟨b0.ty,.l (T (.sl ((aP step r).1.map c)))⟩),(1003,pB)] [] (.tup []):=by
 cases hb:r.bad with
 |true=>
  have e:aP step r=([],r):=by unfold aP dM;rw[if_pos hb]
  rw[e];exact fun E w us h1 h2 h3=>(vc h r hb E w us h1 h2 h3).mono (fun e w' ⟨u,E',he,hu,hh⟩=>⟨u,E',he,hu,hh.wk (st:=⟨[],[(1000,en r),(1001,b0),(1003,pB)],[]⟩) (st':=⟨[],_,[]⟩) (Wk.mk' kK .nil (wB (.cons U U h0 B1)) .nil)⟩)
 |false=>
  have ar:=yW (step:=step) hb;have hz:=h.v 1002 (aP step r).1.length;refine CallG.pubB 1002 1001 (bj:=b 1002 (aP step r).1.length) (es:=(aP step r).1.map c) (k:=k) (n:=(aP step r).1.length) (cs:=T (.sl ((aP step r).1.map c))) ?_ U (dS hk _) ad (by simpa using ar) (lM _) U ?_ U (hp _ _) ?_ (fy U) (vd h hs r hr hb)
  · simp[-A5.cs_r,keys,List.lookup,hz]
  · intro e;rw[e] at hz;cases hz
  · exact wB (.cons U (h.vt _ _) fS B1)
def Sub.nilsI:Sub .nils (.iv (.sl [])):=fun _ _ _ h=>by cases h;exact .iv .nil
def Cv(r:Rd)(hr:C6 r)(h1:(ak r [bq,bY]).1=true):
 CallG cH prog 43 [.ptr 1000 0] [(1000,en r)] [(1000,en (mH (ak r [bq,bY]).2).2)] [] (.agg ((mH (ak r [bq,bY]).2).1.cs.map .iv)):=by
 have k1:=aQ (gs:=cH) r [bq,bY] hr dD;rw[h1] at k1;have o:=(aW r [bq,bY]).ok hr;generalize (ak r [bq,bY]).2=T at*
 clear h1;unfold mH;have kn:=Cc (dH T o);have on:=(bw T).ok o;have kt:=du (gs:=cH) (aq T).2 [[40]] on dD;have ot:=(bI (aq T).2 [[40]]).ok on;have kl:=(oc 3 (fun x=>(sB 1 (aq T).1 [] (.iv x) .nils .nils .nils .nils).cs) (LQ (aq T).1) up (c:=B8.c) (fun _=>rfl) dD (by(repeat' (first|exact Subs.nil|refine Subs.cons fR ?_|refine Subs.cons Sub.nilsI ?_))) (fun n es=>by(repeat' (first|exact EY.nil|refine EY.cons G2.here ?_|refine EY.cons G2.same ?_))) (aL (aq T).2 [[40]]) ot).sws [(1001,3),(1003,1)] (args2:= [.ptr 1000 0,.fn 72 [.ptr 3 0,.ptr 1 0]]) (bx2:= [(1000,en (aL (aq T).2 [[40]])),(3,sB 1 (aq T).1 [] .nils .nils .nils .nils .nils),(1,pB)]) (bx2':= [(1000,en (aP iq (aL (aq T).2 [[40]])).2),(3,sB 1 (aq T).1 [] (.iv (.sl ((aP iq (aL (aq T).2 [[40]])).1.map B8.c))) .nils .nils .nils .nils),(1,pB)]) (tk2':= []) (res2:= .tup []) U U U U U;have ol:=(ig up (aL (aq T).2 [[40]])).ok ot;have ke:=du (gs:=cH) (aP iq (aL (aq T).2 [[40]])).2 [[41]] ol dD;generalize aL (aP iq (aL (aq T).2 [[40]])).2 [[41]] =r5 at*
 generalize aP iq (aL (aq T).2 [[40]])=p4 at*
 generalize aL (aq T).2 [[40]] =r3 at*
 generalize aq T=p2 at*
 obtain⟨nm,r2⟩:=p2;obtain⟨cols,r4⟩:=p4;dsimp only at*
 refine iG func43 ntmps43 (fun w0 E0 hG=> ?_);(repeat' first|intro hb hp|refine ac [] rfl hG kl fS B3 rfl rfl rfl rfl ?_|refine LW.is (s_Q ?_)|refine am ?_|refine al ?_ ?_|fail)
 all_goals refine gM ?_ ?_
 all_goals rfl
def GV(r:Rd)(hr:C6 r)(h1:(ak r [bq,bY]).1=false)(h2:(ak r [bq,ew]).1=true):
 CallG cH prog 43 [.ptr 1000 0] [(1000,en r)] [(1000,en (rH (ak r [bq,ew]).2).2)] [] (.agg ((rH (ak r [bq,ew]).2).1.cs.map .iv)):=by
 have k1:=aQ (gs:=cH) r [bq,bY] hr dD;have k2:=aQ (gs:=cH) r [bq,ew] hr dD;rw[h1,cC h1] at k1;rw[h2] at k2;have o:=(aW r [bq,ew]).ok hr;generalize (ak r [bq,ew]).2=T at*
 clear h1 h2;unfold rH;have ad:=Cc (dH T o);have o1:=(bw T).ok o;have ar:=du (gs:=cH) (aq T).2 [wON] o1 dD;have o2:C6 (qE T):=(bI (aq T).2 [wON]).ok o1;unfold qE at*
 generalize aL (aq T).2 [wON] =r3 at*
 have aR:=Cc (dH r3 o2);have o3:=(bw r3).ok o2;have a0:=du (gs:=cH) (aq r3).2 [[40]] o3 dD;have o4:C6 (tO r3):=(bI (aq r3).2 [[40]]).ok o3;unfold tO at*
 generalize aL (aq r3).2 [[40]] =r5 at*
 have a1:=Cc (dH r5 o4);have o5:=(bw r5).ok o4;have a2:=du (gs:=cH) (aq r5).2 [[41]] o5 dD;generalize aL (aq r5).2 [[41]] =r7 at*
 generalize aq r5=p6 at*
 generalize aq r3=p4 at*
 generalize aq T=p2 at*
 obtain⟨a3,r2⟩:=p2;obtain⟨a4,r4⟩:=p4;obtain⟨a5,r6⟩:=p6;dsimp only at*
 refine iG func43 ntmps43 (fun w0 E0 hG=> ?_);(repeat' first|intro hb hp|refine LW.is (s_Q ?_)|refine am ?_|refine al ?_ ?_|fail)
 all_goals refine gM ?_ ?_
 all_goals rfl
def GW(r:Rd)(hr:C6 r)(h1:(ak r [bq,bY]).1=false)(h2:(ak r [bq,ew]).1=false)(h3:(ak r [iQ,bY]).1=true):
 CallG cH prog 43 [.ptr 1000 0] [(1000,en r)] [(1000,en (uK (ak r [iQ,bY]).2).2)] [] (.agg ((uK (ak r [iQ,bY]).2).1.cs.map .iv)):=by
 have k1:=aQ (gs:=cH) r [bq,bY] hr dD;have k2:=aQ (gs:=cH) r [bq,ew] hr dD;have k3:=aQ (gs:=cH) r [iQ,bY] hr dD;rw[h1,cC h1] at k1;rw[h2,cC h2] at k2;rw[h3] at k3;have o:=(aW r [iQ,bY]).ok hr;generalize (ak r [iQ,bY]).2=T at*
 clear h1 h2 h3;unfold uK;have kn:=Cc (dH T o);generalize aq T=p2 at*
 obtain⟨nm,r2⟩:=p2;dsimp only at*
 refine iG func43 ntmps43 (fun w0 E0 hG=> ?_);(repeat' first|intro hb hp|refine LW.is (s_Q ?_)|refine am ?_|refine al ?_ ?_|fail)
 all_goals refine gM ?_ ?_
 all_goals rfl
def Ct(r:Rd)(hr:C6 r)(h1:(ak r [bq,bY]).1=false)(h2:(ak r [bq,ew]).1=false)(h3:(ak r [iQ,bY]).1=false)(h4:(ak r [eu,jI]).1=true):
 CallG cH prog 43 [.ptr 1000 0] [(1000,en r)] [(1000,en (mF (ak r [eu,jI]).2).2)] [] (.agg ((mF (ak r [eu,jI]).2).1.cs.map .iv)):=by
 have k1:=aQ (gs:=cH) r [bq,bY] hr dD;have k2:=aQ (gs:=cH) r [bq,ew] hr dD;have k3:=aQ (gs:=cH) r [iQ,bY] hr dD;have k4:=aQ (gs:=cH) r [eu,jI] hr dD;rw[h1,cC h1] at k1;rw[h2,cC h2] at k2;rw[h3,cC h3] at k3;rw[h4] at k4;have o:=(aW r [eu,jI]).ok hr;generalize (ak r [eu,jI]).2=T at*
 clear h1 h2 h3 h4;unfold mF;have kn:=Cc (dH T o);have on:=(bw T).ok o;have kt:=du (gs:=cH) (aq T).2 [ic] on dD;have ot:=(bI (aq T).2 [ic]).ok on;have kl:=(oc 1 (fun x=>(sB 4 [] (aq T).1 .nils (.iv x) .nils .nils .nils).cs) (LP (aq T).1) yG (c:=bf) (fun _=>rfl) dD (by(repeat' (first|exact Subs.nil|refine Subs.cons fR ?_|refine Subs.cons Sub.nilsI ?_))) (fun n es=>by(repeat' (first|exact EY.nil|refine EY.cons G2.here ?_|refine EY.cons G2.same ?_))) (aL (aq T).2 [ic]) ot).sws [(1001,3),(1003,1)] (args2:= [.ptr 1000 0,.fn 74 [.ptr 1 0,.ptr 3 0]]) (bx2:= [(1000,en (aL (aq T).2 [ic])),(3,sB 4 [] (aq T).1 .nils .nils .nils .nils .nils),(1,pB)]) (bx2':= [(1000,en (aP mE (aL (aq T).2 [ic])).2),(3,sB 4 [] (aq T).1 .nils (.iv (.sl ((aP mE (aL (aq T).2 [ic])).1.map bf))) .nils .nils .nils),(1,pB)]) (tk2':= []) (res2:= .tup []) U U U U U;generalize aP mE (aL (aq T).2 [ic])=p4 at*
 generalize aL (aq T).2 [ic] =r3 at*
 generalize aq T=p2 at*
 obtain⟨nm,r2⟩:=p2;obtain⟨rows,r4⟩:=p4;dsimp only at*
 refine iG func43 ntmps43 (fun w0 E0 hG=> ?_);(repeat' first|intro hb hp|refine ac [] rfl hG kl fS B3 rfl rfl rfl rfl ?_|refine LW.is (s_Q ?_)|refine am ?_|refine al ?_ ?_|fail)
 all_goals refine gM ?_ ?_
 all_goals rfl
def Cu(r:Rd)(hr:C6 r)(h1:(ak r [bq,bY]).1=false)(h2:(ak r [bq,ew]).1=false)(h3:(ak r [iQ,bY]).1=false)(h4:(ak r [eu,jI]).1=false)(h5:(ak r [fj,fi]).1=true):
 CallG cH prog 43 [.ptr 1000 0] [(1000,en r)] [(1000,en (mG (ak r [fj,fi]).2).2)] [] (.agg ((mG (ak r [fj,fi]).2).1.cs.map .iv)):=by
 have k1:=aQ (gs:=cH) r [bq,bY] hr dD;have k2:=aQ (gs:=cH) r [bq,ew] hr dD;have k3:=aQ (gs:=cH) r [iQ,bY] hr dD;have k4:=aQ (gs:=cH) r [eu,jI] hr dD;have k5:=aQ (gs:=cH) r [fj,fi] hr dD;rw[h1,cC h1] at k1;rw[h2,cC h2] at k2;rw[h3,cC h3] at k3;rw[h4,cC h4] at k4;rw[h5] at k5;have o:=(aW r [fj,fi]).ok hr;generalize (ak r [fj,fi]).2=T at*
 clear h1 h2 h3 h4 h5;unfold mG;have kn:=Cc (dH T o);have kw:=pP (aq T).2 ((bw T).ok o);generalize dh (aq T).2=p3 at*
 generalize aq T=p2 at*
 obtain⟨nm,r2⟩:=p2;obtain⟨e,r3⟩:=p3;dsimp only at*
 refine iG func43 ntmps43 (fun w0 E0 hG=> ?_);(repeat' first|intro hb hp|refine LW.is (s_Q ?_)|refine am ?_|refine al ?_ ?_|fail)
 all_goals refine gM ?_ ?_
 all_goals rfl
def Cr(r:Rd)(hr:C6 r)(h1:(ak r [bq,bY]).1=false)(h2:(ak r [bq,ew]).1=false)(h3:(ak r [iQ,bY]).1=false)(h4:(ak r [eu,jI]).1=false)(h5:(ak r [fj,fi]).1=false)(h6:(ak r [go]).1=true):
 CallG cH prog 43 [.ptr 1000 0] [(1000,en r)] [(1000,en (mz (ak r [go]).2).2)] [] (.agg ((mz (ak r [go]).2).1.cs.map .iv)):=by
 have k1:=aQ (gs:=cH) r [bq,bY] hr dD;have k2:=aQ (gs:=cH) r [bq,ew] hr dD;have k3:=aQ (gs:=cH) r [iQ,bY] hr dD;have k4:=aQ (gs:=cH) r [eu,jI] hr dD;have k5:=aQ (gs:=cH) r [fj,fi] hr dD;have k6:=aQ (gs:=cH) r [go] hr dD;rw[h1,cC h1] at k1;rw[h2,cC h2] at k2;rw[h3,cC h3] at k3;rw[h4,cC h4] at k4;rw[h5,cC h5] at k5;rw[h6] at k6;have o:=(aW r [go]).ok hr;generalize (ak r [go]).2=T at*
 clear h1 h2 h3 h4 h5 h6;unfold mz nf;have kn:=Cc (dH T o);have on:=(bw T).ok o;have kt:=du (gs:=cH) (aq T).2 [tq] on dD;have ot:=(bI (aq T).2 [tq]).ok on;have kl:=(oc 9 (fun x=>(sB 6 [] (aq T).1 .nils .nils (.iv x) .nils .nils).cs) (LO (aq T).1) uo (c:=D4.c) (fun _=>rfl) dD (by(repeat' (first|exact Subs.nil|refine Subs.cons fR ?_|refine Subs.cons Sub.nilsI ?_))) (fun n es=>by(repeat' (first|exact EY.nil|refine EY.cons G2.here ?_|refine EY.cons G2.same ?_))) (aL (aq T).2 [tq]) ot).sws [(1001,3),(1003,1)] (args2:= [.ptr 1000 0,.fn 78 [.ptr 1 0,.ptr 3 0]]) (bx2:= [(1000,en (aL (aq T).2 [tq])),(3,sB 6 [] (aq T).1 .nils .nils .nils .nils .nils),(1,pB)]) (bx2':= [(1000,en (aP mB (aL (aq T).2 [tq])).2),(3,sB 6 [] (aq T).1 .nils .nils (.iv (.sl ((aP mB (aL (aq T).2 [tq])).1.map D4.c))) .nils .nils),(1,pB)]) (tk2':= []) (res2:= .tup []) U U U U U;have kw:=pP (aP mB (aL (aq T).2 [tq])).2 ((ig uo _).ok ot);generalize dh (aP mB (aL (aq T).2 [tq])).2=p5 at*
 generalize aP mB (aL (aq T).2 [tq])=p4 at*
 generalize aL (aq T).2 [tq] =r3 at*
 generalize aq T=p2 at*
 obtain⟨nm,r2⟩:=p2;obtain⟨sets,r4⟩:=p4;obtain⟨e,r5⟩:=p5;dsimp only at*
 refine iG func43 ntmps43 (fun w0 E0 hG=> ?_);(repeat' first|intro hb hp|refine ac [] rfl hG kl fS B3 rfl rfl rfl rfl ?_|refine LW.is (s_Q ?_)|refine am ?_|refine al ?_ ?_|fail)
 all_goals refine gM ?_ ?_
 all_goals rfl
def Cs(r:Rd)(hr:C6 r)(h1:(ak r [bq,bY]).1=false)(h2:(ak r [bq,ew]).1=false)(h3:(ak r [iQ,bY]).1=false)(h4:(ak r [eu,jI]).1=false)(h5:(ak r [fj,fi]).1=false)(h6:(ak r [go]).1=false)(h7:(ak r [ji]).1=true):
 CallG cH prog 43 [.ptr 1000 0] [(1000,en r)] [(1000,en (mC (ak r [ji]).2).2)] [] (.agg ((mC (ak r [ji]).2).1.cs.map .iv)):=by
 have k1:=aQ (gs:=cH) r [bq,bY] hr dD;have k2:=aQ (gs:=cH) r [bq,ew] hr dD;have k3:=aQ (gs:=cH) r [iQ,bY] hr dD;have k4:=aQ (gs:=cH) r [eu,jI] hr dD;have k5:=aQ (gs:=cH) r [fj,fi] hr dD;have k6:=aQ (gs:=cH) r [go] hr dD;have k7:=aQ (gs:=cH) r [ji] hr dD;rw[h1,cC h1] at k1;rw[h2,cC h2] at k2;rw[h3,cC h3] at k3;rw[h4,cC h4] at k4;rw[h5,cC h5] at k5;rw[h6,cC h6] at k6;rw[h7] at k7;have o:=(aW r [ji]).ok hr;generalize (ak r [ji]).2=r1 at*
 clear h1 h2 h3 h4 h5 h6 h7;unfold mC;have ko:=aQ (gs:=cH) r1 [[42]] o dD;have oo:=(Cz r1).ok o;have kO:=(oc 8 (fun x=>(sB 7 [] [] .nils .nils .nils .nils (.iv x)).cs) (LN) (ff 6) jn dD (by(repeat' (first|exact Subs.nil|refine Subs.cons fR ?_|refine Subs.cons Sub.nilsI ?_))) (fun n es=>by(repeat' (first|exact EY.nil|refine EY.cons G2.here ?_|refine EY.cons G2.same ?_))) r1 o).sws [(1001,3),(1003,1)] (args2:= [.ptr 1000 0,.fn 79 [.ptr 3 0,.ptr 1 0]]) (bx2:= [(1000,en r1),(3,sB 7 [] [] .nils .nils .nils .nils .nils),(1,pB)]) (bx2':= [(1000,en (aP (ma 6) r1).2),(3,sB 7 [] [] .nils .nils .nils .nils (.iv (.sl ((aP (ma 6) r1).1.map Ex.c)))),(1,pB)]) (tk2':= []) (res2:= .tup []) rfl rfl rfl rfl rfl;have hO:(ak r1 [[42]]).1=false->io r1=aP (ma 6) r1:=fun h=>by unfold io;rw[if_neg (by rw[h];decide)]
 have ar:(ak r1 [[42]]).1=true->io r1=([],(ak r1 [[42]]).2):=fun h=>by unfold io;rw[if_pos h]
 have aR:=cC (r:=r1) (ws:= [[42]]);generalize aP (ma 6) r1=pO at*
 generalize io r1=p2 at*
 obtain⟨out,r2⟩:=p2;dsimp only at*
 have kf:=du (gs:=cH) r2 [fi] oo dD;have of:=(bI r2 [fi]).ok oo;unfold kP at*
 have kF:=(oc 1 (fun x=>(sB 7 [] [] .nils .nils .nils (.iv x) (.iv (.sl (out.map Ex.c)))).cs) (LK (.sl (out.map Ex.c))) bw (c:=Str.c) (fun _=>rfl) dD (by(repeat' (first|exact Subs.nil|refine Subs.cons fR ?_|refine Subs.cons Sub.nilsI ?_))) (fun n es=>by(repeat' (first|exact EY.nil|refine EY.cons G2.here ?_|refine EY.cons G2.same ?_))) (aL r2 [fi]) of).sws [(1001,3),(1003,1)] (args2:= [.ptr 1000 0,.fn 80 [.ptr 3 0,.ptr 1 0]]) (bx2:= [(1000,en (aL r2 [fi])),(3,sB 7 [] [] .nils .nils .nils .nils (.iv (.sl (out.map Ex.c)))),(1,pB)]) (bx2':= [(1000,en (aP aq (aL r2 [fi])).2),(3,sB 7 [] [] .nils .nils .nils (.iv (.sl ((aP aq (aL r2 [fi])).1.map Str.c))) (.iv (.sl (out.map Ex.c)))),(1,pB)]) (tk2':= []) (res2:= .tup []) rfl rfl rfl rfl rfl;have o3:=(ig bw (aL r2 [fi])).ok of;generalize aP aq (aL r2 [fi])=p3 at*
 generalize aL r2 [fi] =a4 at*
 obtain⟨frm,r3⟩:=p3;dsimp only at*
 have kw:=pP r3 o3;have o4:=(nS r3).ok o3;generalize dh r3=p4 at*
 obtain⟨wh,r4⟩:=p4;dsimp only at*
 have k8:=aQ (gs:=cH) r4 [eZ,zB] o4 dD;have o5:=(aW r4 [eZ,zB]).ok o4;have k9:=sZ (ak r4 [eZ,zB]).2 o5;have o6:=(ff 6 (ak r4 [eZ,zB]).2).ok o5;have a5:=aQ (gs:=cH) (ma 6 (ak r4 [eZ,zB]).2).2 [wO] o6 dD;have o7:=(Ha r4).ok o4;have T:=cC (r:=r4) (ws:= [eZ,zB]);have a0:(ak r4 [eZ,zB]).1=true->jJ r4=(([(ma 6 (ak r4 [eZ,zB]).2).1],(ak (ma 6 (ak r4 [eZ,zB]).2).2 [wO]).1),(ak (ma 6 (ak r4 [eZ,zB]).2).2 [wO]).2):=fun h=>by unfold jJ;rw[if_pos h]
 have a1:(ak r4 [eZ,zB]).1=false->jJ r4=(([],false),r4):=fun h=>by unfold jJ;rw[if_neg (by rw[h];decide)]
 generalize jJ r4=p7 at*
 generalize ak (ma 6 (ak r4 [eZ,zB]).2).2 [wO] =pd at*
 generalize ma 6 (ak r4 [eZ,zB]).2=p6 at*
 generalize ak r4 [eZ,zB] =p5 at*
 obtain⟨b5,r5⟩:=p5;obtain⟨e6,r6⟩:=p6;obtain⟨bd,rd⟩:=pd;obtain⟨⟨ord,down⟩,r7⟩:=p7;dsimp only at*
 have a6:=aQ (gs:=cH) r7 [jY] o7 dD;have o8:=(aW r7 [jY]).ok o7;have a7:=qg (ak r7 [jY]).2 o8;have ad:=cC (r:=r7) (ws:= [jY]);have a2:(ak r7 [jY]).1=true->ip r7=dj (ak r7 [jY]).2:=fun h=>by unfold ip;rw[if_pos h]
 have a3:(ak r7 [jY]).1=false->ip r7=(-1,r7):=fun h=>by unfold ip;rw[if_neg (by rw[h];decide)]
 generalize ip r7=p9 at*
 generalize dj (ak r7 [jY]).2=pn at*
 generalize ak r7 [jY] =p8 at*
 obtain⟨b8,r8⟩:=p8;obtain⟨n,rn⟩:=pn;obtain⟨n9,r9⟩:=p9;obtain⟨lO,rO⟩:=pO;generalize ak r1 [[42]] =pa at*
 obtain⟨ba,ra⟩:=pa;dsimp only at*
 clear o oo of o3 o4 o5 o6 o7 o8 hr;refine iG func43 ntmps43 (fun w0 E0 hG=> ?_);cases ba<;>cases b5<;>cases b8
 · clear ar a0 a2;cases hO rfl;have e:=aR rfl;subst e;cases a1 rfl;have e:=T rfl;subst e;cases a3 rfl;have e:=ad rfl;subst e;(repeat' first|intro hb hp|apply ac [];rfl;exact hG;exact kO;exact fS;exact B3;rfl;rfl;rfl;rfl|apply ac [];rfl;exact hG;exact kF;exact fS;exact wB (.cons rfl rfl (by(repeat' (first|exact Subs.nil|refine Subs.cons fR ?_|refine Subs.cons Sub.nilsI ?_))) B1);rfl;rfl;rfl;rfl|refine LW.is (s_Q ?_)|refine am ?_|refine al ?_ ?_|fail)
   all_goals refine gM ?_ ?_
   all_goals rfl
 · clear ar a0 a3 ad;cases hO rfl;have e:=aR rfl;subst e;cases a1 rfl;have e:=T rfl;subst e;cases a2 rfl;(repeat' first|intro hb hp|apply ac [];rfl;exact hG;exact kO;exact fS;exact B3;rfl;rfl;rfl;rfl|apply ac [];rfl;exact hG;exact kF;exact fS;exact wB (.cons rfl rfl (by(repeat' (first|exact Subs.nil|refine Subs.cons fR ?_|refine Subs.cons Sub.nilsI ?_))) B1);rfl;rfl;rfl;rfl|refine LW.is (s_Q ?_)|refine am ?_|refine al ?_ ?_|fail)
   all_goals refine gM ?_ ?_
   all_goals rfl
 · clear ar a1 T a2;cases hO rfl;have e:=aR rfl;subst e;cases a0 rfl;cases a3 rfl;have e:=ad rfl;subst e;(repeat' first|intro hb hp|apply ac [];rfl;exact hG;exact kO;exact fS;exact B3;rfl;rfl;rfl;rfl|apply ac [];rfl;exact hG;exact kF;exact fS;exact wB (.cons rfl rfl (by(repeat' (first|exact Subs.nil|refine Subs.cons fR ?_|refine Subs.cons Sub.nilsI ?_))) B1);rfl;rfl;rfl;rfl|refine LW.is (s_Q ?_)|refine am ?_|refine al ?_ ?_|fail)
   all_goals refine gM ?_ ?_
   all_goals(first|rfl|(simp only[A9.cs,ia,List.map_cons,List.map_nil,aN];rfl))
 · clear ar a1 T a3 ad;cases hO rfl;have e:=aR rfl;subst e;cases a0 rfl;cases a2 rfl;(repeat' first|intro hb hp|apply ac [];rfl;exact hG;exact kO;exact fS;exact B3;rfl;rfl;rfl;rfl|apply ac [];rfl;exact hG;exact kF;exact fS;exact wB (.cons rfl rfl (by(repeat' (first|exact Subs.nil|refine Subs.cons fR ?_|refine Subs.cons Sub.nilsI ?_))) B1);rfl;rfl;rfl;rfl|refine LW.is (s_Q ?_)|refine am ?_|refine al ?_ ?_|fail)
   all_goals refine gM ?_ ?_
   all_goals(first|rfl|(simp only[A9.cs,ia,List.map_cons,List.map_nil,aN];rfl))
 · clear hO aR a0 a2;cases ar rfl;cases a1 rfl;have e:=T rfl;subst e;cases a3 rfl;have e:=ad rfl;subst e;(repeat' first|intro hb hp|apply ac [];rfl;exact hG;exact kF;exact fS;exact wB (.cons rfl rfl (by(repeat' (first|exact Subs.nil|refine Subs.cons fR ?_|refine Subs.cons Sub.nilsI ?_))) B1);rfl;rfl;rfl;rfl|refine LW.is (s_Q ?_)|refine am ?_|refine al ?_ ?_|fail)
   all_goals refine gM ?_ ?_
   all_goals rfl
 · clear hO aR a0 a3 ad;cases ar rfl;cases a1 rfl;have e:=T rfl;subst e;cases a2 rfl;(repeat' first|intro hb hp|apply ac [];rfl;exact hG;exact kF;exact fS;exact wB (.cons rfl rfl (by(repeat' (first|exact Subs.nil|refine Subs.cons fR ?_|refine Subs.cons Sub.nilsI ?_))) B1);rfl;rfl;rfl;rfl|refine LW.is (s_Q ?_)|refine am ?_|refine al ?_ ?_|fail)
   all_goals refine gM ?_ ?_
   all_goals rfl
 · clear hO aR a1 T a2;cases ar rfl;cases a0 rfl;cases a3 rfl;have e:=ad rfl;subst e;(repeat' first|intro hb hp|apply ac [];rfl;exact hG;exact kF;exact fS;exact wB (.cons rfl rfl (by(repeat' (first|exact Subs.nil|refine Subs.cons fR ?_|refine Subs.cons Sub.nilsI ?_))) B1);rfl;rfl;rfl;rfl|refine LW.is (s_Q ?_)|refine am ?_|refine al ?_ ?_|fail)
   all_goals refine gM ?_ ?_
   all_goals(first|rfl|(simp only[A9.cs,ia,List.map_cons,List.map_nil,aN];rfl))
 · clear hO aR a1 T a3 ad;cases ar rfl;cases a0 rfl;cases a2 rfl;(repeat' first|intro hb hp|apply ac [];rfl;exact hG;exact kF;exact fS;exact wB (.cons rfl rfl (by(repeat' (first|exact Subs.nil|refine Subs.cons fR ?_|refine Subs.cons Sub.nilsI ?_))) B1);rfl;rfl;rfl;rfl|refine LW.is (s_Q ?_)|refine am ?_|refine al ?_ ?_|fail)
   all_goals refine gM ?_ ?_
   all_goals(first|rfl|(simp only[A9.cs,ia,List.map_cons,List.map_nil,aN];rfl))
end Go.Proofs.Y
namespace Go.Proofs.Y
open Go.Abs Go.Proofs.Tryz
attribute [local irreducible] L Code.wp bodyPost Exit.then Exit.inBlock
def Ll{c:UInt8}{r:Str}{n:Nat}(h:fc c r=some n)(hl:r.length<1000000):TokOk ((c::r).take n):=by
 have hn:n<=r.length+1/\(c=39->2<=n)/\(c=45->n=1):=by
  have T:iP 39=false:=by decide
  have e2:iP 45=false:=by decide
  have e3:lb 39=false:=by decide
  have e4:lb 45=false:=by decide
  have h1:=(List.takeWhile_prefix iP (l:=r)).length_le;have h2:=(List.takeWhile_prefix lb (l:=r)).length_le;unfold fc at h;split at h
  · rename_i hc;cases h;exact⟨by omega,fun e=>(by subst e;rw[T] at hc;cases hc),fun e=>(by subst e;rw[e2] at hc;cases hc)⟩
  split at h
  · rename_i hc;cases h;exact⟨by omega,fun e=>(by subst e;rw[e3] at hc;cases hc),fun e=>(by subst e;rw[e4] at hc;cases hc)⟩
  split at h
  · rename_i hc;subst hc;split at h
    · cases h
    · rename_i h0;cases h;have:=CS r 39;exact⟨by omega,fun _=>by omega,fun e=>by cases e⟩
  · rename_i hc;split at h
    · cases h;exact⟨by omega,fun e=>absurd e hc,fun _=>rfl⟩
    · cases h
 have h1:=yz h;obtain⟨m,rfl⟩: ∃m,n=m+1:=⟨n - 1,by omega⟩
 refine⟨by simp[lT];omega,fun e=> ?_,fun e=> ?_⟩
 · have:=hn.2.1 (by simpa using e);simp[lT];omega
 · have:=hn.2.2 (by simpa using e);simp[lT];omega
def uk: ∀(k:Nat) (s:Str),s.length<=k->s.length<=1000000-> ∀l,cW s=some l->l.length<=s.length/\ ∀t∈l,TokOk t
 |0,s,hk,_,l,h=>by
  have:s= []:=List.length_eq_zero_iff.1 C;subst this;rw[rB] at h;cases h;exact⟨Nat.le_refl _,fun t ht=>by cases ht⟩
 |k+1,[],_,_,l,h=>by
  rw[rB] at h;cases h;exact⟨Nat.le_refl _,fun t ht=>by cases ht⟩
 |k+1,c::r,hk,hm,l,h=>by
  simp only[lC] at hk hm;by_cases T:c=32\/c=10
  · rw[sJ T] at h;obtain⟨h1,h2⟩:=uk k r C C l h;exact⟨by simp;omega,h2⟩
  · cases ht:fc c r with
    |none=>rw[ul T ht] at h;cases h
    |some n=>
     rw[uj T ht,Option.map_eq_some_iff] at h;obtain⟨l',ad,rfl⟩:=h;have hp:=yz ht;have hd:((c::r).drop n).length<=r.length:=by simp;omega
     obtain⟨h1,h2⟩:=uk k _ C C l' ad;refine⟨by simp only[lC];omega,fun t ar=> ?_⟩;rcases List.mem_cons.1 ar with rfl|h3
     · exact Ll ht C
     · exact h2 t h3
def KW(s:Str)(h:s.length<=1000000):C6 (nF s)/\(nF s).l.length<=s.length:=by
 unfold nF;cases hs:cW s with
 |none=>exact⟨⟨by simp,fun t ht=>by cases ht⟩,by simp⟩
 |some l=>
  obtain⟨h1,h2⟩:=uk _ s nR h l hs;exact⟨⟨by dsimp only;omega,h2⟩,h1⟩
variable [C3]
def GU(r:Rd)(hr:C6 r):CallG cH prog 43 [.ptr 1000 0] [(1000,en r)] [(1000,en (fe r).2)] [] (.agg ((fe r).1.cs.map .iv)):=by
 unfold fe;cases h1:(ak r [bq,bY]).1 with
 |true=>rw[if_pos U];exact Cv r hr h1
 |false=>
 rw[if_neg dD];have k1:=aQ (gs:=cH) r [bq,bY] hr dD;rw[h1,cC h1] at k1;cases h2:(ak r [bq,ew]).1 with
 |true=>rw[if_pos U];exact GV r hr h1 h2
 |false=>
 rw[if_neg dD];have k2:=aQ (gs:=cH) r [bq,ew] hr dD;rw[h2,cC h2] at k2;cases h3:(ak r [iQ,bY]).1 with
 |true=>rw[if_pos U];exact GW r hr h1 h2 h3
 |false=>
 rw[if_neg dD];have k3:=aQ (gs:=cH) r [iQ,bY] hr dD;rw[h3,cC h3] at k3;cases h4:(ak r [eu,jI]).1 with
 |true=>rw[if_pos U];exact Ct r hr h1 h2 h3 h4
 |false=>
 rw[if_neg dD];have k4:=aQ (gs:=cH) r [eu,jI] hr dD;rw[h4,cC h4] at k4;cases h5:(ak r [fj,fi]).1 with
 |true=>rw[if_pos U];exact Cu r hr h1 h2 h3 h4 h5
 |false=>
 rw[if_neg dD];have k5:=aQ (gs:=cH) r [fj,fi] hr dD;rw[h5,cC h5] at k5;cases T:(ak r [go]).1 with
 |true=>rw[if_pos U];exact Cr r hr h1 h2 h3 h4 h5 T
 |false=>
 rw[if_neg dD];have k6:=aQ (gs:=cH) r [go] hr dD;rw[T,cC T] at k6;cases h7:(ak r [ji]).1 with
 |true=>rw[if_pos U];exact Cs r hr h1 h2 h3 h4 h5 T h7
 |false=>
 rw[if_neg dD];have k7:=aQ (gs:=cH) r [ji] hr dD;rw[h7,cC h7] at k7;clear h1 h2 h3 h4 h5 T h7;refine iG func43 ntmps43 (fun w0 E0 hG=> ?_);(repeat' first|intro hb hp|refine LW.is (s_Q ?_)|refine am ?_|refine al ?_ ?_|fail)
 all_goals refine gM ?_ ?_
 all_goals rfl
def Mh{r:Rd}{ws:List Str}(h:r.bad=true):(ak r ws).2.bad=true:=by
 unfold ak;repeat' split
 all_goals exact h
def GN{r:Rd}{ws:List Str}(h:r.bad=true):(aL r ws).bad=true:=by
 unfold aL;split
 · exact Mh h
 · rfl
def Fb(r:Rd):(fe r).2.bad=true\/(fe r).2.l.length<r.l.length:=by
 unfold fe;split
 · rename_i h;exact .inr (Nat.lt_of_le_of_lt (xb _).le (lS h dD))
 split
 · rename_i h;exact .inr (Nat.lt_of_le_of_lt (DZ _).le (lS h dD))
 split
 · rename_i h;exact .inr (Nat.lt_of_le_of_lt (bw _).le (lS h dD))
 split
 · rename_i h;exact .inr (Nat.lt_of_le_of_lt (wZ _).le (lS h dD))
 split
 · rename_i h;exact .inr (Nat.lt_of_le_of_lt (xa _).le (lS h dD))
 split
 · rename_i h;exact .inr (Nat.lt_of_le_of_lt (wX _).le (lS h dD))
 split
 · rename_i h;exact .inr (Nat.lt_of_le_of_lt (wY _).le (lS h dD))
 · exact .inl U
def atQ{f:FuncId}{args args2:List AV}{q:Nat}{b b':A5}{T:AV}(h:CallG cH prog f args [(1000,b)] [(1000,b')] [] T)(h1:AV.rens (Abs.sws [(1000,q)]) args=args2)(hm:AV.mentsIn [] b.cs=true)(ad:AV.mentsIn [] b'.cs=true)(hr:AV.mentIn [] T=true):
 CallG cH prog f args2 [(q,b)] [(q,b')] [] T:=h.at1 h1 hm ad hr
def zu(s:A9):AV.mentIn [] (.agg (s.cs.map .iv))=true:=by rw[AV.mentIn];exact AV.mentsIn_iv _ _
def uu(s:Str):CallG cH prog 17 [aS s] [] [] [] (.tup [.iv (.sl ((cj s).1.map A9.cs)),.iv (I (cj s).2)]):=by
 unfold cj;refine iG func17 ntmps17 (fun w0 E0 hG=> ?_);by_cases hl:1500<s.length
 · rw[if_pos hl];have q:decide ((1500:Int)<(s.length:Int))=true:=decide_eq_true C;refine wz ?_;all_goals refine aU ?_
   all_goals rfl
 rw[if_neg hl];have q:decide ((1500:Int)<(s.length:Int))=false:=decide_eq_false C;have ks:=(Fe s C).toG (gs:=cH);obtain⟨hr,hn⟩:=KW s C;have hn:(nF s).l.length<=1500:=C;have e1:(nF s).l=(lW s).1:=by unfold nF lW;cases cW s<;>rfl
 have e2:(nF s).bad= !(lW s).2:=by unfold nF lW;cases cW s<;>rfl
 generalize hW:fH ((nF s).l.length+1) [] (nF s)=W;generalize nF s=r at*
 generalize lW s=p at*
 obtain⟨lw,ok⟩:=p;obtain⟨rl,bad⟩:=r;dsimp only at e1 e2;subst e1 e2;refine wz ?_;refine L.adopt 7 (s:=7) (t:=80) (k:=20) U U U ?_;refine ae (ι:=Nat×List A9×Rd) (fun i=>⟨[(6,.ptr 20 0),(7,.row 7 (i.2.1.map A9.cs))],[(20,en i.2.2)],[(7,⟨80,20⟩)]⟩) (fun i=>i.1) (fun i=>fH i.1 i.2.1 i.2.2=W/\C6 i.2.2/\((i.2.2.bad=true/\0<i.1/\i.2.1.length<=1501)\/(i.2.2.l.length<i.1/\i.2.1.length+i.2.2.l.length<=1500))) (i0:=(rl.length+1,[],⟨rl, !ok⟩)) ?_ ⟨hW,hr,.inr ⟨Nat.lt_succ_self _,by simpa using hn⟩⟩ ?_
 · exact df
 clear hW hr hn ks;rintro ⟨n,l,r⟩ ⟨T,hr,hn⟩ K hK;dsimp only at T hn hr;cases n with
 |zero=>omega
 |succ n=>
 unfold fH at T;by_cases hz:r.l= [] \/r.bad=true
 · rw[if_pos hz] at T;subst T;dsimp only;have ar:l.length<=1501:=C;clear hn hr hK;cases h0:r.l with
   |nil=>
    have q0:decide ((0:Int)<(((r.l).map Str.c).length:Int))=false:=by rw[h0];rfl
    cases hb:r.bad with
    |true=>
     rw[if_pos U];refine wz ?_;all_goals refine aU ?_
     all_goals rfl
    |false=>
     rw[if_neg dD];by_cases h6:6<l.length
     · rw[if_pos h6];have q6:decide ((6:Int)<((l.map A9.cs).length:Int))=true:=decide_eq_true (by rw[lM];omega);refine wz ?_;all_goals refine aU ?_
       all_goals rfl
     · rw[if_neg h6];have q6:decide ((6:Int)<((l.map A9.cs).length:Int))=false:=decide_eq_false (by rw[lM];omega);refine wz ?_;all_goals refine aU ?_
       all_goals rfl
   |cons x xs=>
    have q0:decide ((0:Int)<(((r.l).map Str.c).length:Int))=true:=by rw[h0];exact decide_eq_true sP
    have hb:r.bad=true:=by rcases hz with h|h;rw[h0] at h;cases h;exact h
    rw[if_pos hb];have q2:(!r.bad)=false:=by rw[hb];rfl
    refine wz ?_;all_goals refine aU ?_
    all_goals rfl
 · rw[if_neg hz] at T;have ad:r.l≠ []:=fun e=>hz (.inl e)
   have hb:r.bad=false:=by cases h:r.bad with|true=>exact absurd (.inr h) hz|false=>rfl
   have q1:decide ((0:Int)<((r.l.map Str.c).length:Int))=true:=decide_eq_true (by rw[lM];have:=gU ad;omega);have q2:(!r.bad)=true:=by rw[hb];rfl
   have k1:=atQ (q:=20) (GU r hr) U U U (zu _);have o1:=(yF r).ok hr;have k2:=atQ (q:=20) (du (gs:=cH) (fe r).2 [[59]] o1 dD) U U U U;have o2:=(bI (fe r).2 [[59]]).ok o1;have a0:=(yF r).le;have he:=Fb r;have a1:=(bI (fe r).2 [[59]]).le;have aR:=GN (r:=(fe r).2) (ws:= [[59]]);have a2:=gU ad;generalize aL (fe r).2 [[59]] =r2 at*
   generalize fe r=p at*
   obtain⟨x,r1⟩:=p;dsimp only at*
   have a3:r.l.length<n+1/\l.length+r.l.length<=1500:=by
    rcases hn with h|h
    · rw[hb] at h;cases h.1
    · exact h
   have ar:l.length<=1500:=C;(repeat' first|intro hb hp|(refine LW.is ?_;first|(apply jt (q:=20) (ha:=rfl);(case hb=>exact rfl);(case hc=>assumption);(case hG=>assumption);rfl;rfl;rfl;first|rfl|exact zu _)|apply bJ;rfl;rfl;rfl;rfl;exact dS (f:=A9.cs) (k:=20) (fun _=>rfl) l;exact cJ U;(rw[lM,fJ];simp;omega);(rw[lM];simp;omega);rfl;rfl)|(refine DR.is ?_;first|(apply BC (q:=20) (ha:=rfl);(case hb=>exact rfl);(case hc=>assumption);(case hG=>assumption);rfl;rfl;rfl;first|rfl|exact zu _))|refine am ?_|refine al ?_ ?_|fail)
   refine L.only [7,6] ?_;refine L.retok 7 38 7 U U U U ?_;refine hK _ (n,l++ [x],r2) ⟨T,o2,?_⟩ (Nat.lt_succ_self _) (Wk.mk' kK (wF (.cons U (Sub.of_eq (congrArg (AV.row 7) (by rw[pA];rfl))) .nil)) B1 (.cons U .nil));dsimp only;rcases he with h|h
   · exact .inl ⟨aR h,by omega,by simp;omega⟩
   · exact .inr ⟨by omega,by simp;omega⟩
end Go.Proofs.Y
namespace Go.Proofs.Y
open Go.Abs Go.Proofs.Tryz
attribute [local irreducible] L Code.wp bodyPost Exit.then Exit.inBlock
def bo(row:List A3):Ex->Ex
 | .mk op v s name n l=>if op=2/\0<=n/\n<(row.length:Int) then .mk 1 (row.getD n.toNat af) [] [] 0 [] else .mk op v s name n (l.attach.map fun x=>bo row x.1)
 decreasing_by
  have:=List.sizeOf_lt_of_mem x.2;simp;omega
def mK(row:List A3)(op:Int)(v:A3)(s name:Str)(n:Int)(l:List Ex):
 bo row (.mk op v s name n l)=if op=2/\0<=n/\n<(row.length:Int) then .mk 1 (row.getD n.toNat af) [] [] 0 [] else .mk op v s name n (l.map (bo row)):=by
 rw[bo];simp
def HP(row:List A3): ∀e:Ex,e.Ok->(bo row e).Ok
 | .mk op v s name n l,h=>by
   rw[mK];cases h with
   |mk hl h=>
    split
    · exact .mk sP sP
    · refine .mk (by rw[lM];exact hl) (fun x T=> ?_);obtain⟨y,hy,rfl⟩:=mM T;exact HP row y (h y hy)
def xG(row:List A3): ∀(e:Ex) (ar:e.Ok),CallA prog 126 [.agg (e.cs.map .iv),.iv (.sl (row.map A3.c))] [] [] [] (.agg ((bo row e).cs.map .iv))
 | .mk op v s name n l,ar=>by
   have ih: ∀x∈l,CallA prog 126 [.agg (x.cs.map .iv),.iv (.sl (row.map A3.c))] [] [] [] (.agg ((bo row x).cs.map .iv)):=fun x hx=>xG row x (by cases ar with|mk _ h=>exact h x hx)
   have hl:l.length*104<=140737488355328:=by cases ar with|mk hl _=>exact hl
   have hc:(Ex.mk op v s name n l).cs= [I op,I v.k,I v.n,S v.s,S s,S name,I n,.sl (l.map Ex.c)]:=rfl;rw[mK,hc];clear hc ar;refine iA func126 ntmps126 (fun w0 E0=> ?_);by_cases hk:op=2/\0<=n/\n<(row.length:Int)
   · rw[if_pos hk];obtain⟨rfl,h0,h1⟩:=hk;have q1:((2:Int)==2)=true:=rfl;have q2:decide (0<=n)=true:=decide_eq_true h0;have q3:decide (n<((row.map A3.c).length:Int))=true:=decide_eq_true (by rw[lM];exact h1);have g1:(row.map A3.c)[n.toNat]?=some [I (row.getD n.toNat af).k,I (row.getD n.toNat af).n,S (row.getD n.toNat af).s]:=by rw[gP,cV af (show n.toNat<row.length by omega)];rfl
     generalize row.getD n.toNat af=u at*
     clear ih;refine wz ?_;all_goals refine aU ?_
     all_goals rfl
   rw[if_neg hk];by_cases h2:op=2
   · subst h2;have q1:((2:Int)==2)=true:=rfl;by_cases h0:0<=n
     · have q2:decide (0<=n)=true:=decide_eq_true h0;have q3:decide (n<((row.map A3.c).length:Int))=false:=decide_eq_false (by rw[lM];exact fun h=>hk ⟨rfl,h0,h⟩);clear hk;refine wz ?_;refine L.adopt 5 (s:=5) (t:=78) (k:=8) U U U ?_;refine ae (ι:=Nat) (fun i=>⟨[(32,aI (i:Int)),(31,aI ((l.map Ex.c).length:Int)),(30,.iv (.sl (l.map Ex.c))),(5,.row 5 ((l.take i).map fun x=>(bo row x).c)),(1,.iv (.sl (row.map A3.c))),(2,.ptr 2 0),(4,.ptr 4 0)],
        [(2,⟨78,.l [.iv (I (2)),.iv (I v.k),.iv (I v.n),.iv (S v.s),.iv (S s),.iv (S name),.iv (I n),.iv (.sl (l.map Ex.c))]⟩),(4,⟨78,.l [.iv (I 0),.iv (I 0),.iv (I 0),.iv (S []),.iv (S []),.iv (S []),.iv (I 0),.nils]⟩)],[(5,⟨78,8⟩)]⟩) (fun i=>l.length - i) (fun i=>True) (i0:=0) ?_ trivial ?_
       · exact df
       intro i _ K hK;cases hx:l[i]? with
       |some x=>
        have ad:=fZ (l:=l.map Ex.c) (cM (f:=Ex.c) hx);have aR:=fM hx;have a0:=ih x (gE hx);have g1:(l.map Ex.c)[((i:Nat):Int).toNat]?=some [I x.op,I x.v.k,I x.v.n,S x.v.s,S x.s,S x.name,I x.n,.sl (x.l.map Ex.c)]:=by rw[iN,gP,hx];exact congrArg some (aN x)
        have n1:((l.take (i+1)).map fun x=>(bo row x).c)=((l.take i).map fun x=>(bo row x).c)++ [(bo row x).cs]:=by rw[dv hx,pA];exact congrArg _ (by simp[aN])
        have l1:((l.take i).map fun x=>(bo row x).c).length=i:=by simp;omega
        have k1: ∀e∈((l.take i).map fun x=>(bo row x).c),e.length=8:=fun e he=>by obtain⟨y,_,rfl⟩:=mM he;rw[aN];rfl
        generalize bo row x=r at*
        generalize ((l.take i).map fun x=>(bo row x).c)=es at*
        clear ih;(repeat' first|intro hb hp|(refine LW.is ?_;first|refine bJ U U U U k1 (by first|exact T U|exact bB U bV) (by simp[maxLen,ah,l1];omega) (by simp[ah,l1];omega) U U ?_)|refine am ?_|refine al ?_ ?_|fail)
        refine L.onlyS [32,31,30,5,1,2,4] [2,4] U ?_;refine L.retok 5 41 5 U U U U ?_;refine hK _ (i+1) trivial C (Wk.mk' kK (wF (wF (wF (.cons U (Sub.of_eq (congrArg (AV.row 5) n1.symm)) F3)))) B2 (.cons U .nil))
       |none=>
        have ad:=gc (l:=l.map Ex.c) (bz hx);have hN:l.take i=l:=tL (gO hx);rw[hN];have hm:(l.map fun x=>(bo row x).c)=(l.map (bo row)).map Ex.c:=by rw[List.map_map];rfl
        rw[hm];generalize l.map (bo row)=es;clear ih hK;refine wz ?_;all_goals refine aU ?_
        all_goals rfl
     · have q2:decide (0<=n)=false:=decide_eq_false h0;clear hk;refine wz ?_;refine L.adopt 5 (s:=5) (t:=78) (k:=8) U U U ?_;refine ae (ι:=Nat) (fun i=>⟨[(32,aI (i:Int)),(31,aI ((l.map Ex.c).length:Int)),(30,.iv (.sl (l.map Ex.c))),(5,.row 5 ((l.take i).map fun x=>(bo row x).c)),(1,.iv (.sl (row.map A3.c))),(2,.ptr 2 0),(4,.ptr 4 0)],
        [(2,⟨78,.l [.iv (I (2)),.iv (I v.k),.iv (I v.n),.iv (S v.s),.iv (S s),.iv (S name),.iv (I n),.iv (.sl (l.map Ex.c))]⟩),(4,⟨78,.l [.iv (I 0),.iv (I 0),.iv (I 0),.iv (S []),.iv (S []),.iv (S []),.iv (I 0),.nils]⟩)],[(5,⟨78,8⟩)]⟩) (fun i=>l.length - i) (fun i=>True) (i0:=0) ?_ trivial ?_
       · exact df
       intro i _ K hK;cases hx:l[i]? with
       |some x=>
        have ad:=fZ (l:=l.map Ex.c) (cM (f:=Ex.c) hx);have aR:=fM hx;have a0:=ih x (gE hx);have g1:(l.map Ex.c)[((i:Nat):Int).toNat]?=some [I x.op,I x.v.k,I x.v.n,S x.v.s,S x.s,S x.name,I x.n,.sl (x.l.map Ex.c)]:=by rw[iN,gP,hx];exact congrArg some (aN x)
        have n1:((l.take (i+1)).map fun x=>(bo row x).c)=((l.take i).map fun x=>(bo row x).c)++ [(bo row x).cs]:=by rw[dv hx,pA];exact congrArg _ (by simp[aN])
        have l1:((l.take i).map fun x=>(bo row x).c).length=i:=by simp;omega
        have k1: ∀e∈((l.take i).map fun x=>(bo row x).c),e.length=8:=fun e he=>by obtain⟨y,_,rfl⟩:=mM he;rw[aN];rfl
        generalize bo row x=r at*
        generalize ((l.take i).map fun x=>(bo row x).c)=es at*
        clear ih;(repeat' first|intro hb hp|(refine LW.is ?_;first|refine bJ U U U U k1 (by first|exact T U|exact bB U bV) (by simp[maxLen,ah,l1];omega) (by simp[ah,l1];omega) U U ?_)|refine am ?_|refine al ?_ ?_|fail)
        refine L.onlyS [32,31,30,5,1,2,4] [2,4] U ?_;refine L.retok 5 41 5 U U U U ?_;refine hK _ (i+1) trivial C (Wk.mk' kK (wF (wF (wF (.cons U (Sub.of_eq (congrArg (AV.row 5) n1.symm)) F3)))) B2 (.cons U .nil))
       |none=>
        have ad:=gc (l:=l.map Ex.c) (bz hx);have hN:l.take i=l:=tL (gO hx);rw[hN];have hm:(l.map fun x=>(bo row x).c)=(l.map (bo row)).map Ex.c:=by rw[List.map_map];rfl
        rw[hm];generalize l.map (bo row)=es;clear ih hK;refine wz ?_;all_goals refine aU ?_
        all_goals rfl
   · have q1:(op==2)=false:=by simp[h2]
     clear hk;refine wz ?_;refine L.adopt 5 (s:=5) (t:=78) (k:=8) U U U ?_;refine ae (ι:=Nat) (fun i=>⟨[(32,aI (i:Int)),(31,aI ((l.map Ex.c).length:Int)),(30,.iv (.sl (l.map Ex.c))),(5,.row 5 ((l.take i).map fun x=>(bo row x).c)),(1,.iv (.sl (row.map A3.c))),(2,.ptr 2 0),(4,.ptr 4 0)],
      [(2,⟨78,.l [.iv (I (op)),.iv (I v.k),.iv (I v.n),.iv (S v.s),.iv (S s),.iv (S name),.iv (I n),.iv (.sl (l.map Ex.c))]⟩),(4,⟨78,.l [.iv (I 0),.iv (I 0),.iv (I 0),.iv (S []),.iv (S []),.iv (S []),.iv (I 0),.nils]⟩)],[(5,⟨78,8⟩)]⟩) (fun i=>l.length - i) (fun i=>True) (i0:=0) ?_ trivial ?_
     · exact df
     intro i _ K hK;cases hx:l[i]? with
     |some x=>
      have ad:=fZ (l:=l.map Ex.c) (cM (f:=Ex.c) hx);have aR:=fM hx;have a0:=ih x (gE hx);have g1:(l.map Ex.c)[((i:Nat):Int).toNat]?=some [I x.op,I x.v.k,I x.v.n,S x.v.s,S x.s,S x.name,I x.n,.sl (x.l.map Ex.c)]:=by rw[iN,gP,hx];exact congrArg some (aN x)
      have n1:((l.take (i+1)).map fun x=>(bo row x).c)=((l.take i).map fun x=>(bo row x).c)++ [(bo row x).cs]:=by rw[dv hx,pA];exact congrArg _ (by simp[aN])
      have l1:((l.take i).map fun x=>(bo row x).c).length=i:=by simp;omega
      have k1: ∀e∈((l.take i).map fun x=>(bo row x).c),e.length=8:=fun e he=>by obtain⟨y,_,rfl⟩:=mM he;rw[aN];rfl
      generalize bo row x=r at*
      generalize ((l.take i).map fun x=>(bo row x).c)=es at*
      clear ih;(repeat' first|intro hb hp|(refine LW.is ?_;first|refine bJ U U U U k1 (by first|exact T U|exact bB U bV) (by simp[maxLen,ah,l1];omega) (by simp[ah,l1];omega) U U ?_)|refine am ?_|refine al ?_ ?_|fail)
      refine L.onlyS [32,31,30,5,1,2,4] [2,4] U ?_;refine L.retok 5 41 5 U U U U ?_;refine hK _ (i+1) trivial C (Wk.mk' kK (wF (wF (wF (.cons U (Sub.of_eq (congrArg (AV.row 5) n1.symm)) F3)))) B2 (.cons U .nil))
     |none=>
      have ad:=gc (l:=l.map Ex.c) (bz hx);have hN:l.take i=l:=tL (gO hx);rw[hN];have hm:(l.map fun x=>(bo row x).c)=(l.map (bo row)).map Ex.c:=by rw[List.map_map];rfl
      rw[hm];generalize l.map (bo row)=es;clear ih hK;refine wz ?_;all_goals refine aU ?_
      all_goals rfl
end Go.Proofs.Y
