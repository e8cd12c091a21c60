/- Several texts in one, each with its own sentence ahead of it. Conditions: each one says its own. -/
import Derived.Test.YtadjbegnlimepaaGreatDoorRows
import Derived.Stop.LaidErr
import Derived.Lib.LaidTab
import Derived.Shelf.Vars
import Derived.Test.YtadjbegnlimepaaGreatDoorZS21
import Derived.Test.YtadjbegnlimepaaGreatDoorZS24
import Derived.Test.YtadjbegnlimepaaGreatDoorZS49
set_option linter.all false
namespace Go.Proofs.YtadjbegnlimepaaGreatDoor
open Go.Abs
set_option linter.unusedVariables false
set_option linter.unusedSimpArgs false
theorem var_heap{P:Program}{W:World}{n:String}{g:Nat}{cs:Array Value}(h:W.var? P n=some cs)(hg:P.globalNamed n=some g): ∃ty sp,W.heap[g]?=some (.cells cs ty sp):=by
 unfold World.var? at h
 rw[hg,Option.bind_some] at h
 cases hb:W.heap[g]? with
 |none=>rw[hb] at h;cases h
 |some o=>
  rw[hb] at h
  cases o with
  |cells c ty sp=>simp only[Option.some.injEq] at h;subst h;exact⟨ty,sp,rfl⟩
  |_=>cases h
theorem star: "*" ++ "errors.errorString" = "*errors.errorString" :=by decide
theorem err_row(u:TypeId)(h:Tryz.prog.typeName? 3 u=some "*errors.errorString"):u=160:=
 typeName_ptr_named (nm:= "errors.errorString") (by rw[star];kernel_rfl) (by kernel_rfl) (by decide) u (by rw[star];exact h)
theorem globS{W:World}(h:laidMetH Tryz.prog [("math/bits.deBruijn32tab",Rows.laid_math_bits_deBruijn32tab),("math/bits.deBruijn64tab",Rows.laid_math_bits_deBruijn64tab),("internal/strconv.uint64pow10",Rows.laid_internal_strconv_uint64pow10),("unicode/utf8.acceptRanges",Rows.laid_unicode_utf8_acceptRanges),("strconv.ErrRange",Rows.laid_strconv_ErrRange),("strconv.ErrSyntax",Rows.laid_strconv_ErrSyntax),("unicode.White_Space",Rows.laid_unicode_White_Space),("strings.asciiSpace",Rows.laid_strings_asciiSpace),("askance/syntax.words",Rows.laid_askance_syntax_words),("unicode/utf8.first",Rows.laid_unicode_utf8_first)] W)(hsh:W.ShapedOpen Tryz.prog): ∃(E:Errs) (m:Int),Glob (@gsS E m) (lawEnv (sizes W)) W:=by
 rw[MakeChecks.laidMetH_plain _ _ _ (by kernel_rfl)] at h
 have egA:Tryz.prog.globalNamed "strings.asciiSpace" =some 1:=by kernel_rfl
 have egP:Tryz.prog.globalNamed "internal/strconv.uint64pow10" =some 8:=by kernel_rfl
 have egS:Tryz.prog.globalNamed "strconv.ErrSyntax" =some 6:=by kernel_rfl
 have egR:Tryz.prog.globalNamed "strconv.ErrRange" =some 7:=by kernel_rfl
 have egW:Tryz.prog.globalNamed "askance/syntax.words" =some 0:=by kernel_rfl
 have hP:=h.tail.tail
 have edP:(Rows.laid_internal_strconv_uint64pow10:DataW Unit)=Lib.tabData .u64 Lib.pow10Tab:=by kernel_rfl
 rw[edP] at hP
 have tP:=Lib.tabIs_of_head egP (by kernel_rfl:(Tryz.prog.globals[8]?).map (·.type)=some 164) Tryz.underlying164 Tryz.underlying143 (by kernel_rfl) (by kernel_rfl) hP
 have hR:=hP.tail.tail
 obtain⟨aR,sR,hvR,-,-,-⟩:=laid_sentinel hR egR (by kernel_rfl:(Tryz.prog.globals[7]?).map (·.type)=some 89) Tryz.underlying89 err_row Tryz.underlying160 Tryz.underlying162 rfl rfl Tryz.underlying9 (by kernel_rfl) (by kernel_rfl)
 have hS:=hR.tail
 obtain⟨aS',sS,hvS,-,-,-⟩:=laid_sentinel hS egS (by kernel_rfl:(Tryz.prog.globals[6]?).map (·.type)=some 89) Tryz.underlying89 err_row Tryz.underlying160 Tryz.underlying162 rfl rfl Tryz.underlying9 (by kernel_rfl) (by kernel_rfl)
 have hA:=hS.tail.tail
 have edA:(Rows.laid_strings_asciiSpace:DataW Unit)=Lib.tabData .u8 Lib.asciiSpaceTab:=by kernel_rfl
 rw[edA] at hA
 have tA:=Lib.tabIs_of_head egA (by kernel_rfl:(Tryz.prog.globals[1]?).map (·.type)=some 93) Tryz.underlying93 Tryz.underlying5 (by kernel_rfl) (by kernel_rfl) hA
 have hW:=hA.tail
 obtain⟨ps,⟨g0,t0,c0,f0,p0,q0,hg0,ht0,hv0,hd0,hL,_⟩,_,_⟩:=hW
 have et0:(Tryz.prog.globals[0]?).map (·.type)=some 32:=by kernel_rfl
 obtain rfl:=Option.some.inj (egW.symm.trans hg0)
 obtain rfl:=Option.some.inj (et0.symm.trans ht0)
 have ed:(Rows.laid_askance_syntax_words:DataW Unit)= .slice (words.map fun s=> .lit (.string s)) []:=by unfold words;rfl
 rw[ed] at hd0
 have r0:=laid_strs egW hv0 Tryz.underlying32 Tryz.underlying9 (by kernel_rfl) (fun e=>by have:=congrArg List.length e;rw[words_len] at this;cases this) hd0
 have hc0:c0.size=1:=by
  rcases DataW.trod_slice Tryz.underlying32 hd0 with⟨hcs,_⟩|⟨a,len,cap,elems,rest,n',_,hcs,_⟩
  · have:=congrArg List.length hcs;simpa using this
  · have:=congrArg List.length hcs;simpa using this
 have cS:W.cell? ⟨6,0,none⟩=some (.iface 160 (.pointer (some aS'))):=by have h0:=World.var?_cell egS hvS 0;simpa using h0
 have cR:W.cell? ⟨7,0,none⟩=some (.iface 160 (.pointer (some aR))):=by have h0:=World.var?_cell egR hvR 0;simpa using h0
 obtain⟨tyS,spS,bS⟩:=var_heap hvS egS
 obtain⟨tyR,spR,bR⟩:=var_heap hvR egR
 obtain⟨tyP,spP,bP⟩:=var_heap tP egP
 obtain⟨tyW,spW,bW⟩:=var_heap hv0 egW
 obtain⟨tyA,spA,bA⟩:=var_heap tA egA
 obtain⟨m,hm0⟩:=Go.Proofs.cell_of_shapedOpen_int (P:=Tryz.prog) (g:=3) (t:=3) (zero:= #[.int .i64 0]) hsh (of_decide_eq_true (by kernel_rfl)) (by kernel_rfl) rfl (by kernel_rfl) (by kernel_rfl) Tryz.underlying3
 obtain⟨csM,hhM,hsM,_⟩:=hsh.1 3 #[.int .i64 0] 3 (of_decide_eq_true (by kernel_rfl)) (by kernel_rfl)
 refine⟨⟨.iface 160 (.pointer (some aS')),.iface 160 (.pointer (some aR)),.inr ⟨_,_,rfl⟩,.inr ⟨_,_,rfl⟩⟩,m,⟨fun b hb=>sizes_new hb,fun g xs hm _=> ?_⟩,fun g xs hm i x hx=> ?_⟩
 · unfold gsS gsP gs0 maxG at hm
   simp only[List.mem_cons,List.not_mem_nil,or_false,Prod.mk.injEq] at hm
   rcases hm with⟨rfl,rfl⟩|⟨rfl,rfl⟩|⟨rfl,rfl⟩|⟨rfl,rfl⟩|⟨rfl,rfl⟩|⟨rfl,rfl⟩
   · exact⟨_,_,_,hhM,hsM⟩
   · exact⟨_,_,_,bA,by simp[spTab]⟩
   · exact⟨_,_,_,bS,rfl⟩
   · exact⟨_,_,_,bR,rfl⟩
   · exact⟨_,_,_,bP,by simp[pow10]⟩
   · exact⟨_,_,_,bW,by simpa using hc0⟩
 · unfold gsS gsP gs0 maxG at hm
   simp only[List.mem_cons,List.not_mem_nil,or_false,Prod.mk.injEq] at hm
   rcases hm with⟨rfl,rfl⟩|⟨rfl,rfl⟩|⟨rfl,rfl⟩|⟨rfl,rfl⟩|⟨rfl,rfl⟩|⟨rfl,rfl⟩
   · match i,hx with
     |0,hx=>simp at hx;subst hx;exact⟨sizes_cell hm0,_,hm0,.im rfl⟩
     |i+1,hx=>simp at hx
   · have hi:i<Lib.asciiSpaceTab.length:=by
      have:=(List.getElem?_eq_some_iff.1 hx).1
      simpa[spTab] using this
     have c:=Lib.TabIs.cell tA egA i hi
     have hx':x= .im (.int .u8 (Lib.asciiSpaceTab.getD i 0)):=by
      rw[spTab,List.getElem?_map,List.getElem?_eq_getElem hi] at hx
      rw[List.getD_eq_getElem?_getD,List.getElem?_eq_getElem hi]
      simpa using hx.symm
     subst hx'
     exact⟨sizes_cell c,_,c,.im rfl⟩
   · match i,hx with
     |0,hx=>simp at hx;subst hx;exact⟨sizes_cell cS,_,cS,.im rfl⟩
     |i+1,hx=>simp at hx
   · match i,hx with
     |0,hx=>simp at hx;subst hx;exact⟨sizes_cell cR,_,cR,.im rfl⟩
     |i+1,hx=>simp at hx
   · have hi:i<Lib.pow10Tab.length:=by
      have:=(List.getElem?_eq_some_iff.1 hx).1
      simpa[pow10] using this
     have c:=Lib.TabIs.cell tP egP i hi
     have hx':x= .im (.int .u64 (Lib.pow10Tab.getD i 0)):=by
      rw[pow10,List.getElem?_map,List.getElem?_eq_getElem hi] at hx
      rw[List.getD_eq_getElem?_getD,List.getElem?_eq_getElem hi]
      simpa using hx.symm
     subst hx'
     exact⟨sizes_cell c,_,c,.im rfl⟩
   · exact r0 i x hx
end Go.Proofs.YtadjbegnlimepaaGreatDoor
