/- Laws that the last part needs. No condition. -/
import Derived.Test.YtimoefagohifaaaGreatDoorA25
set_option maxHeartbeats 800000
set_option maxRecDepth 100000
namespace Go.Proofs.YtimoefagohifaaaGreatDoor
open Go.RowKit Go.Sort Tryz
theorem fe (w:World) (o:Obj) (n:Nat) (h:n=w.heap.size):(w.alloc o).heap[n]?=some o:=by subst h;show(w.heap.push _)[w.heap.size]?=_;simp
theorem kb {w:World} {o:Obj} {n:Nat} {x:Option Obj} (h:n<w.heap.size) (hx:w.heap[n]?=x):(w.alloc o).heap[n]?=x:=by
 rw[<- hx];show(w.heap.push _)[n]?=_;rw[Array.getElem?_push,if_neg acw]
theorem du (c:UInt8):(escB c).length<=3:=by unfold escB;split<;>simp
def escTo (s:ByteArray) (k:Nat):List UInt8:=39::(s.data.toList.take k).flatMap escB
theorem T9 (s:ByteArray) (k:Nat):(escTo s k).length<=3 * k+1:=by
 have h:∀l:List UInt8,(l.flatMap escB).length<=3 * l.length:=by
  intro l
  induction l with
  | nil=>simp
  | cons c l ih=>have:=du c;simp only[v8,ua,tw];omega
 have:=h (s.data.toList.take k);have h2:(s.data.toList.take k).length<=k:=List.length_take_le _ _;simp only[escTo,tw];omega
theorem dt (s:ByteArray) (k:Nat) (h:k<s.size):escTo s (k+1)=escTo s k++escB s[k]:=by
 unfold escTo;rw[V5 s k h];simp
theorem j7 (s:ByteArray):escTo s s.size++[39]=printText s:=by
 unfold escTo printText;rw[wq acx];simp
theorem Ld (n:Nat) (h:n<16) (w:World):(Instr.index 9 (.string ⟨#[48,49,50,51,52,53,54,55,56,57,97,98,99,100,101,102]⟩) (.int .u8 (n:Int))).run prog w=.ok (.int .u8 ((hexD n).toNat:Int)) w:=by
 obtain rfl|rfl|rfl|rfl|rfl|rfl|rfl|rfl|rfl|rfl|rfl|rfl|rfl|rfl|rfl|rfl:=tg n h
 all_goals kernel_rfl
theorem jq (c:Nat) (h:c<256) (w:World):(Instr.index 9 (.string ⟨#[48,49,50,51,52,53,54,55,56,57,97,98,99,100,101,102]⟩) (.int .u8 ((c:Int)/16))).run prog w=.ok (.int .u8 ((hexD (c/16)).toNat:Int)) w:=by
 have e:(c:Int)/16=((c/16:Nat):Int):=acw;rw[e];exact Ld _ acw w
theorem jp (c:Nat) (w:World):(Instr.index 9 (.string ⟨#[48,49,50,51,52,53,54,55,56,57,97,98,99,100,101,102]⟩) (.int .u8 ((c:Int) % 16))).run prog w=.ok (.int .u8 ((hexD (c % 16)).toNat:Int)) w:=by
 have e:(c:Int) % 16=((c % 16:Nat):Int):=acw;rw[e];exact Ld _ acw w
theorem s4 (c:Nat) (h:c<256):bits .and .u8 (c:Int) 15=(c:Int) % 16:=by
 have:=u8_and_nat c 15 h acy;rw[show((15:Nat):Int)=15 from rfl]at this;rw[this,show(15:Nat)=2 ^ 4 - 1 from rfl,abj];omega
theorem Si (s:ByteArray) (n:Int) (w:World) (hs:s.size<=1000000):Calls prog 91 #[.agg #[.int .i64 2,.int .i64 n,.string s]] w fun e w'=>e=.returned (.string ⟨(printText s).toArray⟩)/\Below w.heap.size w w':=by
 go_enter func91,ntmps91;go_wp2_with fail;go_loopw [3,25] (fun o i wr=>∃k:Nat,k<=s.size/\i=.int .i64 k/\OwnsBytes wr (w.heap.size+1) o (escTo s k)/\Below (w.heap.size+1) (w.alloc (Obj.cells #[.int .i64 2,.int .i64 n,.string s] 42)) wr) (fun _ i _=>s.size - (intOf i).toNat)
 case atStart=>exact⟨0,by omega,rfl,⟨rfl,Or.inr ⟨w.heap.size+1,1,#[.int .u8 39],rfl,tu _,by repeat(first|(refine fe _ _ _ ?_;focus (simp;done))|(refine kb ?_ ?_;focus (first|omega|(simp;done)|(simp;omega)))),tu _,by simp[maxLen],rfl,rfl⟩⟩,(uj _ _).alloc acx _⟩
 case round=>
  obtain⟨k,hk,rfl,hown,hb⟩:=hrel;have HO:=tm hown;have HB:=tm hb;have x:wr.cell? ⟨w.heap.size,2,none⟩=some (.string s):=hb.cell_some acw (by go_cell);clear hown hb;by_cases hlt:k<s.size
  ·have hpl:=fun w=>Ix (s[k].toNat:Int) w;have HP:=tm hpl;clear hpl
   cases hp:plainB (s[k].toNat:Int)
   ·rw[hp]at HP;go_wp2_with fail;refine(HP.out _).mono ?_;rintro e w' ⟨rfl,rfl⟩;go_wp2_with fail;have hb3:s[k].toNat<256:=s[k].toNat_lt;have i1:=fun w=>jq s[k].toNat hb3 w;have i2:=fun w=>jp s[k].toNat w;have a:=s4 s[k].toNat hb3;refine wp_region_mixed 8 [(0,false),(1,false),(2,false),(3,false),(4,false),(5,false),(6,false),(7,true)] acz acz ?_;refine z1053 ?_;clear i1 i2 a;refine B9 rfl ?_;intro w1 hb1 _;go_wp2_with fail;refine⟨hb1.alloc hb1.size _,wpM_tail ?_⟩;intro w2 hb2 _;have hblk:=hb2.blk_kept (N9 w1 _);have hown2:OwnsBytes w2 (w.heap.size+1) u3 (escTo s k):=OwnsBytes.kept HO.out ((hb1.alloc hb1.size _).step hb2);have HO2:=tm hown2;have HK:=tm hblk;have HB2:Hid (Below (w.heap.size+1) (w.alloc (Obj.cells #[.int .i64 2,.int .i64 n,.string s] 42)) w2):=HB.out.trans (((hb1.alloc hb1.size _).step hb2).mono (by have:=HB.out.size;simp at this;omega));have hlen:=T9 s k;clear hb1 hb2 hblk hown2;refine z279 ?_;go_wp2_with(at_builtin;go_must (refine wpList_append_blk rfl _ _ 58 rfl 5 (.int .u8 0) 1 underlying58 Qj rfl (w.heap.size+1) u3 _ _ rfl HO2.out #[.int .u8 92,.int .u8 ((hexD (s[k].toNat/16)).toNat:Int),.int .u8 ((hexD (s[k].toNat % 16)).toNat:Int)] w1.heap.size 5 (0,0) rfl HK.out (by simp[Value.oneCell']) (by simp;omega) (by simp[maxLen];omega) (by have:=HB2.out.size;simp at this;omega) ?_));intro v w3 hown3 hg;have HO3:=tm hown3
    have HB3:Hid (Below (w.heap.size+1) (w.alloc (Obj.cells #[.int .i64 2,.int .i64 n,.string s] 42)) w3):=aa3 HB2.out hg (by have:=HB2.out.size;simp at this;omega) (fun k hk=>(vx HO2.out k hk).1);exact qz
   ·rw[hp]at HP;go_wp2_with fail;refine(HP.out _).mono ?_;rintro e w' ⟨rfl,rfl⟩;have hlen:=T9 s k;go_wp2_with(at_builtin;go_must (refine B0 rfl _ _ 58 rfl 5 (.int .u8 0) 1 underlying58 Qj rfl (w.heap.size+1) u3 _ _ rfl HO.out #[.int .u8 (s[k].toNat:Int)] wr.heap.size rfl rfl (by simp[Value.oneCell']) (by simp;omega) (by simp[maxLen];omega) (by have:=HB.out.size;simp at this;omega) ?_));intro v w3 hown3 hg;have HO3:=tm hown3;have HB3:Hid (Below (w.heap.size+1) (w.alloc (Obj.cells #[.int .i64 2,.int .i64 n,.string s] 42)) w3):=aa3 HB.out hg (by have:=HB.out.size;simp at this;omega) (fun k hk=>(vx HO.out k hk).1);exact qz
  ·obtain rfl:k=s.size:=acw;have hlen:=T9 s s.size;go_wp2_with(at_builtin;go_must (refine B0 rfl _ _ 58 rfl 5 (.int .u8 0) 1 underlying58 Qj rfl (w.heap.size+1) u3 _ _ rfl HO.out #[.int .u8 39] wr.heap.size rfl rfl (by simp[Value.oneCell']) (by simp;omega) (by simp[maxLen];omega) (by have:=HB.out.size;simp at this;omega) ?_));intro v w3 hown3 hg;have ho:OwnsBytes w3 (w.heap.size+1) v (printText s):=OwnsBytes.of hown3 (by rw[<- j7,Dh];rfl);have HB3:Hid (Below (w.heap.size+1) (w.alloc (Obj.cells #[.int .i64 2,.int .i64 n,.string s] 42)) w3):=aa3 HB.out hg (by have:=HB.out.size;simp at this;omega) (fun k hk=>(vx HO.out k hk).1);obtain⟨g,cap,rfl,hconv⟩:=ho.string (by simp[printText]);clear hown3 hg ho;go_wp2_with fail;go_returns;exact⟨rfl,((uj _ w).alloc (tu _) _).trans (HB3.out.mono acw)⟩
theorem Wz (v:V) (hr:v.right=true) (w:World) (htab:Lib.TabIs prog w "internal/strconv.uint64pow10" .u64 Lib.pow10Tab):Calls prog 91 #[v.val] w fun e w'=>e=.returned (.string (Y v.print))/\Below w.heap.size w w':=by
 obtain⟨k,n,s⟩:=v;have hk:k=0\/k=1\/k=2\/k=3:=by
  unfold V.right at hr;simp only at hr;repeat' split at hr
  all_goals first|omega|(cases hr)
 unfold V.val;obtain rfl|rfl|rfl|rfl:=hk
 ·clear hr;have HT:=tm htab;clear htab;go_enter func91,ntmps91;go_wp2;exact pk
 ·have hn:-1000000000000000<=n/\n<=1000000000000000:=by simp[V.right]at hr;omega
  clear hr;have HT:=tm (Lib.tabBelow_of_tabIs htab);clear htab;have C:=tm (fun w h=>Tryz.strconv_Itoa n acw acw w h);go_enter func91,ntmps91;go_wp2_with fail;refine(C.out _ (HT.out _ (by go_grown))).mono ?_;rintro e w1 ⟨rfl,d,os,hw⟩;have HB:Hid (Below (w.heap.size+1) (w.alloc (Obj.cells #[U 1,U n,.string s] 42)) w1):=by
   show Below _ _ _;rw[hw];exact Lib.below_grow _ _ acx _ _
  clear hw;go_wp2_with fail;go_returns;exact⟨rfl,((uj _ w).alloc (tu _) _).trans (HB.out.mono acx)⟩
 ·have hn:s.size<=40:=by simp[V.right]at hr;omega
  exact Si s n w acw
 ·clear hr htab;have C:=tm Tryz.strconv_FormatBool
  cases h1:(n==1);all_goals
   have H:=tm h1
   go_enter func91,ntmps91
   go_wp2_with fail
   refine(C.out _ _).mono ?_
   rintro e w1 ⟨rfl,rfl⟩
   go_wp2_with fail
   go_returns
   refine⟨?_,by go_grown⟩
   simp[V.print,H.out]
theorem St.grown {w0 w w':World} {L:List Blk} {row:Option Nat} (h:St w0 w L) (hg:w.grownBy w' row) (hr:∀k,row=some k->w0.heap.size<=k/\∀x∈L,x.1≠k):St w0 w' L:=
 ⟨aa3 h.below hg h.below.size (fun k hk=>(hr k hk).1),fun x hx=>⟨(h.own x hx).1,by
  rw[hg.block x.1 (uh.1 (h.own x hx).2).1 (fun e=>(hr _ e.symm).2 x hx rfl)];exact(h.own x hx).2⟩,h.apart⟩
end Go.Proofs.YtimoefagohifaaaGreatDoor
