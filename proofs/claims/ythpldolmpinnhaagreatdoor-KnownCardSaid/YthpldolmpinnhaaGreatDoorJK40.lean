import Derived.Test.YthpldolmpinnhaaGreatDoorJK39
set_option maxHeartbeats 64000000
open Go.World renaming block_lt_of_cell?→z7
open Go.Lib renaming hid→z8
open List renaming all_eq_true→zy,getElem?_eq_some_iff→zu,getElem?_eq_getElem→zj,mem_of_getElem?→zg
open And renaming intro→zx
open Go.RowKit.Below renaming refl→zv,setCell→zf,alloc→zX
open Go.IntKind renaming wrap_i64→zk,i64→zZ
open Bool renaming and_eq_true→zY
open Int renaming tmod_eq_emod_of_nonneg→zV
open Nat renaming le_refl→zU
open Go.Proofs.Tryz
namespace Go.Proofs.YthpldolmpinnhaaGreatDoor
open Go Go.RowKit
set_option maxRecDepth 10000
def Jj:List Uq:=[([111,110,101],[105,32,61,32,49,32,97,110,100,32,118,32,61,32,48,32,64,105,110,116,101,103,101,114,32,49]),([102,101,119],[118,32,61,32,48,32,97,110,100,32,105,32,37,32,49,48,32,61,32,50,46,46,52,32,97,110,100,32,105,32,37,32,49,48,48,32,33,61,32,49,50,46,46,49,52]),([109,97,110,121],[118,32,61,32,48,32,97,110,100,32,105,32,33,61,32,49,32,97,110,100,32,105,32,37,32,49,48,32,61,32,48,46,46,49,32,111,114,32,118,32,61,32,48,32,97,110,100,32,105,32,37,32,49,48,32,61,32,53,46,46,57,32,111,114,32,118,32,61,32,48,32,97,110,100,32,105,32,37,32,49,48,48,32,61,32,49,50,46,46,49,52])]
def DQ:List Uq:=[([122,101,114,111],[110,32,61,32,48]),([111,110,101],[110,32,105,115,32,49]),([116,119,111],[110,32,105,115,32,50]),([102,101,119],[110,32,109,111,100,32,49,48,48,32,105,110,32,51,46,46,49,48]),([109,97,110,121],[110,32,109,111,100,32,49,48,48,32,105,110,32,49,49,46,46,57,57])]
def Ez:List Uq:=[([122,101,114,111],[110,32,37,32,49,48,32,61,32,48,32,111,114,32,110,32,37,32,49,48,48,32,61,32,49,49,46,46,49,57,32,111,114,32,118,32,61,32,50,32,97,110,100,32,102,32,37,32,49,48,48,32,61,32,49,49,46,46,49,57]),([111,110,101],[110,32,37,32,49,48,32,61,32,49,32,97,110,100,32,110,32,37,32,49,48,48,32,33,61,32,49,49,32,111,114,32,118,32,61,32,50,32,97,110,100,32,102,32,37,32,49,48,32,61,32,49,32,97,110,100,32,102,32,37,32,49,48,48,32,33,61,32,49,49,32,111,114,32,118,32,33,61,32,50,32,97,110,100,32,102,32,37,32,49,48,32,61,32,49])]
def Pn:List Uq:=[([111,110,101],[110,32,119,105,116,104,105,110,32,48,46,46,50,32,97,110,100,32,110,32,105,115,32,110,111,116,32,50])]
def TP:List Uq:=[([111,110,101],[105,32,61,32,48,44,49,32,97,110,100,32,110,32,33,61,32,48])]
def Tg:List Uq:=[([116,119,111],[119,61,49,32,97,110,100,32,116,32,110,111,116,32,105,110,32,53,44,55,46,46,57]),([111,110,101],[110,32,110,111,116,32,119,105,116,104,105,110,32,51,46,46,52])]
def U5:List (List Uq×Wd×Wd):=[(Jj,[49],[111,110,101]),(Jj,[49,46,48],[111,116,104,101,114]),(Jj,[50],[102,101,119]),(Jj,[49,50],[109,97,110,121]),(Jj,[50,50],[102,101,119]),(Jj,[48],[109,97,110,121]),(Jj,[50,49],[109,97,110,121]),(Jj,[45,49],[111,110,101]),(Jj,[49,49,50],[109,97,110,121]),(Jj,[49,46,53],[111,116,104,101,114]),(Jj,[49,48,48,48,48,48,48,48,48,48,48,48,48,48,48,48,48,48,48,48,48,48,48,48,48,48,48,48,50,50],[102,101,119]),(DQ,[48],[122,101,114,111]),(DQ,[48,46,48],[122,101,114,111]),(DQ,[49,46,48,48],[111,110,101]),(DQ,[50],[116,119,111]),(DQ,[49,48,51],[102,101,119]),(DQ,[49,49,49],[109,97,110,121]),(DQ,[49,48,48],[111,116,104,101,114]),(DQ,[51,46,49],[111,116,104,101,114]),(DQ,[50,48,51,46,48],[102,101,119]),(Ez,[48],[122,101,114,111]),(Ez,[49,49],[122,101,114,111]),(Ez,[50,49],[111,110,101]),(Ez,[48,46,49,49],[122,101,114,111]),(Ez,[48,46,50,49],[111,110,101]),(Ez,[48,46,49],[111,110,101]),(Ez,[48,46,48,49,49],[111,110,101]),(Ez,[50,46,50],[111,116,104,101,114]),(Pn,[49,46,53],[111,110,101]),(Pn,[50],[111,116,104,101,114]),(Pn,[50,46,48],[111,116,104,101,114]),(Pn,[50,46,49],[111,116,104,101,114]),(Pn,[48],[111,110,101]),(TP,[48],[111,116,104,101,114]),(TP,[48,46,53],[111,110,101]),(TP,[49,46,57],[111,110,101]),(TP,[50],[111,116,104,101,114]),(Tg,[49,46,49,48],[116,119,111]),(Tg,[49,46,53],[111,110,101]),(Tg,[51,46,55,48],[111,116,104,101,114]),(Tg,[51,46,53],[111,116,104,101,114]),(Tg,[52,46,48,49],[111,110,101]),(Tg,[52,46,54],[116,119,111])]
def YM:List (Wd×List Wd×Wd):=[([],[],[]),([97,39,39,98,32,39,39,123,120,125,39,39],[[120],[],[39]],[97,39,98,32,39,39,39]),([100,111,110,39,116,32,39,123,120,125,39,32,39,39],[],[100,111,110,39,116,32,123,120,125,32,39]),([39,123],[],[123]),([39,123,39,39,125],[],[123,39,125]),([35,32,39,35,39],[],[35,32,39,35,39]),([123,120,125],[[120],[110],[45,49,50,51,52,53,54,55,46,53,48]],[45,49,44,50,51,52,44,53,54,55,46,53,48]),([123,120,44,32,110,117,109,98,101,114,125],[[120],[110],[57,57,57]],[57,57,57]),([123,32,120,9,44,32,110,117,109,98,101,114,10,125],[[120],[110],[49,48,48,48]],[49,44,48,48,48]),([123,110,44,32,112,108,117,114,97,108,44,32,111,102,102,115,101,116,58,49,32,61,48,32,123,78,111,98,111,100,121,125,32,61,49,32,123,123,119,104,111,125,125,32,111,110,101,32,123,123,119,104,111,125,32,97,110,100,32,35,32,111,116,104,101,114,125,32,111,116,104,101,114,32,123,123,119,104,111,125,32,97,110,100,32,35,32,111,116,104,101,114,115,125,125],[[110],[110],[48]],[78,111,98,111,100,121]),([123,110,44,32,112,108,117,114,97,108,44,32,111,102,102,115,101,116,58,49,32,61,48,32,123,78,111,98,111,100,121,125,32,61,49,32,123,123,119,104,111,125,125,32,111,110,101,32,123,123,119,104,111,125,32,97,110,100,32,35,32,111,116,104,101,114,125,32,111,116,104,101,114,32,123,123,119,104,111,125,32,97,110,100,32,35,32,111,116,104,101,114,115,125,125],[[110],[110],[49,46,48],[119,104,111],[],[65]],[65]),([123,110,44,32,112,108,117,114,97,108,44,32,111,102,102,115,101,116,58,49,32,61,48,32,123,78,111,98,111,100,121,125,32,61,49,32,123,123,119,104,111,125,125,32,111,110,101,32,123,123,119,104,111,125,32,97,110,100,32,35,32,111,116,104,101,114,125,32,111,116,104,101,114,32,123,123,119,104,111,125,32,97,110,100,32,35,32,111,116,104,101,114,115,125,125],[[110],[110],[50],[119,104,111],[],[65]],[65,32,97,110,100,32,49,32,111,116,104,101,114]),([123,110,44,32,112,108,117,114,97,108,44,32,111,102,102,115,101,116,58,49,32,61,48,32,123,78,111,98,111,100,121,125,32,61,49,32,123,123,119,104,111,125,125,32,111,110,101,32,123,123,119,104,111,125,32,97,110,100,32,35,32,111,116,104,101,114,125,32,111,116,104,101,114,32,123,123,119,104,111,125,32,97,110,100,32,35,32,111,116,104,101,114,115,125,125],[[110],[110],[50,46,48],[119,104,111],[],[65]],[65,32,97,110,100,32,49,46,48,32,111,116,104,101,114,115]),([123,110,44,32,112,108,117,114,97,108,44,32,111,102,102,115,101,116,58,49,32,61,48,32,123,78,111,98,111,100,121,125,32,61,49,32,123,123,119,104,111,125,125,32,111,110,101,32,123,123,119,104,111,125,32,97,110,100,32,35,32,111,116,104,101,114,125,32,111,116,104,101,114,32,123,123,119,104,111,125,32,97,110,100,32,35,32,111,116,104,101,114,115,125,125],[[110],[110],[48,46,53],[119,104,111],[110],[55]],[55,32,97,110,100,32,45,48,46,53,32,111,116,104,101,114,115]),([123,110,44,32,112,108,117,114,97,108,44,32,111,102,102,115,101,116,58,49,32,61,48,32,123,78,111,98,111,100,121,125,32,61,49,32,123,123,119,104,111,125,125,32,111,110,101,32,123,123,119,104,111,125,32,97,110,100,32,35,32,111,116,104,101,114,125,32,111,116,104,101,114,32,123,123,119,104,111,125,32,97,110,100,32,35,32,111,116,104,101,114,115,125,125],[[110],[110],[49,48,48,49],[119,104,111],[],[]],[32,97,110,100,32,49,44,48,48,48,32,111,116,104,101,114,115]),([123,110,44,32,115,101,108,101,99,116,111,114,100,105,110,97,108,44,32,111,110,101,32,123,35,115,116,125,32,116,119,111,32,123,35,110,100,125,32,102,101,119,32,123,35,114,100,125,32,111,116,104,101,114,32,123,35,116,104,125,125],[[110],[110],[49]],[49,115,116]),([123,110,44,32,115,101,108,101,99,116,111,114,100,105,110,97,108,44,32,111,110,101,32,123,35,115,116,125,32,116,119,111,32,123,35,110,100,125,32,102,101,119,32,123,35,114,100,125,32,111,116,104,101,114,32,123,35,116,104,125,125],[[110],[110],[49,49]],[49,49,116,104]),([123,110,44,32,115,101,108,101,99,116,111,114,100,105,110,97,108,44,32,111,110,101,32,123,35,115,116,125,32,116,119,111,32,123,35,110,100,125,32,102,101,119,32,123,35,114,100,125,32,111,116,104,101,114,32,123,35,116,104,125,125],[[110],[110],[50,50]],[50,50,110,100]),([123,110,44,32,115,101,108,101,99,116,111,114,100,105,110,97,108,44,32,111,110,101,32,123,35,115,116,125,32,116,119,111,32,123,35,110,100,125,32,102,101,119,32,123,35,114,100,125,32,111,116,104,101,114,32,123,35,116,104,125,125],[[110],[110],[49,49,51]],[49,49,51,116,104]),([123,110,44,32,115,101,108,101,99,116,111,114,100,105,110,97,108,44,32,111,110,101,32,123,35,115,116,125,32,116,119,111,32,123,35,110,100,125,32,102,101,119,32,123,35,114,100,125,32,111,116,104,101,114,32,123,35,116,104,125,125],[[110],[110],[49,48,48,51]],[49,44,48,48,51,114,100]),([123,103,44,32,115,101,108,101,99,116,44,32,102,32,123,83,104,101,125,32,109,32,123,72,101,125,32,111,116,104,101,114,32,123,84,104,101,121,125,125,32,104,97,115,32,123,110,44,32,112,108,117,114,97,108,44,32,111,110,101,32,123,35,32,39,35,39,125,32,111,116,104,101,114,32,123,35,32,35,115,125,125],[[103],[],[109],[110],[110],[49]],[72,101,32,104,97,115,32,49,32,35]),([123,103,44,32,115,101,108,101,99,116,44,32,102,32,123,83,104,101,125,32,109,32,123,72,101,125,32,111,116,104,101,114,32,123,84,104,101,121,125,125,32,104,97,115,32,123,110,44,32,112,108,117,114,97,108,44,32,111,110,101,32,123,35,32,39,35,39,125,32,111,116,104,101,114,32,123,35,32,35,115,125,125],[[103],[],[120],[110],[110],[50]],[84,104,101,121,32,104,97,115,32,50,32,50,115]),([123,110,44,32,112,108,117,114,97,108,44,32,111,116,104,101,114,32,123,123,115,44,32,115,101,108,101,99,116,44,32,111,116,104,101,114,32,123,35,32,123,110,44,32,112,108,117,114,97,108,44,32,111,102,102,115,101,116,58,50,32,111,116,104,101,114,32,123,35,125,125,32,35,125,125,35,125,125],[[110],[110],[53],[115],[],[113]],[35,32,51,32,35,53])]
def Zw:List (Wd×Nat×Nat):=[([125],3,0),([97,123],3,2),([123,125],3,1),([123,49,125],3,1),([123,120],3,2),([123,120,44],3,3),([123,120,44,100,97,116,101,125],3,3),([123,120,44,110,117,109,98,101,114,44,125],3,9),([123,120,44,112,108,117,114,97,108,125],3,9),([123,120,44,112,108,117,114,97,108,44,125],3,10),([123,120,44,112,108,117,114,97,108,44,97,123,125,111,116,104,101,114,123,125,125],3,10),([123,120,44,112,108,117,114,97,108,44,61,48,49,123,125,111,116,104,101,114,123,125,125],3,12),([123,120,44,112,108,117,114,97,108,44,111,116,104,101,114,123,125],3,17),([123,120,44,112,108,117,114,97,108,44,111,116,104,101,114,123,39,125],3,18),([123,120,44,115,101,108,101,99,116,44,61,49,123,125,125],3,10),([123,120,44,115,101,108,101,99,116,44,111,102,102,115,101,116,58,49,32,111,116,104,101,114,123,125,125],3,16),([195,169,123],3,2),([123,97,98,99,100,101,102,103,104,105,106,107,108,109,110,111,112,113,125],3,17),([123,120,44,112,108,117,114,97,108,44,111,102,102,115,101,116,58,49,50,51,52,53,54,55,56,57,48,32,111,116,104,101,114,123,125,125],3,26),([255],2,0),([195,169,125,195],2,2),([123,120,44,115,101,108,101,99,116,44,97,123,125,125],6,13),([123,120,44,115,101,108,101,99,116,44,97,123,125,111,116,104,101,114,123,125,97,123,125,125],7,20),([123,120,44,112,108,117,114,97,108,44,111,110,101,123,125,61,49,123,125,61,49,123,125,125],7,19),([123,120,44,110,117,109,98,101,114,125,123,120,44,115,101,108,101,99,116,44,111,116,104,101,114,123,125,125],5,10),([123,120,44,115,101,108,101,99,116,44,97,123,123,120,44,110,117,109,98,101,114,125,125,125],5,12),([123,120,125,123,120,44,115,101,108,101,99,116,44,111,116,104,101,114,123,125,125,123,120,44,112,108,117,114,97,108,44,111,116,104,101,114,123,125,125],5,21),([123,97,44,115,101,108,101,99,116,44,111,116,104,101,114,123,123,97,44,115,101,108,101,99,116,44,111,116,104,101,114,123,123,97,44,115,101,108,101,99,116,44,111,116,104,101,114,123,123,97,44,115,101,108,101,99,116,44,111,116,104,101,114,123,123,97,44,115,101,108,101,99,116,44,111,116,104,101,114,123,123,97,44,115,101,108,101,99,116,44,111,116,104,101,114,123,125,125,125,125,125,125,125,125,125,125,125,125],4,95)]
theorem Tf:U5.all (fun x=>decide (XW x.1 x.2.1=x.2.2/\XA x.1 x.2.1=0))=true:=by kernel_rfl
theorem Oq:YM.all (fun x=>decide (Pl Tu x.1 x.2.1=some x.2.2) && (FG x.2.1 && decide (x.2.1.length<=16)))=true:=by kernel_rfl
def tX(r:Except (Nat×Nat) Fo)(n a:Nat):Bool:=match r with | .error x=>decide (x=(n,a)) | .ok _=>false
theorem LJ:Zw.all (fun x=>tX (jU x.1) x.2.1 x.2.2)=true:=by kernel_rfl
theorem U6:(U5.all fun x=>x.1.all (fun q=>decide (q.1.length<=1000000/\q.2.length<=1000000)) && (decide (x.1.length<=1000000) && decide (x.2.1.length<=1000000)))=true/\(YM.all fun x=>decide (x.1.length<=1000000) && x.2.1.all (fun t=>decide (t.length<=1000000)))=true/\(Zw.all fun x=>decide (x.1.length<=1000000))=true:=by
 refine⟨?_,?_,?_⟩<;>kernel_rfl
theorem Ey(s:ByteArray)(w:World){n a:Nat}(hs:s.size<=9223372036854775807)(hT:Lib.Utf8Tabs 3 4 w)(hN:ui w)(hr:jU s.data.toList = .error (n,a)) :
  Calls prog 42 #[.string s] w fun e w'=>(∃ b,e = .returned (.tuple #[.string ⟨#[]⟩,.iface 101 (.pointer (some ⟨b,0,none⟩))])/\w'.cell? ⟨b,0,none⟩=some (.int .i64 n)/\w'.cell? ⟨b,1,none⟩=some (.int .i64 a))/\Below w.heap.size w w':=by
 have HRD:=z8 (I9 s w hs hT hN);rw[hr] at HRD;clear hT hN hr;go_enter func42,ntmps42;go_wp2_with fail;refine HRD.out.mono ?_;rintro e w1 hq;obtain⟨⟨v,b,rfl,⟨va,vn,vc,rfl⟩,c0,c1⟩,xB⟩:=hq;have HQ:=z8 (show w1.cell? ⟨b,0,none⟩=some (.int .i64 n)/\w1.cell? ⟨b,1,none⟩=some (.int .i64 a)/\Below w.heap.size w w1 from⟨c0,c1,xB⟩);clear c0 c1 xB;go_wp2;go_ret2
 exact⟨⟨b,rfl,HQ.out.1,HQ.out.2.1⟩,HQ.out.2.2⟩
theorem LG{s:Wd}{w:World}{n a:Nat}(hs:s.length<=1000000)(hE:ZG w)(hr:jU s = .error (n,a)) :
  Calls prog 28 #[xk s] w fun e w'=>e = .returned (.tuple #[xk [],.int .i64 (n:Nat),.int .i64 (a:Nat)])/\Below w.heap.size w w':=by
 have HC:=z8 (Ey ⟨s.toArray⟩ w (by rw[size_mk];omega) hE.tabs.oq hE.names hr);have HR:=z8 hE.tabs.err;clear hE hr;go_enter func28,ntmps28;go_wp2_with fail;refine HC.out.mono ?_;rintro e w1 ⟨⟨b,rfl,c0,c1⟩,xB⟩;have HT:=z8 (aK b (n:Nat) (a:Nat) w1 (HR.out.below xB) c0 c1);have Rv:=z8 xB;clear c0 c1 xB;go_wp2_with fail;refine HT.out.mono ?_;rintro e w2 ⟨rfl,xD⟩;have Ko:=z8 (Rv.out.trans (xD.mono Rv.out.size));clear xD;go_wp2;refine bodyPost_ret (v := .tuple #[.string ⟨#[]⟩,.int .i64 (n:Nat),.int .i64 (a:Nat)]) ?_ rfl ?_
 ·simp[results,results28,go_sem]
 exact⟨rfl,Ko.out⟩
theorem Ok(w:World):Calls prog 38 #[] w fun e w'=>(∃ v,e = .returned v/\ud w' v Jj)/\Below w.heap.size w w':=by
 go_enter func38,ntmps38;go_wp2;refine bodyPost_ret (v := .slice (some ⟨w.heap.size,0,none⟩) 3 3) ?_ rfl ⟨⟨_,rfl,⟨_,_,rfl,fun j hj=>⟨_,_,rfl,?_,?_⟩⟩⟩,?_⟩
 ·simp[results,results38,go_sem]
 ·have IX:j<3:=hj;match j,IX with
  | 0,_=>exact(xu _ _ _ _ _).trans rfl
  | 1,_=>exact(xu _ _ _ _ _).trans rfl
  | 2,_=>exact(xu _ _ _ _ _).trans rfl
 ·have IX:j<3:=hj;match j,IX with
  | 0,_=>exact(xu _ _ _ _ _).trans rfl
  | 1,_=>exact(xu _ _ _ _ _).trans rfl
  | 2,_=>exact(xu _ _ _ _ _).trans rfl
 ·(repeat(first|(with_reducible exact zv _ _)|(with_reducible refine zX ?_ ?_ _;rotate_left;focus(first|(simp;done)|(simp;omega)))|(with_reducible refine zf ?_ ?_ _;rotate_left;focus(first|(simp;done)|(simp;omega)))))
theorem Oj(w:World):Calls prog 39 #[] w fun e w'=>(∃ v,e = .returned v/\ud w' v DQ)/\Below w.heap.size w w':=by
 go_enter func39,ntmps39;go_wp2;refine bodyPost_ret (v := .slice (some ⟨w.heap.size,0,none⟩) 5 5) ?_ rfl ⟨⟨_,rfl,⟨_,_,rfl,fun j hj=>⟨_,_,rfl,?_,?_⟩⟩⟩,?_⟩
 ·simp[results,results39,go_sem]
 ·have IX:j<5:=hj;match j,IX with
  | 0,_=>exact(xu _ _ _ _ _).trans rfl
  | 1,_=>exact(xu _ _ _ _ _).trans rfl
  | 2,_=>exact(xu _ _ _ _ _).trans rfl
  | 3,_=>exact(xu _ _ _ _ _).trans rfl
  | 4,_=>exact(xu _ _ _ _ _).trans rfl
 ·have IX:j<5:=hj;match j,IX with
  | 0,_=>exact(xu _ _ _ _ _).trans rfl
  | 1,_=>exact(xu _ _ _ _ _).trans rfl
  | 2,_=>exact(xu _ _ _ _ _).trans rfl
  | 3,_=>exact(xu _ _ _ _ _).trans rfl
  | 4,_=>exact(xu _ _ _ _ _).trans rfl
 ·(repeat(first|(with_reducible exact zv _ _)|(with_reducible refine zX ?_ ?_ _;rotate_left;focus(first|(simp;done)|(simp;omega)))|(with_reducible refine zf ?_ ?_ _;rotate_left;focus(first|(simp;done)|(simp;omega)))))
theorem LF(w:World):Calls prog 40 #[] w fun e w'=>(∃ v,e = .returned v/\ud w' v Ez)/\Below w.heap.size w w':=by
 go_enter func40,ntmps40;go_wp2;refine bodyPost_ret (v := .slice (some ⟨w.heap.size,0,none⟩) 2 2) ?_ rfl ⟨⟨_,rfl,⟨_,_,rfl,fun j hj=>⟨_,_,rfl,?_,?_⟩⟩⟩,?_⟩
 ·simp[results,results40,go_sem]
 ·have IX:j<2:=hj;match j,IX with
  | 0,_=>exact(xu _ _ _ _ _).trans rfl
  | 1,_=>exact(xu _ _ _ _ _).trans rfl
 ·have IX:j<2:=hj;match j,IX with
  | 0,_=>exact(xu _ _ _ _ _).trans rfl
  | 1,_=>exact(xu _ _ _ _ _).trans rfl
 ·(repeat(first|(with_reducible exact zv _ _)|(with_reducible refine zX ?_ ?_ _;rotate_left;focus(first|(simp;done)|(simp;omega)))|(with_reducible refine zf ?_ ?_ _;rotate_left;focus(first|(simp;done)|(simp;omega)))))
def iE(w:World)(g:Nat):Prop:=∀ k x,Zw[k]? = some x->w.cell? ⟨g,k*3,none⟩=some (xk x.1)/\w.cell? ⟨g,k*3+1,none⟩=some (.int .i64 (x.2.1:Nat))/\w.cell? ⟨g,k*3+2,none⟩=some (.int .i64 (x.2.2:Nat))
theorem Og(w:World):Calls prog 26 #[] w fun e w'=>(∃ g,e = .returned (.slice (some ⟨g,0,none⟩) 28 28)/\iE w' g)/\Below w.heap.size w w':=by
 go_enter func26,ntmps26;go_wp2;refine bodyPost_ret (v := .slice (some ⟨w.heap.size,0,none⟩) 28 28) ?_ rfl ⟨⟨_,rfl,fun k x hx=>?_⟩,?_⟩
 ·simp[results,results26,go_sem]
 ·have hk:k<28:=(zu.1 hx).1;match k,hk with
  | 0,_=>(cases hx;exact⟨(xu _ _ _ _ _).trans rfl,(xu _ _ _ _ _).trans rfl,(xu _ _ _ _ _).trans rfl⟩)
  | 1,_=>(cases hx;exact⟨(xu _ _ _ _ _).trans rfl,(xu _ _ _ _ _).trans rfl,(xu _ _ _ _ _).trans rfl⟩)
  | 2,_=>(cases hx;exact⟨(xu _ _ _ _ _).trans rfl,(xu _ _ _ _ _).trans rfl,(xu _ _ _ _ _).trans rfl⟩)
  | 3,_=>(cases hx;exact⟨(xu _ _ _ _ _).trans rfl,(xu _ _ _ _ _).trans rfl,(xu _ _ _ _ _).trans rfl⟩)
  | 4,_=>(cases hx;exact⟨(xu _ _ _ _ _).trans rfl,(xu _ _ _ _ _).trans rfl,(xu _ _ _ _ _).trans rfl⟩)
  | 5,_=>(cases hx;exact⟨(xu _ _ _ _ _).trans rfl,(xu _ _ _ _ _).trans rfl,(xu _ _ _ _ _).trans rfl⟩)
  | 6,_=>(cases hx;exact⟨(xu _ _ _ _ _).trans rfl,(xu _ _ _ _ _).trans rfl,(xu _ _ _ _ _).trans rfl⟩)
  | 7,_=>(cases hx;exact⟨(xu _ _ _ _ _).trans rfl,(xu _ _ _ _ _).trans rfl,(xu _ _ _ _ _).trans rfl⟩)
  | 8,_=>(cases hx;exact⟨(xu _ _ _ _ _).trans rfl,(xu _ _ _ _ _).trans rfl,(xu _ _ _ _ _).trans rfl⟩)
  | 9,_=>(cases hx;exact⟨(xu _ _ _ _ _).trans rfl,(xu _ _ _ _ _).trans rfl,(xu _ _ _ _ _).trans rfl⟩)
  | 10,_=>(cases hx;exact⟨(xu _ _ _ _ _).trans rfl,(xu _ _ _ _ _).trans rfl,(xu _ _ _ _ _).trans rfl⟩)
  | 11,_=>(cases hx;exact⟨(xu _ _ _ _ _).trans rfl,(xu _ _ _ _ _).trans rfl,(xu _ _ _ _ _).trans rfl⟩)
  | 12,_=>(cases hx;exact⟨(xu _ _ _ _ _).trans rfl,(xu _ _ _ _ _).trans rfl,(xu _ _ _ _ _).trans rfl⟩)
  | 13,_=>(cases hx;exact⟨(xu _ _ _ _ _).trans rfl,(xu _ _ _ _ _).trans rfl,(xu _ _ _ _ _).trans rfl⟩)
  | 14,_=>(cases hx;exact⟨(xu _ _ _ _ _).trans rfl,(xu _ _ _ _ _).trans rfl,(xu _ _ _ _ _).trans rfl⟩)
  | 15,_=>(cases hx;exact⟨(xu _ _ _ _ _).trans rfl,(xu _ _ _ _ _).trans rfl,(xu _ _ _ _ _).trans rfl⟩)
  | 16,_=>(cases hx;exact⟨(xu _ _ _ _ _).trans rfl,(xu _ _ _ _ _).trans rfl,(xu _ _ _ _ _).trans rfl⟩)
  | 17,_=>(cases hx;exact⟨(xu _ _ _ _ _).trans rfl,(xu _ _ _ _ _).trans rfl,(xu _ _ _ _ _).trans rfl⟩)
  | 18,_=>(cases hx;exact⟨(xu _ _ _ _ _).trans rfl,(xu _ _ _ _ _).trans rfl,(xu _ _ _ _ _).trans rfl⟩)
  | 19,_=>(cases hx;exact⟨(xu _ _ _ _ _).trans rfl,(xu _ _ _ _ _).trans rfl,(xu _ _ _ _ _).trans rfl⟩)
  | 20,_=>(cases hx;exact⟨(xu _ _ _ _ _).trans rfl,(xu _ _ _ _ _).trans rfl,(xu _ _ _ _ _).trans rfl⟩)
  | 21,_=>(cases hx;exact⟨(xu _ _ _ _ _).trans rfl,(xu _ _ _ _ _).trans rfl,(xu _ _ _ _ _).trans rfl⟩)
  | 22,_=>(cases hx;exact⟨(xu _ _ _ _ _).trans rfl,(xu _ _ _ _ _).trans rfl,(xu _ _ _ _ _).trans rfl⟩)
  | 23,_=>(cases hx;exact⟨(xu _ _ _ _ _).trans rfl,(xu _ _ _ _ _).trans rfl,(xu _ _ _ _ _).trans rfl⟩)
  | 24,_=>(cases hx;exact⟨(xu _ _ _ _ _).trans rfl,(xu _ _ _ _ _).trans rfl,(xu _ _ _ _ _).trans rfl⟩)
  | 25,_=>(cases hx;exact⟨(xu _ _ _ _ _).trans rfl,(xu _ _ _ _ _).trans rfl,(xu _ _ _ _ _).trans rfl⟩)
  | 26,_=>(cases hx;exact⟨(xu _ _ _ _ _).trans rfl,(xu _ _ _ _ _).trans rfl,(xu _ _ _ _ _).trans rfl⟩)
  | 27,_=>(cases hx;exact⟨(xu _ _ _ _ _).trans rfl,(xu _ _ _ _ _).trans rfl,(xu _ _ _ _ _).trans rfl⟩)
 ·(repeat(first|(with_reducible exact zv _ _)|(with_reducible refine zX ?_ ?_ _;rotate_left;focus(first|(simp;done)|(simp;omega)))|(with_reducible refine zf ?_ ?_ _;rotate_left;focus(first|(simp;done)|(simp;omega)))))
def V1(w:World)(g:Nat):Prop:=∀ k x,YM[k]? = some x->w.cell? ⟨g,k*3,none⟩=some (xk x.1)/\(∃ a c,w.cell? ⟨g,k*3+1,none⟩=some (.slice a x.2.1.length c)/\ZD w a x.2.1)/\w.cell? ⟨g,k*3+2,none⟩=some (xk x.2.2)
def Qb:World->List (List Wd)->World
 | w,[]=>w
 | w,l::r=>Qb (w.alloc (.cells (l.map xk).toArray 9)) r
theorem BH:∀ (R:List (List Wd)) (w:World),(Qb w R).heap.size=w.heap.size+R.length
 | [],_=>rfl
 | l::r,w=>by rw[Qb,BH r];simp;omega
theorem YN:∀ (R:List (List Wd)) (w:World),Below w.heap.size w (Qb w R)
 | [],_=>zv _ _
 | l::r,w=>by
  rw[Qb];exact((zv w.heap.size w).alloc (zU _) _).trans ((YN r _).mono (by simp))
theorem vP:∀ (R:List (List Wd)) (w:World) (i:Nat) (l:List Wd),R[i]? = some l->ZD (Qb w R) (some ⟨w.heap.size+i,0,none⟩) l
 | [],_,_,_,h=>by simp at h
 | l::r,w,0,l',h=>by
  have e:l=l':=by simpa using h
  subst e;refine fun _=>⟨_,_,rfl,fun j t ht=>?_⟩
  have hc:(w.alloc (.cells (l.map xk).toArray 9)).cell? ⟨w.heap.size,0+j,none⟩=some (xk t):=by
   rw[xu];simp[ht]
  rw[Qb];exact((YN r _).cell (p:=⟨w.heap.size,0+j,none⟩) (by simp)).trans hc
 | l::r,w,i+1,l',h=>by
  have:=vP r (w.alloc (.cells (l.map xk).toArray 9)) i l' (by simpa using h);rw[Qb];have e:(w.alloc (.cells (l.map xk).toArray 9)).heap.size+i=w.heap.size+(i+1):=by simp;omega
  rw[e] at this;exact this
def qW:List (List Wd):=[[[120],[],[39]],[[120],[110],[45,49,50,51,52,53,54,55,46,53,48]],[[120],[110],[57,57,57]],[[120],[110],[49,48,48,48]],[[110],[110],[48]],[[110],[110],[49,46,48],[119,104,111],[],[65]],[[110],[110],[50],[119,104,111],[],[65]],[[110],[110],[50,46,48],[119,104,111],[],[65]],[[110],[110],[48,46,53],[119,104,111],[110],[55]],[[110],[110],[49,48,48,49],[119,104,111],[],[]],[[110],[110],[49]],[[110],[110],[49,49]],[[110],[110],[50,50]],[[110],[110],[49,49,51]],[[110],[110],[49,48,48,51]],[[103],[],[109],[110],[110],[49]],[[103],[],[120],[110],[110],[50]],[[110],[110],[53],[115],[],[113]]]
theorem iH{W0:World}{cs:Array Value}{t:TypeId}{g:Nat}(hg:W0.heap.size=g)(h:∀ k x,YM[k]? = some x->cs[k*3]? = some (xk x.1)/\(∃ a c,cs[k*3+1]? = some (.slice a x.2.1.length c)/\ZD W0 a x.2.1)/\cs[k*3+2]? = some (xk x.2.2)):V1 (W0.alloc (.cells cs t)) g:=by
 intro k x hx;subst hg;obtain⟨h1,⟨a,c,h2,h3⟩,h4⟩:=h k x hx;refine⟨(xu _ _ _ _ _).trans h1,⟨a,c,(xu _ _ _ _ _).trans h2,fun vx=>?_⟩,(xu _ _ _ _ _).trans h4⟩;obtain⟨g,o,e,hc⟩:=h3 vx;exact⟨g,o,e,fun j t ht=>xQ (hc j t ht) _⟩
theorem Td(w:World):Calls prog 25 #[] w fun e w'=>(∃ g,e = .returned (.slice (some ⟨g,0,none⟩) 23 23)/\V1 w' g)/\Below w.heap.size w w':=by
 go_enter func25,ntmps25;go_wp2;have hr:∀ (v:Value) (l:List Value) (W:World),(results Tryz.f25 (v::l).toArray).run prog W = .ok v W:=fun v l W=>by simp[results,results25,go_sem]
 refine bodyPost_ret (v := .slice (some ⟨w.heap.size+18,0,none⟩) 23 23) (hr _ _ _) rfl ⟨⟨_,rfl,?_⟩,?_⟩
 ·show V1 ((Qb w qW).alloc (.cells _ _)) (w.heap.size+18);refine iH (by rw[BH];rfl) fun k x hx=>?_
  have hk:k<23:=(zu.1 hx).1;match k,hk with
  | 0,_=>(cases hx;exact⟨rfl,⟨_,_,rfl,fun h=>absurd rfl h⟩,rfl⟩)
  | 1,_=>(cases hx;exact⟨rfl,⟨_,_,rfl,vP qW w 0 _ rfl⟩,rfl⟩)
  | 2,_=>(cases hx;exact⟨rfl,⟨_,_,rfl,fun h=>absurd rfl h⟩,rfl⟩)
  | 3,_=>(cases hx;exact⟨rfl,⟨_,_,rfl,fun h=>absurd rfl h⟩,rfl⟩)
  | 4,_=>(cases hx;exact⟨rfl,⟨_,_,rfl,fun h=>absurd rfl h⟩,rfl⟩)
  | 5,_=>(cases hx;exact⟨rfl,⟨_,_,rfl,fun h=>absurd rfl h⟩,rfl⟩)
  | 6,_=>(cases hx;exact⟨rfl,⟨_,_,rfl,vP qW w 1 _ rfl⟩,rfl⟩)
  | 7,_=>(cases hx;exact⟨rfl,⟨_,_,rfl,vP qW w 2 _ rfl⟩,rfl⟩)
  | 8,_=>(cases hx;exact⟨rfl,⟨_,_,rfl,vP qW w 3 _ rfl⟩,rfl⟩)
  | 9,_=>(cases hx;exact⟨rfl,⟨_,_,rfl,vP qW w 4 _ rfl⟩,rfl⟩)
  | 10,_=>(cases hx;exact⟨rfl,⟨_,_,rfl,vP qW w 5 _ rfl⟩,rfl⟩)
  | 11,_=>(cases hx;exact⟨rfl,⟨_,_,rfl,vP qW w 6 _ rfl⟩,rfl⟩)
  | 12,_=>(cases hx;exact⟨rfl,⟨_,_,rfl,vP qW w 7 _ rfl⟩,rfl⟩)
  | 13,_=>(cases hx;exact⟨rfl,⟨_,_,rfl,vP qW w 8 _ rfl⟩,rfl⟩)
  | 14,_=>(cases hx;exact⟨rfl,⟨_,_,rfl,vP qW w 9 _ rfl⟩,rfl⟩)
  | 15,_=>(cases hx;exact⟨rfl,⟨_,_,rfl,vP qW w 10 _ rfl⟩,rfl⟩)
  | 16,_=>(cases hx;exact⟨rfl,⟨_,_,rfl,vP qW w 11 _ rfl⟩,rfl⟩)
  | 17,_=>(cases hx;exact⟨rfl,⟨_,_,rfl,vP qW w 12 _ rfl⟩,rfl⟩)
  | 18,_=>(cases hx;exact⟨rfl,⟨_,_,rfl,vP qW w 13 _ rfl⟩,rfl⟩)
  | 19,_=>(cases hx;exact⟨rfl,⟨_,_,rfl,vP qW w 14 _ rfl⟩,rfl⟩)
  | 20,_=>(cases hx;exact⟨rfl,⟨_,_,rfl,vP qW w 15 _ rfl⟩,rfl⟩)
  | 21,_=>(cases hx;exact⟨rfl,⟨_,_,rfl,vP qW w 16 _ rfl⟩,rfl⟩)
  | 22,_=>(cases hx;exact⟨rfl,⟨_,_,rfl,vP qW w 17 _ rfl⟩,rfl⟩)
 ·exact(YN qW w).alloc (YN qW w).size _
def Kg(w:World)(g:Nat):Prop:=∀ k x,U5[k]? = some x->∃ rv,w.cell? ⟨g,k*3,none⟩=some rv/\ud w rv x.1/\w.cell? ⟨g,k*3+1,none⟩=some (xk x.2.1)/\w.cell? ⟨g,k*3+2,none⟩=some (xk x.2.2)
theorem ud.al{w:World}{v:Value}{rs:List Uq}(h:ud w v rs)(o:Obj):ud (w.alloc o) v rs:=h.below ((zv _ _).alloc (zU _) _)
theorem U7(w:World)(rs:List Uq)(t:TypeId)(n:Nat)(hn:n=rs.length):ud (w.alloc (.cells (rs.flatMap fun q=>[xk q.1,xk q.2]).toArray t)) (.slice (some ⟨w.heap.size,0,none⟩) n n) rs:=by
 subst hn;refine⟨_,_,rfl,fun j hj=>⟨_,_,rfl,?_,?_⟩⟩
 ·rw[xu];have:∀ (rs:List Uq) (j:Nat) (hj:j<rs.length),(rs.flatMap fun q=>[xk q.1,xk q.2])[j*2]? = some (xk rs[j].1):=by
   intro rs;induction rs with
   | nil=>intro j hj;simp at hj
   | cons q r ih =>
    intro j hj
    cases j with
    | zero=>rfl
    | succ j=>rw[show(j+1)*2=j*2+1+1 by omega];exact ih j (by simpa using hj)
  simpa using this rs j hj
 ·rw[xu];have:∀ (rs:List Uq) (j:Nat) (hj:j<rs.length),(rs.flatMap fun q=>[xk q.1,xk q.2])[j*2+1]? = some (xk rs[j].2):=by
   intro rs;induction rs with
   | nil=>intro j hj;simp at hj
   | cons q r ih =>
    intro j hj
    cases j with
    | zero=>rfl
    | succ j=>rw[show(j+1)*2+1=j*2+1+1+1 by omega];exact ih j (by simpa using hj)
  simpa using this rs j hj
theorem pL{W0:World}{cs:Array Value}{t:TypeId}{g:Nat}(hg:W0.heap.size=g)(h:∀ k x,U5[k]? = some x->∃ rv,cs[k*3]? = some rv/\ud W0 rv x.1/\cs[k*3+1]? = some (xk x.2.1)/\cs[k*3+2]? = some (xk x.2.2)):Kg (W0.alloc (.cells cs t)) g:=by
 intro k x hx;subst hg;obtain⟨rv,h1,h2,h3,h4⟩:=h k x hx;exact⟨rv,(xu _ _ _ _ _).trans h1,h2.al _,(xu _ _ _ _ _).trans h3,(xu _ _ _ _ _).trans h4⟩
theorem iI(w:World):Calls prog 24 #[] w fun e w'=>(∃ g,e = .returned (.slice (some ⟨g,0,none⟩) 43 43)/\Kg w' g)/\Below w.heap.size w w':=by
 go_enter func24,ntmps24;go_wp2_with fail;refine(Ok w).mono ?_;rintro e w1 ⟨⟨v,rfl,hp⟩,xB⟩;obtain⟨pa,pn,pk,rfl⟩:=hp.slice;have HP:=z8 (zx hp xB);clear hp xB;go_wp2_with fail;refine(Oj w1).mono ?_;rintro e w2 ⟨⟨v,rfl,ha⟩,xD⟩;obtain⟨aa,an,ak,rfl⟩:=ha.slice;have HA:=z8 (zx (HP.out.1.below xD) (zx ha (HP.out.2.trans (xD.mono HP.out.2.size))));clear ha xD HP;go_wp2_with fail;refine(LF w2).mono ?_;rintro e w3 ⟨⟨v,rfl,hv⟩,uD⟩;obtain⟨la,ln,lk,rfl⟩:=hv.slice;have HV:=z8 (zx (HA.out.1.below uD) (zx (HA.out.2.1.below uD) (zx hv (HA.out.2.2.trans (uD.mono HA.out.2.2.size)))));clear hv uD HA;go_wp2;have hr:∀ (v:Value) (l:List Value) (W:World),(results Tryz.f24 (v::l).toArray).run prog W = .ok v W:=fun v l W=>by simp[results,results24,go_sem]
 have uF:(w3.alloc (.cells (Pn.flatMap fun q=>[xk q.1,xk q.2]).toArray 71)).heap.size=w3.heap.size+1:=by simp
 have uw:((w3.alloc (.cells (Pn.flatMap fun q=>[xk q.1,xk q.2]).toArray 71)).alloc (.cells (TP.flatMap fun q=>[xk q.1,xk q.2]).toArray 71)).heap.size=w3.heap.size+2:=by simp
 refine bodyPost_ret (v := .slice (some ⟨w3.heap.size+3,0,none⟩) 43 43) (hr _ _ _) rfl ⟨⟨_,rfl,?_⟩,?_⟩
 ·show Kg ((((w3.alloc (.cells (Pn.flatMap fun q=>[xk q.1,xk q.2]).toArray 71)).alloc (.cells (TP.flatMap fun q=>[xk q.1,xk q.2]).toArray 71)).alloc (.cells (Tg.flatMap fun q=>[xk q.1,xk q.2]).toArray 71)).alloc (.cells _ _)) (w3.heap.size+3);have hP:=((HV.out.1.al (.cells (Pn.flatMap fun q=>[xk q.1,xk q.2]).toArray 71)).al (.cells (TP.flatMap fun q=>[xk q.1,xk q.2]).toArray 71)).al (.cells (Tg.flatMap fun q=>[xk q.1,xk q.2]).toArray 71);have hA:=((HV.out.2.1.al (.cells (Pn.flatMap fun q=>[xk q.1,xk q.2]).toArray 71)).al (.cells (TP.flatMap fun q=>[xk q.1,xk q.2]).toArray 71)).al (.cells (Tg.flatMap fun q=>[xk q.1,xk q.2]).toArray 71);have hV:=((HV.out.2.2.1.al (.cells (Pn.flatMap fun q=>[xk q.1,xk q.2]).toArray 71)).al (.cells (TP.flatMap fun q=>[xk q.1,xk q.2]).toArray 71)).al (.cells (Tg.flatMap fun q=>[xk q.1,xk q.2]).toArray 71);have hW:=((U7 w3 Pn 71 1 rfl).al (.cells (TP.flatMap fun q=>[xk q.1,xk q.2]).toArray 71)).al (.cells (Tg.flatMap fun q=>[xk q.1,xk q.2]).toArray 71);have hD:=(U7 (w3.alloc (.cells (Pn.flatMap fun q=>[xk q.1,xk q.2]).toArray 71)) TP 71 1 rfl).al (.cells (Tg.flatMap fun q=>[xk q.1,xk q.2]).toArray 71);have hT:=U7 ((w3.alloc (.cells (Pn.flatMap fun q=>[xk q.1,xk q.2]).toArray 71)).alloc (.cells (TP.flatMap fun q=>[xk q.1,xk q.2]).toArray 71)) Tg 71 2 rfl;rw[uF] at hD;rw[uw] at hT;refine pL (by simp) fun k x hx=>?_
  have hk:k<43:=(zu.1 hx).1;match k,hk with
  | 0,_=>(cases hx;exact⟨_,rfl,hP,rfl,rfl⟩)
  | 1,_=>(cases hx;exact⟨_,rfl,hP,rfl,rfl⟩)
  | 2,_=>(cases hx;exact⟨_,rfl,hP,rfl,rfl⟩)
  | 3,_=>(cases hx;exact⟨_,rfl,hP,rfl,rfl⟩)
  | 4,_=>(cases hx;exact⟨_,rfl,hP,rfl,rfl⟩)
  | 5,_=>(cases hx;exact⟨_,rfl,hP,rfl,rfl⟩)
  | 6,_=>(cases hx;exact⟨_,rfl,hP,rfl,rfl⟩)
  | 7,_=>(cases hx;exact⟨_,rfl,hP,rfl,rfl⟩)
  | 8,_=>(cases hx;exact⟨_,rfl,hP,rfl,rfl⟩)
  | 9,_=>(cases hx;exact⟨_,rfl,hP,rfl,rfl⟩)
  | 10,_=>(cases hx;exact⟨_,rfl,hP,rfl,rfl⟩)
  | 11,_=>(cases hx;exact⟨_,rfl,hA,rfl,rfl⟩)
  | 12,_=>(cases hx;exact⟨_,rfl,hA,rfl,rfl⟩)
  | 13,_=>(cases hx;exact⟨_,rfl,hA,rfl,rfl⟩)
  | 14,_=>(cases hx;exact⟨_,rfl,hA,rfl,rfl⟩)
  | 15,_=>(cases hx;exact⟨_,rfl,hA,rfl,rfl⟩)
  | 16,_=>(cases hx;exact⟨_,rfl,hA,rfl,rfl⟩)
  | 17,_=>(cases hx;exact⟨_,rfl,hA,rfl,rfl⟩)
  | 18,_=>(cases hx;exact⟨_,rfl,hA,rfl,rfl⟩)
  | 19,_=>(cases hx;exact⟨_,rfl,hA,rfl,rfl⟩)
  | 20,_=>(cases hx;exact⟨_,rfl,hV,rfl,rfl⟩)
  | 21,_=>(cases hx;exact⟨_,rfl,hV,rfl,rfl⟩)
  | 22,_=>(cases hx;exact⟨_,rfl,hV,rfl,rfl⟩)
  | 23,_=>(cases hx;exact⟨_,rfl,hV,rfl,rfl⟩)
  | 24,_=>(cases hx;exact⟨_,rfl,hV,rfl,rfl⟩)
  | 25,_=>(cases hx;exact⟨_,rfl,hV,rfl,rfl⟩)
  | 26,_=>(cases hx;exact⟨_,rfl,hV,rfl,rfl⟩)
  | 27,_=>(cases hx;exact⟨_,rfl,hV,rfl,rfl⟩)
  | 28,_=>(cases hx;exact⟨_,rfl,hW,rfl,rfl⟩)
  | 29,_=>(cases hx;exact⟨_,rfl,hW,rfl,rfl⟩)
  | 30,_=>(cases hx;exact⟨_,rfl,hW,rfl,rfl⟩)
  | 31,_=>(cases hx;exact⟨_,rfl,hW,rfl,rfl⟩)
  | 32,_=>(cases hx;exact⟨_,rfl,hW,rfl,rfl⟩)
  | 33,_=>(cases hx;exact⟨_,rfl,hD,rfl,rfl⟩)
  | 34,_=>(cases hx;exact⟨_,rfl,hD,rfl,rfl⟩)
  | 35,_=>(cases hx;exact⟨_,rfl,hD,rfl,rfl⟩)
  | 36,_=>(cases hx;exact⟨_,rfl,hD,rfl,rfl⟩)
  | 37,_=>(cases hx;exact⟨_,rfl,hT,rfl,rfl⟩)
  | 38,_=>(cases hx;exact⟨_,rfl,hT,rfl,rfl⟩)
  | 39,_=>(cases hx;exact⟨_,rfl,hT,rfl,rfl⟩)
  | 40,_=>(cases hx;exact⟨_,rfl,hT,rfl,rfl⟩)
  | 41,_=>(cases hx;exact⟨_,rfl,hT,rfl,rfl⟩)
  | 42,_=>(cases hx;exact⟨_,rfl,hT,rfl,rfl⟩)
 ·exact(((HV.out.2.2.2.alloc HV.out.2.2.2.size _).alloc (by simp;have:=HV.out.2.2.2.size;omega) _).alloc (by simp;have:=HV.out.2.2.2.size;omega) _).alloc (by simp;have:=HV.out.2.2.2.size;omega) _
def Kf(c:Int)(n:Nat):Nat:=(if c<0 then -(c+1) else c).toNat % n
theorem Tb(c:Int)(n:Nat)(w:World)(h1 : -9223372036854775808<=c)(h2:c<=9223372036854775807)(hn:0<n)(dy:n<=4000000000):Calls prog 13 #[.int .i64 c,.int .i64 (n:Nat)] w fun e w'=>e = .returned (.int .i64 (Kf c n:Nat))/\w=w':=by
 have n0:((n:Int)=0)=False:=by simp;omega
 by_cases h:c<0
 ·have hw:zZ.wrap (c+1)=c+1:=by rw[zk];omega
  have FO:zZ.wrap (-(c+1)) = -(c+1):=by rw[zk];omega
  have hr:Int.tmod (-(c+1)) (n:Int)=(Kf c n:Nat):=by
   unfold Kf;rw[if_pos h,zV (by omega)];have : -(c+1)=((-(c+1)).toNat:Int):=by omega
   rw[this];simp
  clear h1 h2;go_enter func13,ntmps13;go_wp2;go_ret;exact⟨rfl,rfl⟩
 ·have hr:Int.tmod c (n:Int)=(Kf c n:Nat):=by
   unfold Kf;rw[if_neg h,zV (by omega)];have:c=(c.toNat:Int):=by omega
   rw[this];simp
  clear h1 h2;go_enter func13,ntmps13;go_wp2;go_ret;exact⟨rfl,rfl⟩
theorem Kg.below{w w':World}{g:Nat}(h:Kg w g)(hb:Below w.heap.size w w'):Kg w' g:=fun k x hx=>by
 obtain⟨rv,h1,h2,h3,h4⟩:=h k x hx;exact⟨rv,(hb.cell (z7 w _ h1)).trans h1,h2.below hb,(hb.cell (z7 w _ h3)).trans h3,(hb.cell (z7 w _ h4)).trans h4⟩
theorem V1.below{w w':World}{g:Nat}(h:V1 w g)(hb:Below w.heap.size w w'):V1 w' g:=fun k x hx=>by
 obtain⟨h1,⟨a,c,h2,h3⟩,h4⟩:=h k x hx;exact⟨(hb.cell (z7 w _ h1)).trans h1,⟨a,c,(hb.cell (z7 w _ h2)).trans h2,h3.fr (XI hb)⟩,(hb.cell (z7 w _ h4)).trans h4⟩
theorem LD{x:List Uq×Wd×Wd}(h:x∈U5):XW x.1 x.2.1=x.2.2/\XA x.1 x.2.1=0:=of_decide_eq_true (zy.1 Tf x h)
theorem TZ{x:Wd×List Wd×Wd}(h:x∈YM):Pl Tu x.1 x.2.1=some x.2.2/\FG x.2.1=true/\x.2.1.length<=16:=by
 have:=zy.1 Oq x h;simp only[zY,decide_eq_true_eq] at this;exact⟨this.1,this.2.1,this.2.2⟩
theorem Of{x:Wd×Nat×Nat}(h:x∈Zw):jU x.1 = .error (x.2.1,x.2.2):=by
 have:=zy.1 LJ x h;unfold tX at this;split at this
 ·next e he=>rw[he,of_decide_eq_true this]
 ·cases this
theorem Od(a:Int)(w:World)(ha : -9223372036854775808<=a/\a<=9223372036854775807)(hE:ZX w) :
  Calls prog 8 #[.int .i64 a] w fun e w'=>e = .returned (.bool true)/\Below w.heap.size w w':=by
 obtain⟨k,hk⟩:∃ k,Kf a 94=k:=⟨_,rfl⟩;have k1:k<94:=by rw[←hk];exact Nat.mod_lt _ (by decide)
 have HP:=z8 (fun W=>Tb a 94 W ha.1 ha.2 (by decide) (by decide));rw[hk] at HP;have HE:=z8 hE;clear hk hE ha;go_enter func8,ntmps8;go_wp2_with fail;refine(iI w).mono ?_;rintro e w1 ⟨⟨g1,rfl,h1⟩,xB⟩;have H1:=z8 (zx h1 xB);clear h1 xB;go_wp2_with fail;refine(Td w1).mono ?_;rintro e w2 ⟨⟨g2,rfl,h2⟩,xD⟩;have H2:=z8 (zx (H1.out.1.below xD) (zx h2 (H1.out.2.trans (xD.mono H1.out.2.size))));clear h2 xD H1;go_wp2_with fail;refine(Og w2).mono ?_;rintro e w3 ⟨⟨g3,rfl,h3⟩,uD⟩;have H3:=z8 (zx (H2.out.1.below uD) (zx (H2.out.2.1.below uD) (zx h3 (H2.out.2.2.trans (uD.mono H2.out.2.2.size)))));clear h3 uD H2;go_wp2_with fail;refine(HP.out w3).mono ?_;rintro e w4 ⟨rfl,rfl⟩;by_cases k2:k<43
 ·have g0:decide ((k:Int)<43)=true:=decide_eq_true (by omega);have k2i:(k:Int)<43:=by omega
  obtain⟨x,hx⟩:∃ x,U5[k]? = some x:=⟨_,zj (show k<U5.length from k2)⟩;obtain⟨rv,c0,hr,c1,c2⟩:=H3.out.1 k x hx;obtain⟨ra,rn,rk,rfl⟩:=hr.slice;have HX:=z8 hx;have HR:=z8 hr;clear hx hr;go_wp2_with fail;have kO:w3.drew.cell? ⟨g1,k*3,none⟩=some (.slice ra rn rk)/\w3.drew.cell? ⟨g1,k*3+1,none⟩=some (xk x.2.1):=⟨c0,c1⟩;have hd:Below w3.heap.size w3 w3.drew:=(zv _ _).drew;have BS:=z8 (HR.out.below hd);have HD:=z8 (H3.out.2.2.2.trans (hd.mono H3.out.2.2.2.size));have TO:w3.drew.cell? ⟨g1,k*3+2,none⟩=some (xk x.2.2):=c2;refine rt (fun W':World=>W'.cell? ⟨g1,k*3,none⟩=some (.slice ra rn rk)/\W'.cell? ⟨g1,k*3+1,none⟩=some (xk x.2.1)) [0,1,2,3,4,5,6,7,8,9] 6 kO ?_;(iterate 10 ((first|refine ty ?_|refine tn ?_);try simp only[pl]))
  refine xq ?_;clear c0 c1 c2 hd HR;generalize w3.drew=wD at HD BS kO TO ⊢;refine xg 10 (by kernel_rfl) rfl (fun K hK=>?_);go_simp;have hm:=zg HX.out;have b8:=zy.1 U6.1 x hm;simp only[zY,decide_eq_true_eq,zy] at b8;have HC:=z8 (iK x.1 (.slice ra rn rk) ⟨x.2.1.toArray⟩ wD BS.out b8.2.1 b8.1 (by rw[size_mk];exact b8.2.2) ((HE.out.below HD.out).cat));rw[show(⟨x.2.1.toArray⟩:ByteArray).data.toList=x.2.1 from rfl,(LD hm).1,(LD hm).2] at HC;clear b8 hm;refine HC.out.mono ?_;rintro e w5 ⟨rfl,kZ⟩;have Hl:w5.cell? ⟨g1,k*3,none⟩=some (.slice ra rn rk)/\w5.cell? ⟨g1,k*3+1,none⟩=some (xk x.2.1):=⟨(kZ.cell (z7 _ _ kO.1)).trans kO.1,(kZ.cell (z7 _ _ kO.2)).trans kO.2⟩;have c5:w5.cell? ⟨g1,k*3+2,none⟩=some (xk x.2.2):=(kZ.cell (z7 _ _ TO)).trans TO;have lx:=z8 (HD.out.trans (kZ.mono HD.out.size));refine hK.out _ _ Hl (fun _=>?_);clear hK K kZ HC kO TO;refine xG [11,12,13,14,15] 0 rfl (by intro _ _ d _ _ h;cases d<;>exact h) (by kernel_rfl) (by kernel_rfl) Hl ?_;(iterate 5 ((first|refine ty ?_|refine tn ?_);try simp only[pl]))
  refine xq ?_;refine wpAnyH_done (by kernel_rfl) ?_ _;clear Hl;go_wp2;go_ret;exact⟨by first|rfl|simp,lx.out⟩
 ·have g0:decide ((k:Int)<43)=false:=decide_eq_false (by omega);have g0':zZ.wrap ((k:Int) - 43)=((k - 43:Nat):Int):=by rw[zk];omega
  by_cases k3:k<66
  ·have g4:decide (((k - 43:Nat):Int)<23)=true:=decide_eq_true (by omega);obtain⟨j,hj⟩:∃ j,k - 43=j:=⟨_,rfl⟩;rw[hj] at g0' g4;have hj1:j<23:=by omega
   have ybj:(j:Int)<23:=by omega
   clear hj;obtain⟨x,hx⟩:∃ x,YM[j]? = some x:=⟨_,zj (show j<YM.length from hj1)⟩;have HX:=z8 hx;clear hx;go_wp2_with fail;refine(LU w3).mono ?_;rintro e w4 ⟨⟨c,o,rfl,hc,ho⟩,uW⟩;obtain⟨ca,cn,ck,rfl⟩:=hc.slice;obtain⟨oa,on,ok,rfl⟩:=ho.slice;have HA:=z8 (FJ.mk hc ho);have H4:=z8 (zx (H3.out.2.1.below uW) (H3.out.2.2.2.trans (uW.mono H3.out.2.2.2.size)));clear hc ho uW H3;go_wp2_with fail;refine QG ?_;intro W hW;have jT:Below w4.heap.size w4 W:=by rw[hW];exact(zv _ _).alloc (zU _) _
   have hL:zeq W w4.heap.size (.slice ca cn ck) (.slice oa on ok) 45 46 44 3 0 ⟨#[]⟩:=by
    rw[hW];refine⟨?_,?_,?_,?_,?_,?_,?_,?_⟩<;>exact xu _ _ _ _ _
   have BW:=z8 (HA.out.below jT);have HB:=z8 (zx (H4.out.1.below jT) (H4.out.2.trans (jT.mono H4.out.2.size)));obtain⟨B,hB⟩:∃ B,w4.heap.size=B:=⟨_,rfl⟩;rw[hB] at hL ⊢;clear hW jT H4 HA hB;obtain⟨c0,⟨a,c,c1,ht⟩,c2⟩:=HB.out.1 j x HX.out;obtain⟨l0,l1,l2,l3,l4,l5,l6,l7⟩:=hL;have kO:W.drew.cell? ⟨g2,j*3,none⟩=some (xk x.1)/\W.drew.cell? ⟨g2,j*3+1,none⟩=some (.slice a x.2.1.length c)/\W.drew.cell? ⟨B,0,none⟩=some (.slice ca cn ck)/\W.drew.cell? ⟨B,1,none⟩=some (.slice oa on ok)/\W.drew.cell? ⟨B,2,none⟩=some (.int .i32 45)/\W.drew.cell? ⟨B,3,none⟩=some (.int .i32 46)/\W.drew.cell? ⟨B,4,none⟩=some (.int .i32 44)/\W.drew.cell? ⟨B,5,none⟩=some (.int .u8 3)/\W.drew.cell? ⟨B,6,none⟩=some (.int .u8 0)/\W.drew.cell? ⟨B,7,none⟩=some (.string ⟨#[]⟩):=⟨c0,c1,l0,l1,l2,l3,l4,l5,l6,l7⟩;have hd:Below W.heap.size W W.drew:=(zv _ _).drew;have HT:=z8 (ht.fr (XI hd));have iL:=z8 (BW.out.below hd);have HD:=z8 (HB.out.2.trans (hd.mono HB.out.2.size));have TO:W.drew.cell? ⟨g2,j*3+2,none⟩=some (xk x.2.2):=c2;refine rt (fun W':World=>W'.cell? ⟨g2,j*3,none⟩=some (xk x.1)/\W'.cell? ⟨g2,j*3+1,none⟩=some (.slice a x.2.1.length c)/\W'.cell? ⟨B,0,none⟩=some (.slice ca cn ck)/\W'.cell? ⟨B,1,none⟩=some (.slice oa on ok)/\W'.cell? ⟨B,2,none⟩=some (.int .i32 45)/\W'.cell? ⟨B,3,none⟩=some (.int .i32 46)/\W'.cell? ⟨B,4,none⟩=some (.int .i32 44)/\W'.cell? ⟨B,5,none⟩=some (.int .u8 3)/\W'.cell? ⟨B,6,none⟩=some (.int .u8 0)/\W'.cell? ⟨B,7,none⟩=some (.string ⟨#[]⟩)) [0,1,2,3,4,5,6,7,8,9,10] 6 kO ?_;(iterate 11 ((first|refine ty ?_|refine tn ?_);try simp only[pl]))
   refine xq ?_;clear c0 c1 c2 hd ht BW HB l0 l1 l2 l3 l4 l5 l6 l7;generalize W.drew=wD at HD HT iL kO TO ⊢;refine xg 11 (by kernel_rfl) rfl (fun K hK=>?_);go_simp;have hm:=zg HX.out;have b8:=zy.1 U6.2.1 x hm;simp only[zY,decide_eq_true_eq,zy] at b8;obtain⟨f1,f2,f3⟩:=TZ hm;have HC:=z8 (Tk (cc:=c) f1 f2 b8.1 b8.2 rfl f3 (HE.out.below HD.out) iL.out HT.out);clear b8 hm f1 f2 f3;refine HC.out.mono ?_;rintro e w5 ⟨rfl,kZ⟩;have US:=z8 kZ;have Hl:w5.cell? ⟨g2,j*3,none⟩=some (xk x.1)/\w5.cell? ⟨g2,j*3+1,none⟩=some (.slice a x.2.1.length c)/\w5.cell? ⟨B,0,none⟩=some (.slice ca cn ck)/\w5.cell? ⟨B,1,none⟩=some (.slice oa on ok)/\w5.cell? ⟨B,2,none⟩=some (.int .i32 45)/\w5.cell? ⟨B,3,none⟩=some (.int .i32 46)/\w5.cell? ⟨B,4,none⟩=some (.int .i32 44)/\w5.cell? ⟨B,5,none⟩=some (.int .u8 3)/\w5.cell? ⟨B,6,none⟩=some (.int .u8 0)/\w5.cell? ⟨B,7,none⟩=some (.string ⟨#[]⟩):=by
    obtain⟨e0,e1,e2,e3,e4,e5,e6,e7,e8,e9⟩:=kO;refine⟨?_,?_,?_,?_,?_,?_,?_,?_,?_,?_⟩
    ·exact(US.out.cell (z7 _ _ e0)).trans e0
    ·exact(US.out.cell (z7 _ _ e1)).trans e1
    ·exact(US.out.cell (z7 _ _ e2)).trans e2
    ·exact(US.out.cell (z7 _ _ e3)).trans e3
    ·exact(US.out.cell (z7 _ _ e4)).trans e4
    ·exact(US.out.cell (z7 _ _ e5)).trans e5
    ·exact(US.out.cell (z7 _ _ e6)).trans e6
    ·exact(US.out.cell (z7 _ _ e7)).trans e7
    ·exact(US.out.cell (z7 _ _ e8)).trans e8
    ·exact(US.out.cell (z7 _ _ e9)).trans e9
   have c5:w5.cell? ⟨g2,j*3+2,none⟩=some (xk x.2.2):=(kZ.cell (z7 _ _ TO)).trans TO;have lx:=z8 (HD.out.trans (kZ.mono HD.out.size));refine hK.out _ _ Hl (fun _=>?_);clear hK K kZ HC kO TO US;refine xG [12,13,14,15,16] 0 rfl (by intro _ _ d _ _ h;cases d<;>exact h) (by kernel_rfl) (by kernel_rfl) Hl ?_;(iterate 5 ((first|refine ty ?_|refine tn ?_);try simp only[pl]))
   refine xq ?_;refine wpAnyH_done (by kernel_rfl) ?_ _;clear Hl;go_wp2;go_ret;exact⟨by first|rfl|simp,lx.out⟩
  ·have g4:decide (((k - 43:Nat):Int)<23)=false:=decide_eq_false (by omega);have g5:zZ.wrap (((k - 43:Nat):Int) - 23)=((k - 66:Nat):Int):=by rw[zk];omega
   obtain⟨j,hj⟩:∃ j,k - 66=j:=⟨_,rfl⟩;rw[hj] at g5;obtain⟨i,hi⟩:∃ i,k - 43=i:=⟨_,rfl⟩;rw[hi] at g0' g4 g5;have hj1:j<28:=by omega
   have ybj:(j:Int)<28:=by omega
   clear hj hi;obtain⟨x,hx⟩:∃ x,Zw[j]? = some x:=⟨_,zj (show j<Zw.length from hj1)⟩;obtain⟨c0,c1,c2⟩:=H3.out.2.2.1 j x hx;have hm:=zg hx;have hf:=Of hm;have b8:x.1.length<=1000000:=of_decide_eq_true (zy.1 U6.2.2 x hm);have HC:=z8 (LG b8 (HE.out.below H3.out.2.2.2).cmp hf);obtain⟨p,en,at_⟩:=x;clear hx hm hf b8;go_wp2_with fail;refine HC.out.mono ?_;rintro e w5 ⟨rfl,kZ⟩;have d1:w5.cell? ⟨g3,j*3+1,none⟩=some (.int .i64 (en:Nat)):=(kZ.cell (z7 _ _ c1)).trans c1;have d2:w5.cell? ⟨g3,j*3+2,none⟩=some (.int .i64 (at_:Nat)):=(kZ.cell (z7 _ _ c2)).trans c2;have lx:=z8 (H3.out.2.2.2.trans (kZ.mono H3.out.2.2.2.size));clear kZ c0 c1 c2 HC;go_wp2;go_ret;exact⟨by first|rfl|simp,lx.out⟩
end Go.Proofs.YthpldolmpinnhaaGreatDoor
